/- Parts. -/
import Derived.Laws.StructEq
import Derived.Test.YtieeckeaijdaeaaGreatDoorQaDoor
import Derived.Test.YtieeckeaijdaeaaGreatDoorRows
import Derived.Test.YtieeckeaijdaeaaGreatDoorQaCrcP
import Derived.Test.YtieeckeaijdaeaaGreatDoorQaCheck
import Derived.Test.YtieeckeaijdaeaaGreatDoorQaVarint
import Derived.Test.YtieeckeaijdaeaaGreatDoorQaRef06f
import Derived.Test.YtieeckeaijdaeaaGreatDoorQaRWith
import Derived.Test.YtieeckeaijdaeaaGreatDoorQaZ1
set_option linter.all false
set_option maxRecDepth 100000
set_option maxHeartbeats 1000000
namespace Go.Proofs.YtieeckeaijdaeaaGreatDoor
open Go.RowKit
theorem qtd (x:eu) (hok:x.aB.Ok) (hf:bX x) (w:World) (hx:eB w x):
    Calls Tryz.prog 141 #[.agg x.cells] w (Is w (.bool (mG x.aB))):=by
 have hfs:=hf.s;have hft:=hf.t;have hfg:=hf.g;have hfl:=hf.l;have hfu:=hf.u
 refine (dM Tryz.func141 123) ?_
 refine (JP∘JE) fun w1 g1=>(Jp 1∘Jj∘JQ∘JP∘Jf 0∘Jy (v:= .agg #[vI x.az,vQ x.au,.slice x.gA x.gs.length x.gc]) (h:=by exact Yl.qm rfl rfl Rh rfl (fun _ h=>h.sub (i:=0) rfl 0 rfl))∘JI (h:=by exact fun HM=>qi8 x hok hf _ (hx.old HM))) fun yM hbw=>(Jp 2) (Ju (fun cB=>?_) fun cB=>?_)
 ·
  exact (Jv 27 [(40,.bool true)]∘qR∘Jj∘JT∘JP∘Jp 1∘Jj∘JZ∘bq) fun HM=>bz (q62 (by simpa using cB)).symm HM.below
 intro a Z HM
 have hcf:fK x.aB=true:=by simpa using cB
 obtain ⟨hc1,hc2,hc3,hgs⟩:=Dc hcf
 have hcp:1≤x.az∧x.az≤64:=⟨hc1,hc2⟩
 refine Jb Z HM ((Jg 3 O0∘Jl∘Jf 0∘Jg 0 O0∘Jp 3) (Jh (fun pE=>?_) fun pE=>?_))
 ·
  exact (Jv 18 [(40,.bool true)]∘aN∘Jj∘JT∘JP∘Jp 1∘Jj∘JZ∘bq) fun HM=>bz (Ro om).symm HM.below
 refine (Jg 4 O0∘Jl∘Jf 0∘Jg 0 O0∘Jp 3) (Jh (fun hd31=>?_) fun hd31=>?_)
 ·
  exact (Jv 9 [(40,.bool true)]∘aN∘Jj∘JT∘JP∘Jp 1∘Jj∘JZ∘bq) fun HM=>bz (Ro om).symm HM.below
 refine (Jg 6 O0∘Jl∘Jf 0∘Jg 2 O0∘Jl∘Jp 2∘aN∘Jj) (Jh (fun uL=>?_) fun uL=>?_)
 ·
  exact (JT∘JP∘Jp 1∘Jj∘JZ∘bq) fun HM=>bz (Ro om).symm HM.below
 refine (JF∘aI∘JQ∘JP∘Jg 3 O0∘JI (h:=by exact fun HM=>qjz x.lA x.lc x.cl _ (HM.old hx.l) hf.l)) fun w43 hbw=>(aT∘Jj) (Ju (fun pJ=>?_) fun pJ=>?_)
 ·
  exact (JT∘JP∘Jp 1∘Jj∘JZ∘bq) fun HM=>bz (Ip (by simpa using pJ)).symm HM.below
 intro a Z HM
 have hcl:d9 x.cl.length (fun c=>gJ (x.cl.getD c 0))=true:=by simpa using pJ
 refine Jb Z HM ((JF∘aI∘JQ∘JP∘Jg 6 O0∘Jl∘Jp 1∘Jj∘JB) fun a Z HM=>?_)
 refine qj (fun mS aS wS=>∃(g:Nat),(g≤x.rs.length)∧(dA g (rowOk x.aB))∧mS=x.rs.length-g∧Fr aS 123 [] [(47,vI g),(46,vI x.rs.length),(45,.slice x.sA x.rs.length x.sc),(43,.bool false),(40,.bool false),(2,.bool false),(1,vP g1 0)]∧Mem w wS [.blk g1 x.cells 50]) (m:=x.rs.length-0) ⟨0,Nat.zero_le _,dA.zero,rfl,Z.sub kr,HM.pk [0]⟩ ?_
 clear Z HM;rintro mS a w_ ⟨g,hg,hu,rfl,Z,HM⟩
 refine Jb Z HM ((JP∘Jp 1∘Jj∘JQ) (Ju (fun hb48=>?_) fun hb48=>?_))
 ·
  intro a Z HM
  have RF:=of_decide_eq_true hb48
  have mH:g<x.rs.length:=by omega
  obtain ⟨y,hy⟩:∃z,x.rs.getD g Rw.zero=z:=⟨_,rfl⟩
  have uX:Rd w w.heap.size 3 y.A y.l.length (y.l.flatMap kU):=by rw [←hy];exact hx.row mH
  have hyl:y.l.length≤1000000:=by rw [←hy];exact hf.r _ (qs Rw.zero mH)
  have IG:∀z∈y.l,z.Ok:=by rw [←hy,←jw mH];exact hok.sp _ (qs [] (by rw [tC];exact mH))
  obtain ⟨wt,hwt⟩:∃z,(x.gs.getD g Gr.zero).weight=z:=⟨_,rfl⟩
  have hw1:=Bb hgs (show g<x.gs.length by omega)
  rw [hwt] at hw1
  obtain ⟨kH,kI,hq1,_⟩:=Rd.qp hx.g (Nat.lt_of_le_of_lt (Nat.zero_le _) (show g<x.gs.length from by omega)) de
  have gz:=hx.g;rw [hq1] at gz
  refine Jb Z HM ((JT∘aI∘JQ∘JB∘JP∘Jp 1) fun a Z HM=>?_)
  obtain ⟨xK,xL,hq2,_⟩:=Rd.qp hx.s (Nat.lt_of_le_of_lt (Nat.zero_le _) (show g<x.rs.length from by omega)) de
  have nO:=hx.s;rw [hq2] at nO
  replace Z:=Z.sp 45 (.slice (some ⟨xK,xL,none⟩) x.rs.length x.sc) rfl (by rw [hq2];try rfl)
  refine Jb Z HM ((Jy (h:=by exact Yl.ix xK xL g 1 rfl rfl rfl)∘Jy (v:= .slice ((x.rs.getD g Rw.zero).A) ((x.rs.getD g Rw.zero).l.length) ((x.rs.getD g Rw.zero).c)) (h:=by exact Yl.o1 nO g Rw.zero (by first|omega|(simp;omega)) rfl rfl)∘Jo (.slice y.A y.l.length y.c) (by rw [hy])∘Jp 2∘Jj∘JQ∘JP∘Jp 1∘Jl∘Jf 0∘Jg 0 O0∘Jp 1∘gW∘Jj) (Jh (fun Dk=>?_) fun Dk=>?_))
  ·
   exact (JT∘JP∘Jp 1∘Jj∘JZ∘bq) fun HM=>bz (Ym mH (q37 mH (by rw [hy];omega))).symm HM.below
  refine (JF∘aI∘JP∘Jp 1∘Jl∘Jp 1∘Jj∘JB) fun a Z HM=>?_
  refine qj (fun mS aS wS=>∃(c:Nat),(c≤y.l.length)∧(dA c (fun c=>fF x.aB g (y.l.getD c Sp.zero)))∧mS=y.l.length-c∧Fr aS 123 [] [(60,vI c),(59,vI y.l.length),(58,.slice y.A y.l.length y.c),(57,.bool false),(4,.slice y.A y.l.length y.c),(3,vI g),(45,.slice (some ⟨xK,xL,none⟩) x.rs.length x.sc),(48,.bool true),(47,vI g),(46,vI x.rs.length),(43,.bool false),(40,.bool false),(2,.bool false),(1,vP g1 0)]∧Mem w wS [.blk g1 x.cells 50]) (m:=y.l.length-0) ⟨0,Nat.zero_le _,dA.zero,rfl,Z.sub kr,HM.pk [0]⟩ ?_
  clear Z HM;rintro mS a w_ ⟨c,hc,hu2,rfl,Z,HM⟩
  refine Jb Z HM ((JP∘Jp 1∘Jj∘JQ) (Ju (fun pR=>?_) fun pR=>?_))
  ·
   intro a Z HM
   have Dl:=of_decide_eq_true pR
   have Dm:c<y.l.length:=by omega
   obtain ⟨z,hz⟩:∃q,y.l.getD c Sp.zero=q:=⟨_,rfl⟩
   have Fe:=IG _ (qs Sp.zero Dm)
   rw [hz] at Fe
   have hzv:=Fe.v;have hzr:=Fe.r
   refine Jb Z HM ((JT∘aI∘JQ∘JB∘JP) fun a Z HM=>?_)
   obtain ⟨uY,uZ,hq3,_⟩:=Rd.qp uX (Nat.lt_of_le_of_lt (Nat.zero_le _) (show c<y.l.length from by omega)) de
   have mI:=uX;rw [hq3] at mI
   replace Z:=Z.sp 58 (.slice (some ⟨uY,uZ,none⟩) y.l.length y.c) rfl (by rw [hq3];try rfl)
   refine Jb Z HM ((Jy (h:=by exact Yl.ix uY uZ c 3 rfl rfl rfl)∘Jy (v:= .agg ((y.l.getD c Sp.zero).cells)) (h:=by exact Yl.qm rfl rfl lH rfl (fun _ h=>(h.old mI).qQ MW ((getD_at Sp.zero Dm))))∘Jo (.agg z.cells) (by rw [hz])∘JA #[vQ 0,vW 0,vQ 0]) fun w6 g6=>(JV lH bg (h1:=by exact Yh z)) fun II=>(bK∘Jj) fun a Z HM=>?_)
   refine qP (fun aS wS=>Fr aS 123 [] [(91,.bool (!fF x.aB g z)),(6,vP g6 0),(58,.slice (some ⟨uY,uZ,none⟩) y.l.length y.c),(61,.bool true),(60,vI c),(59,vI y.l.length),(57,.bool false),(4,.slice y.A y.l.length y.c),(3,vI g),(45,.slice (some ⟨xK,xL,none⟩) x.rs.length x.sc),(48,.bool true),(47,vI g),(46,vI x.rs.length),(43,.bool false),(40,.bool false),(2,.bool false),(1,vP g1 0)]∧Mem w wS [.blk g6 z.cells 169,.blk g1 x.cells 50]) ?_ ?_
   ·
    refine Jb Z HM ((Vs .n []) fun yQ=>(Vf 0 0∘Vf 2 1∘Vf 4 0∘Vf 5 2∘Vp [7]∘Vc 1 O0∘Vc 3 O0∘Vc 6 O1) fun a Z HM HS=>?_)
    replace Z:=Z.sp 70 (.slice (some ⟨kH,kI,none⟩) x.gs.length x.gc) rfl (by rw [hq1];try rfl)
    refine Vb Z HM HS ((Vy 8 (h:=by exact Yl.ix kH kI g 2 rfl rfl rfl)∘Vf 9 1∘Vy 10 (v:=vI ((x.gs.getD g Gr.zero).weight)) (h:=by exact Yl.ze rfl rfl kr (fun _ h=>(h.old gz).partAt yS (k:=g) (j:=1) (x:=(x.gs.getD g Gr.zero)) ((getD_at Gr.zero om)) rfl))∘Vo (vI wt) (by rw [hwt])∘VI 11 .n (h:=by exact fun HM=>YG z.v z.r wt om _)) fun w75 hbw=>(VI 12 .n (h:=by exact fun HM=>YF z.v z.r wt om om om _)) fun w76 hbw=>(Vp [13,14]) fun a Z HM HS=>?_)
    rcases Z.tf 78 rfl with ⟨nP,Z⟩|⟨nP,Z⟩
    ·
     refine Vb Z HM HS ((Vq [15,16,17,18,19,20,21,22,23,24,25,26,27] [(91,.bool true)]∘Vd∘aN) fun a Z HM=>?_)
     have Z:=Z.sp 91 (.bool (!fF x.aB g z)) rfl (congrArg Value.bool (by rw [q64 (by rw [hwt];simpa using nP)];rfl))
     exact ⟨Z.sub kr,HM.pk [0,1]⟩
    refine ap Z (fun _=>HS) [15,16,17] (bt 28 [18,19,20,21,22,23,24,25,26,27]) [(81,.bool ((g:Int)==(0:Int)))] fun a Z=>?_
    refine Jb Z HM (Je (fun CX=>?_) fun CX=>?_)
    ·
     intro a Z HM
     refine ap Z (fun _=>HS) [18] (bt 28 [19,20,21,22,23,24,25,26,27]) [(82,vP g6 0)] fun a Z=>?_
     refine eY Z HS 19 0 (v:=vQ z.v) fun a Z=>?_
     refine ap Z (fun _=>HS) [20,21] (bt 28 [22,23,24,25,26,27]) [(85,.bool ((z.v:Int) !=(0:Int)))] fun a Z=>?_
     refine Jb Z HM (Jh (fun RG=>?_) fun RG=>?_)
     ·
      intro a Z HM
      refine ap Z (fun _=>HS) [22,23,24,25,26,27] (bt 28 []) [(91,.bool true)] fun a Z=>?_
      refine qh kr ?_
      have Z:=Z.sp 91 (.bool (!fF x.aB g z)) rfl (congrArg Value.bool (by rw [q65 om om];rfl))
      exact ⟨Z.sub kr,HM.pk [0,1]⟩
     intro a Z HM
     refine ap Z (fun _=>HS) [22] (bt 28 [23,24,25,26,27]) [(86,vP g6 1)] fun a Z=>?_
     refine eY Z HS 23 0 (v:=vW z.r) fun a Z=>?_
     refine ap Z (fun _=>HS) [24,25,26,27] (bt 28 []) [(91,.bool ((z.r:Int) !=(0:Int)))] fun a Z=>?_
     refine qh kr ?_
     have Z:=Z.sp 91 (.bool (!fF x.aB g z)) rfl (congrArg Value.bool (q4b (by rw [hwt];simpa using nP) om om))
     exact ⟨Z.sub kr,HM.pk [0,1]⟩
    intro a Z HM
    refine ap Z (fun _=>HS) [18,19,20,21,22,23,24,25,26,27] (bt 28 []) [(91,.bool false)] fun a Z=>?_
    refine qh kr ?_
    have Z:=Z.sp 91 (.bool (!fF x.aB g z)) rfl (congrArg Value.bool (by rw [q4a (by rw [hwt];simpa using nP) om];rfl))
    exact ⟨Z.sub kr,HM.pk [0,1]⟩
   clear Z HM;rintro a xC ⟨Z,HM⟩
   refine Jb Z HM (Ju (fun pU=>?_) fun pU=>?_)
   ·
    exact (JT∘JP∘Jp 1∘Jj∘JZ∘bq) fun HM=>bz (Ym mH (q38 mH (by rw [hy];exact Dm) (by rw [hy,hz];simpa using pU))).symm HM.below
   refine (JF∘aI∘JR∘dR 1∘Jp 1∘aT∘Jq) fun a Z HM=>?_
   replace Z:=Z.sp 58 (.slice y.A y.l.length y.c) rfl (by rw [hq3])
   exact ⟨_,om,c+1,by omega,hu2.succ (by rw [hz];simpa using pU),rfl,Z.sub kr,HM.pk [1]⟩
  intro a Z HM
  have Dl:=of_decide_eq_false pR
  refine Jb Z HM ((JF∘JX∘JG∘JR∘dR 1∘Jp 1∘aT∘Jq) fun a Z HM=>?_)
  replace Z:=Z.sp 45 (.slice x.sA x.rs.length x.sc) rfl (by rw [hq2])
  exact ⟨_,om,g+1,by omega,hu.succ (q39 mH (by rw [hy];omega) (by rw [hy];exact fun i hi=>hu2 i om)),rfl,Z.sub kr,HM.pk [0]⟩
 intro a Z HM
 have RF:=of_decide_eq_false hb48
 refine Jb Z HM ((JF∘JX∘JG∘JQ∘JP∘Jg 5 O0∘Jl∘Jp 1∘Jj∘JB) fun a Z HM=>?_)
 refine qj (fun mS aS wS=>∃(i:Nat),(i≤x.ts.length)∧(dA i (gy x.aB))∧mS=x.ts.length-i∧Fr aS 123 [] [(97,vI i),(96,vI x.ts.length),(95,.slice x.tA x.ts.length x.tc),(48,.bool false),(47,vI g),(46,vI x.rs.length),(45,.slice x.sA x.rs.length x.sc),(43,.bool false),(40,.bool false),(2,.bool false),(1,vP g1 0)]∧Mem w wS [.blk g1 x.cells 50]) (m:=x.ts.length-0) ⟨0,Nat.zero_le _,dA.zero,rfl,Z.sub kr,HM.pk [0]⟩ ?_
 clear Z HM;rintro mS a w_ ⟨i,hi,hu3,rfl,Z,HM⟩
 refine Jb Z HM ((JP∘Jp 1∘Jj∘JQ) (Ju (fun Dn=>?_) fun Dn=>?_))
 ·
  intro a Z HM
  have hd98:=of_decide_eq_true Dn
  have Dp:i<x.ts.length:=by omega
  obtain ⟨t,ht⟩:∃q,x.ts.getD i Tk.zero=q:=⟨_,rfl⟩
  have Dq:t.Ok:=by rw [←ht];exact hok.ts _ (qs Tk.zero Dp)
  have hti:=Dq.id
  unfold bC at hti
  refine Jb Z HM ((JT∘aI∘JQ∘JB∘JP∘Jp 1) fun a Z HM=>?_)
  obtain ⟨tF,tH,hq4,_⟩:=Rd.qp hx.t (Nat.lt_of_le_of_lt (Nat.zero_le _) (show i<x.ts.length from by omega)) de
  have mJ:=hx.t;rw [hq4] at mJ
  replace Z:=Z.sp 95 (.slice (some ⟨tF,tH,none⟩) x.ts.length x.tc) rfl (by rw [hq4];try rfl)
  refine Jb Z HM ((Jy (h:=by exact Yl.ix tF tH i 8 rfl rfl rfl)∘Jy (v:= .agg ((x.ts.getD i Tk.zero).cells)) (h:=by exact Yl.qm rfl rfl fM rfl (fun _ h=>(h.old mJ).qQ AY ((getD_at Tk.zero Dp))))∘Jo (.agg t.cells) (by rw [ht])∘JA #[vI 0,vI 0,vI 0,vI 0,vQ 0,.bool false,vQ 0,vW 0]) fun w8 g8=>(Jp 1∘JV fM bg (h1:=by exact Rf t)) fun YI=>(Jj) fun a Z HM=>?_)
  refine qP (fun aS wS=>Fr aS 123 [] [(121,.bool (!gy x.aB i)),(7,vI i),(8,vP g8 0),(95,.slice (some ⟨tF,tH,none⟩) x.ts.length x.tc),(98,.bool true),(97,vI i),(96,vI x.ts.length),(48,.bool false),(47,vI g),(46,vI x.rs.length),(45,.slice x.sA x.rs.length x.sc),(43,.bool false),(40,.bool false),(2,.bool false),(1,vP g1 0)]∧Mem w wS [.blk g8 t.cells 222,.blk g1 x.cells 50]) ?_ ?_
  ·
   refine Jb Z HM ((Vs .n []) fun RH=>(Vp [0,1,2]) fun a Z HM HS=>?_)
   rcases Z.tf 104 rfl with ⟨ve,Z⟩|⟨ve,Z⟩
   ·
    have hd104:=of_decide_eq_true ve
    refine Vb Z HM HS ((Vf 3 5∘Vp [5]∘Vf 10 0∘Vc 4 O1∘Hy 6 1) fun a Z HM HS=>?_)
    replace Z:=Z.sp 106 (.slice (some ⟨tF,tH,none⟩) x.ts.length x.tc) rfl (by rw [hq4];try rfl)
    refine Vb Z HM HS ((Vy 7 (h:=by exact Yl.ix tF tH (i-1) 8 rfl rfl rfl)∘Vf 8 0∘Vy 9 (v:=vI ((x.ts.getD (i-1) Tk.zero).id)) (h:=by exact Yl.ze rfl rfl kr (fun _ h=>(by have:=(h.old mJ).partAt AY (k:=(i-1)) (j:=0) (x:=(x.ts.getD (i-1) Tk.zero)) ((getD_at Tk.zero (k:=(i-1)) (by first|omega|(simp;omega)))) rfl;simpa using this)))∘Vc 11 O0∘Vp [12,13,14]) fun a Z HM HS=>?_)
    rcases Z.tf 116 rfl with ⟨vg,Z⟩|⟨vg,Z⟩
    ·
     have IJ:=of_decide_eq_true vg
     refine Vb Z HM HS ((Vp [15,16,17,18,19]∘Vd∘aN) fun a Z HM=>?_)
     have Z:=Z.sp 121 (.bool (!gy x.aB i)) rfl (congrArg Value.bool (by rw [qz6 om (by rw [ht];omega)];rfl))
     exact ⟨Z.sub kr,HM.pk [0,1]⟩
    have IJ:=of_decide_eq_false vg
    refine nG Z HS 15 rfl (v:= .agg x.cells) (Yl.qm rfl rfl ku rfl (fun _ h=>qc (h.blk (i:=1) rfl))) fun a Z=>?_
    refine nG Z HS 16 rfl (v:= .agg t.cells) (Yl.qm rfl rfl fM rfl (fun _ h=>qc (h.blk (i:=0) rfl))) fun a Z=>?_
    refine s_on Z 17 rfl (GN Z HM [.agg x.cells,.agg t.cells] (.bool (dm x.aB t)) rfl rfl (YH x t Dq hcp hf.s _) fun RI hbw HM a Z=>?_)
    refine aD (HM.pk [0,1]) (fun HS=>?_)
    refine ap Z (fun _=>HS) [18,19] (bt 20 []) [(121,.bool (!(dm x.aB t)))] fun a Z=>?_
    refine qh kr ?_
    have Z:=Z.sp 121 (.bool (!gy x.aB i)) rfl (congrArg Value.bool (by rw [Yn (by rw [ht];omega),ht]))
    exact ⟨Z.sub kr,HM.pk [0,1]⟩
   have hd104:=of_decide_eq_false ve
   refine ap Z (fun _=>HS) [3,4,5,6,7,8,9,10,11,12,13,14] (bt 20 [15,16,17,18,19]) [(116,.bool false)] fun a Z=>?_
   refine nG Z HS 15 rfl (v:= .agg x.cells) (Yl.qm rfl rfl ku rfl (fun _ h=>qc (h.blk (i:=1) rfl))) fun a Z=>?_
   refine nG Z HS 16 rfl (v:= .agg t.cells) (Yl.qm rfl rfl fM rfl (fun _ h=>qc (h.blk (i:=0) rfl))) fun a Z=>?_
   refine s_on Z 17 rfl (GN Z HM [.agg x.cells,.agg t.cells] (.bool (dm x.aB t)) rfl rfl (YH x t Dq hcp hf.s _) fun RI hbw HM a Z=>?_)
   refine aD (HM.pk [0,1]) (fun HS=>?_)
   refine ap Z (fun _=>HS) [18,19] (bt 20 []) [(121,.bool (!(dm x.aB t)))] fun a Z=>?_
   refine qh kr ?_
   have Z:=Z.sp 121 (.bool (!gy x.aB i)) rfl (congrArg Value.bool (by rw [Yn (by rw [ht];omega),ht]))
   exact ⟨Z.sub kr,HM.pk [0,1]⟩
  clear Z HM;rintro a jv ⟨Z,HM⟩
  refine Jb Z HM (Ju (fun vk=>?_) fun vk=>?_)
  ·
   exact (JT∘JP∘Jp 1∘Jj∘JZ∘bq) fun HM=>bz (Iq Dp (by simpa using vk)).symm HM.below
  refine (JF∘aI∘JR∘dR 1∘Jp 1∘aT∘Jq) fun a Z HM=>?_
  replace Z:=Z.sp 95 (.slice x.tA x.ts.length x.tc) rfl (by rw [hq4])
  exact ⟨_,om,i+1,by omega,hu3.succ (by simpa using vk),rfl,Z.sub kr,HM.pk [1]⟩
 intro a Z HM
 have hd98:=of_decide_eq_false Dn
 exact Jb Z HM ((JF∘JX∘JG∘JP∘Jp 1∘Jj∘JZ∘bq) fun HM=>bz (q63 hcf om hcl (fun i hi=>hu i om) (fun j hj=>hu3 j om)).symm HM.below)
theorem q68 {l:List Tk} {id:Int} {m:Nat} (hs:lJ l) (hm:m<l.length) (h:(l.getD m Tk.zero).id<id):∀k,k<m+1→(l.getD k Tk.zero).id<id:=fun k hk=>by
 rcases Nat.lt_or_ge k m with h1|h1
 ·have:=hs k m h1 hm;omega
 ·obtain rfl:k=m:=by omega
  exact h
theorem q4k {l:List Tk} {id:Int} {m:Nat} (hs:lJ l) (hm:m<l.length) (h:id≤(l.getD m Tk.zero).id):∀k,m≤k→k<l.length→id≤(l.getD k Tk.zero).id:=fun k hk hl=>by
 rcases Nat.lt_or_ge m k with h1|h1
 ·have:=hs m k h1 hl;omega
 ·obtain rfl:k=m:=by omega
  exact h
theorem qpt {w w':World} {l:List Tk} {id:Int} {i:Nat} (hi:i=l.length) (h1:∀k,k<i→(l.getD k Tk.zero).id<id) (hb:Below w.heap.size w w'):M7 w l id (.returned (.tuple #[vI i,.bool false])) w':=by
 subst hi
 exact search_end h1 hb
theorem yV:SI Tryz.prog 249 3:=⟨by kernel_rfl,by kernel_rfl⟩
theorem Bd (p:Int) (w:World):Calls Tryz.prog 226 #[vI p] w (Is w (.bool false)):=by
 refine (dM Tryz.func226 6) ?_
 exact (JP∘Jp 1∘Jr∘Jp 3∘Jo (.bool false) (by simp)∘Jp 1∘fC∘Jj∘JZ) qU
theorem IK (p q:Int) (w:World):Calls Tryz.prog 182 #[vI p,vI q] w (Is w (vI (gL p q))):=by
 refine (lF Tryz.func182 20) ?_
 refine (JP∘Jp 1∘Jr∘Jp 1∘JL (h:=by exact fun HM=>Bd _ _)) ?_
 rintro HM _ w8 ⟨rfl,hbw⟩
 refine ⟨_,rfl,_,HM.call hbw,?_⟩
 refine (Jp 1∘bK∘Jr∘Jp 1∘JL (h:=by exact fun HM=>Bd _ _)) ?_
 rintro HM _ uH ⟨rfl,hbw⟩
 refine ⟨_,rfl,_,HM.call hbw,?_⟩
 refine (Jp 1∘bK∘Jj∘JQ∘JP∘Jp 1∘Jj∘JF∘aI∘JQ∘JP∘Jp 1∘Jj∘JF∘aI∘JQ∘JP∘Jp 3∘bK∘Jj) (Ji (fun jf=>?_) fun jf=>?_)
 ·
  exact (JT∘JP∘Jp 1∘Jj∘JZ∘bq) fun HM=>by exact ⟨by rw [show gL p q= -1 from if_pos om],HM.below⟩
 refine (JF∘aI∘JQ∘JP∘Jp 3∘bK∘Jj) (Ji (fun pG=>?_) fun pG=>?_)
 ·
  exact (JT∘JP∘Jp 1∘Jj∘JZ∘bq) fun HM=>by exact ⟨by rw [show gL p q=1 from (if_neg om).trans (if_pos om)],HM.below⟩
 exact (JF∘aI∘JP∘Jp 1∘Jj∘JZ∘bq) fun HM=>by exact ⟨by rw [show gL p q=0 from (if_neg om).trans (if_neg om)],HM.below⟩
theorem Be (p:Nat) (w:World):Calls Tryz.prog 248 #[vQ p] w (Is w (.bool false)):=by
 refine (dM Tryz.func248 6) ?_
 exact (JP∘Jp 1∘Jr∘Jp 3∘Jo (.bool false) (by simp)∘Jp 1∘fC∘Jj∘JZ) qU
theorem IL (p q:Nat) (w:World):Calls Tryz.prog 227 #[vQ p,vQ q] w (Is w (vI (gL (p:Int) (q:Int)))):=by
 refine (lF Tryz.func227 20) ?_
 refine (JP∘Jp 1∘Jr∘Jp 1∘JL (h:=by exact fun HM=>Be _ _)) ?_
 rintro HM _ w8 ⟨rfl,hbw⟩
 refine ⟨_,rfl,_,HM.call hbw,?_⟩
 refine (Jp 1∘bK∘Jr∘Jp 1∘JL (h:=by exact fun HM=>Be _ _)) ?_
 rintro HM _ uH ⟨rfl,hbw⟩
 refine ⟨_,rfl,_,HM.call hbw,?_⟩
 refine (Jp 1∘bK∘Jj∘JQ∘JP∘Jp 1∘Jj∘JF∘aI∘JQ∘JP∘Jp 1∘Jj∘JF∘aI∘JQ∘JP∘Jp 3∘bK∘Jj) (Ji (fun jf=>?_) fun jf=>?_)
 ·
  exact (JT∘JP∘Jp 1∘Jj∘JZ∘bq) fun HM=>by exact ⟨by rw [show gL (p:Int) (q:Int)= -1 from if_pos om],HM.below⟩
 refine (JF∘aI∘JQ∘JP∘Jp 3∘bK∘Jj) (Ji (fun pG=>?_) fun pG=>?_)
 ·
  exact (JT∘JP∘Jp 1∘Jj∘JZ∘bq) fun HM=>by exact ⟨by rw [show gL (p:Int) (q:Int)=1 from (if_neg om).trans (if_pos om)],HM.below⟩
 exact (JF∘aI∘JP∘Jp 1∘Jj∘JZ∘bq) fun HM=>by exact ⟨by rw [show gL (p:Int) (q:Int)=0 from (if_neg om).trans (if_neg om)],HM.below⟩
theorem YJ (t:Tk) (id:Int) (w:World):Calls Tryz.prog 181 #[.agg t.cells,vI id] w (Is w (vI (gL t.id id))):=by
 refine (lF Tryz.func181 9) ?_
 refine (JP∘JE) fun w2 g2=>(Jp 1∘Jr∘Jg 0 O0∘Jp 1∘JL (h:=by exact fun HM=>IK t.id id _)) ?_
 rintro HM _ w8 ⟨rfl,hbw⟩
 refine ⟨_,rfl,_,HM.call hbw,?_⟩
 exact (Jp 1∘fC∘Jj∘JZ) qU
theorem qte (A:Option Addr) (c:Nat) (l:List Tk) (id:Int) (hs:lJ l) (w:World) (hr:Rd w w.heap.size 8 A l.length (l.flatMap kT)) (hn:l.length≤1000000):
    Calls Tryz.prog 180 #[.slice A l.length c,vI id,.func (.func 181) #[] #[]] w (M7 w l id):=by
 refine (MB Tryz.func180 49) ?_
 refine (JP∘Jp 2∘Jr∘Jp 1∘Jl∘Jp 1∘bK∘Jr∘Jp 3∘Jj∘JQ∘JB) fun a Z HM=>?_
 refine qj (fun mS aS wS=>∃(i:Nat) (j:Nat),(i≤j)∧(j≤l.length)∧(∀k,k<i→(l.getD k Tk.zero).id<id)∧(∀k,j≤k→k<l.length→id≤(l.getD k Tk.zero).id)∧mS=j-i∧Fr aS 49 [] [(10,vI j),(9,vI i),(8,vI l.length),(7,.bool false),(6,vI 0),(0,.slice A l.length c),(1,vI id),(2,.func (.func 181) #[] #[])]∧Mem w wS []) (m:=l.length-0) ⟨0,l.length,Nat.zero_le _,Nat.le_refl _,fun k h=>by omega,fun k h1 h2=>by omega,rfl,Z.sub kr,HM.pk []⟩ ?_
 clear Z HM;rintro mS a w_ ⟨i,j,hij,hj,h1,h2,rfl,Z,HM⟩
 refine Jb Z HM ((JQ∘JP∘Jp 3∘bK∘Jj) (Ju (fun pV=>?_) fun pV=>?_))
 ·
  intro a Z HM
  have mr:=of_decide_eq_true pV
  have hmid:i≤((i+j)/2)∧((i+j)/2)<j:=by omega
  refine Jb Z HM ((JT∘aI∘JB∘JP∘Jp 2∘Ja∘Jw .u64∘Jp 1∘Jo (vQ ((i+j)/2:Nat)) (by exact yz .u64 (i+j) (j:=1) (q:=2) rfl rfl)∘Jw .i64∘Jp 1∘aN∘Jr∘Jp 3) ?_)
  repeat (first|clear Z|clear HM)
  intro a Z HM
  obtain ⟨gA,oA,rfl,_⟩:=hr.qp (Nat.lt_of_le_of_lt (Nat.zero_le _) (show (i+j)/2<l.length from by omega)) de
  refine Jb Z HM ((Jy (h:=by exact Yl.ix gA oA ((i+j)/2) 8 rfl rfl rfl)∘Jy (v:= .agg ((l.getD ((i+j)/2) Tk.zero).cells)) (h:=by exact Yl.qm rfl rfl fM rfl (fun _ h=>(h.old hr).qQ AY ((getD_at Tk.zero om))))∘Jp 1) fun a Z HM=>?_)
  refine fo Z 6 rfl rfl ?_
  refine zg Z (f:=181) (vs:=[.agg ((l.getD ((i+j)/2) Tk.zero).cells),vI id]) (fst:=[]) (aJ:=[]) rfl rfl rfl kr rfl de (YJ (l.getD ((i+j)/2) Tk.zero) id _) ?_
  rintro _ w30 ⟨rfl,hbw⟩
  refine ⟨_,rfl,?_⟩
  replace HM:=HM.call hbw
  clear Z;intro a Z
  refine Jb Z HM ((Jp 1∘Jo (.bool (decide ((l.getD ((i+j)/2) Tk.zero).id<id))) (by exact congrArg Value.bool Yr)∘aN∘Jj) (Ju (fun vo=>?_) fun vo=>?_))
  ·
   intro a Z HM
   have hd31:=of_decide_eq_true vo
   have hlt:(l.getD ((i+j)/2) Tk.zero).id<id:=by simpa using vo
   refine Jb Z HM ((JT∘JR∘Jp 1∘dR 1∘Jp 1∘bK∘Jq) fun a Z HM=>?_)
   exact ⟨_,om,(((i+j)/2)+1),j,by omega,hj,q68 hs om hlt,h2,rfl,Z.sub kr,HM.pk []⟩
  intro a Z HM
  have hd31:=of_decide_eq_false vo
  have hge:¬(l.getD ((i+j)/2) Tk.zero).id<id:=by simpa using vo
  refine Jb Z HM ((JF∘JR∘Jp 2∘aT∘Jq) fun a Z HM=>?_)
  exact ⟨_,om,i,((i+j)/2),by omega,by omega,h1,q4k hs om om,rfl,Z.sub kr,HM.pk []⟩
 intro a Z HM
 have mr:=of_decide_eq_false pV
 revert HM;revert a;repeat (first|clear Z|clear HM)
 intro a Z HM
 obtain rfl:i=j:=by omega
 refine Jb Z HM ((JF∘JX∘JG∘JP∘Jp 5) (Ji (fun hd39=>?_) fun hd39=>?_))
 ·
  refine (Jp 3) ?_
  repeat (first|clear Z|clear HM)
  intro a Z HM
  obtain ⟨gA,oA,rfl,_⟩:=hr.qp (Nat.lt_of_le_of_lt (Nat.zero_le _) (show i<l.length from by omega)) de
  refine Jb Z HM ((Jy (h:=by exact Yl.ix gA oA i 8 rfl rfl rfl)∘Jy (v:= .agg ((l.getD i Tk.zero).cells)) (h:=by exact Yl.qm rfl rfl fM rfl (fun _ h=>(h.old hr).qQ AY ((getD_at Tk.zero om))))∘Jp 1) fun a Z HM=>?_)
  refine fo Z 11 rfl rfl ?_
  refine zg Z (f:=181) (vs:=[.agg ((l.getD i Tk.zero).cells),vI id]) (fst:=[]) (aJ:=[]) rfl rfl rfl kr rfl de (YJ (l.getD i Tk.zero) id _) ?_
  rintro _ w46 ⟨rfl,hbw⟩
  refine ⟨_,rfl,?_⟩
  replace HM:=HM.call hbw
  clear Z;intro a Z
  exact Jb Z HM ((Jp 1∘Jo (.bool (decide ((l.getD i Tk.zero).id=id))) (by exact congrArg Value.bool Yt)∘Jp 3∘Jj∘JZ∘dL) fun HM=>qwo hs om h1 h2 HM.below)
 exact (Jv 11 [(7,.bool false),(6,vI i)]∘Jj∘JZ∘dL) fun HM=>qpt om h1 HM.below
theorem qww (x:eu) (gm:Nat) (id:Int) (hs:lJ x.ts) (w:World) (hm:w.heap[gm]?=some (.cells #[vI x.az,vQ x.au,.slice x.gA x.gs.length x.gc,.slice x.lA x.cl.length x.lc,.slice x.uA x.cu.length x.uc,.slice x.tA x.ts.length x.tc,.slice x.sA x.rs.length x.sc,.bool true] 247 (0,0))) (ht:Rd w w.heap.size 8 x.tA x.ts.length (x.ts.flatMap kT)) (hn:x.ts.length≤1000000):
    Calls Tryz.prog 142 #[vP gm 0,vI id] w (Is w (vI (jg x.ts id))):=by
 refine (lF Tryz.func142 20) ?_
 refine (JP∘Jp 1∘Jr∘Jp 1∘Jn∘Jf 0∘Jf 5∘Jy (v:= .slice x.tA x.ts.length x.tc) (h:=by exact Yl.ze rfl rfl kr (fun _ h=>h.mg hm rfl))∘Jp 1∘JL (h:=by exact fun HM=>qte x.tA x.tc x.ts id hs _ (HM.old ht) hn)) ?_
 rintro HM _ yI ⟨⟨i,b,rfl,hil,hib⟩,hbw⟩
 refine ⟨_,rfl,_,HM.call hbw,?_⟩
 refine (Jp 1∘Jx∘Jx∘Jp 2∘Jj∘JQ∘JP∘Jp 2∘bK∘Jj) (Ju (fun iq=>?_) fun iq=>?_)
 ·
  exact (JT∘JP∘Jp 1∘Jj∘JZ∘bq) fun HM=>by exact ⟨by rw [←hib,if_neg (by simpa using iq)],HM.below⟩
 exact (JF∘aI∘JP∘Jp 2∘aT∘Jj∘JZ∘bq) fun HM=>by exact ⟨by rw [←hib,if_pos (by simpa using iq)],HM.below⟩
def RJ (x:eu) (gm c g:Nat):Prop:=∀w:World,eB w x→w.heap[gm]?=some (.cells #[vI x.az,vQ x.au,.slice x.gA x.gs.length x.gc,.slice x.lA x.cl.length x.lc,.slice x.uA x.cu.length x.uc,.slice x.tA x.ts.length x.tc,.slice x.sA x.rs.length x.sc,.bool true] 247 (0,0))→Calls Tryz.prog 143 #[vP gm 0,vI g,vI c] w (Is w (.tuple #[.agg (dn gK (fG x.aB g c)).cells,.bool (!(fG x.aB g c).isEmpty)]))
theorem qX {x:eu} {i:Nat} (h:gy x.aB i=true):1≤(x.ts.getD i Tk.zero).id∧(x.ts.getD i Tk.zero).id≤65535:=by
 have h1:=(M5 h).2
 unfold dm at h1
 rw [Bool.and_eq_true,decide_eq_true_eq] at h1
 exact ⟨h1.1.1,h1.1.2.1⟩
theorem qtf {p:Nat→Prop} {k:Nat} (h:∀i,i<k→p i) (hk:p k):∀i,i<k+1→p i:=fun i hi=>by
 rcases Nat.lt_or_ge i k with h1|h1
 ·exact h i h1
 ·obtain rfl:i=k:=by omega
  exact hk
theorem qn1 (m n:Mb) (A A2:Option Addr) (c c2:Nat) (w:World) (hr:Rd w w.heap.size 1 A 3 (m.nums.map aK)) (hr2:Rd w w.heap.size 1 A2 3 (n.nums.map aK)):
    Calls Tryz.prog 184 #[.slice A 3 c,.slice A2 3 c2] w (uO w m n):=by
 refine (lF Tryz.func184 36) ?_
 refine (JP∘Jp 1∘Jj∘JQ∘JP∘Jp 1∘Jl∘Jp 1∘Jj∘JB) fun a Z HM=>?_
 refine qj (fun mS aS wS=>∃(k:Nat),(k≤3)∧(∀i,i<k→m.nums.getD i 0=n.nums.getD i 0)∧mS=3-k∧Fr aS 36 [] [(11,vI k),(10,vI 3),(9,.slice A 3 c),(4,vI 0),(0,.slice A 3 c),(1,.slice A2 3 c2)]∧Mem w wS []) (m:=3-0) ⟨0,by decide,fun i h=>by omega,rfl,Z.sub kr,HM.pk []⟩ ?_
 clear Z HM;rintro mS a w_ ⟨k,hk,he,rfl,Z,HM⟩
 refine Jb Z HM ((JP∘Jp 1∘Jj∘JQ) (Ju (fun ek=>?_) fun ek=>?_))
 ·
  intro a Z HM
  have j4:=of_decide_eq_true ek
  have Hz:k<3:=by omega
  refine Jb Z HM ((JT∘aI∘JQ∘JB∘JP∘Jp 1) ?_)
  repeat (first|clear Z|clear HM)
  intro a Z HM
  obtain ⟨gA,oA,rfl,_⟩:=hr.qp (Nat.lt_of_le_of_lt (Nat.zero_le _) (show k<3 from by omega)) de
  refine Jb Z HM ((Jy (h:=by exact Yl.ix gA oA k 1 rfl rfl rfl)∘Jy (h:=by exact Yl.o1 hr k 0 (show k<3 by omega) rfl rfl)∘Jp 2∘Jj∘JQ∘JP∘Jp 2∘Jl∘Jp 1∘Jo (.bool false) (by exact congrArg Value.bool (decide_eq_false om))∘fC∘Jj∘JF∘aI∘JP∘Jp 2) ?_)
  repeat (first|clear Z|clear HM)
  intro a Z HM
  obtain ⟨Nc,oA2,rfl,_⟩:=hr2.qp (Nat.lt_of_le_of_lt (Nat.zero_le _) (show k<3 from by omega)) de
  refine Jb Z HM ((Jy (h:=by exact Yl.ix Nc oA2 k 1 rfl rfl rfl)∘Jy (h:=by exact Yl.o1 hr2 k 0 (show k<3 by omega) rfl rfl)∘Jp 1∘gW∘Jr∘Jp 2∘JL (h:=by exact fun HM=>IL (m.nums.getD k 0) (n.nums.getD k 0) _)) ?_)
  rintro HM _ YK ⟨rfl,hbw⟩
  refine ⟨_,rfl,_,HM.call hbw,?_⟩
  refine (Jp 1∘fC∘Jr∘Jp 2∘Jo (.bool (decide (((m.nums.getD k 0):Int)≠((n.nums.getD k 0):Int)))) (by exact congrArg Value.bool q4c)∘aT∘Jj) (Ji (fun hd28=>?_) fun hd28=>?_)
  ·
   exact (JT∘JP∘Jp 2∘aT∘Jj∘JZ∘bq) fun HM=>qz9 Hz he om HM.below
  refine (JF∘aI∘JR∘dR 1∘Jp 1∘aT∘Jq) fun a Z HM=>?_
  exact ⟨_,om,k+1,by omega,qtf he om,rfl,Z.sub kr,HM.pk []⟩
 intro a Z HM
 have j4:=of_decide_eq_false ek
 exact Jb Z HM ((JF∘JX∘JG∘JQ∘JP∘Jp 1∘Jl∘Jp 1∘Jl∘Jv 1 [(35,.bool false)]∘gW∘Jj∘JF∘aI∘JP∘Jp 1∘Jj∘JZ∘bq) fun HM=>q0a (fun i hi=>he i om) HM.below)
theorem q69 (m:Mb) (w:World):Calls Tryz.prog 144 #[.agg m.cells] w (Is w (vQ (m.v:Int))):=by
 refine (dM Tryz.func144 5) ?_
 exact (JP∘JE) fun w1 g1=>(Jp 1∘Jr∘Jy (v:=vP g1 0) (h:=by exact Yl.GX (ad:=⟨g1,0,none⟩) (m:=3) (y:=0) (sz:=1) rfl rfl rfl kr de)∘Jc O0∘Jp 1∘bK∘Jj∘JZ) qU
theorem q4l (W w:World) (gs gb:Nat) (sm:Bool) (m n:Mb) (fs:List ag) (HM:Mem W w (.blk gs #[.bool sm] 4:: .blk gb n.cells 249::fs)):
    Calls Tryz.prog 183 ([.agg m.cells,vP gs 0,vP gb 0]:List Value).toArray w fun r w'=>r= .returned (.tuple #[])∧Mem W w' (.blk gs #[.bool true] 4:: .blk gb (if m.lt n then m else n).cells 249::fs):=by
 refine pz Tryz.func183 [.agg m.cells,vP gs 0,vP gb 0] [(0,.agg m.cells),(1,vP gs 0),(2,vP gb 0)] fun a Z=>?_
 refine Jb Z HM ((JP∘JE) fun w3 g3=>(aT∘Jr∘JW fJ bg) fun ahL=>(aT∘Jj) fun a Z HM=>?_)
 refine wp_seq ?_
 refine Jb Z HM ((Vs .n []) fun wd2=>(Vy 0 (v:=vS g3 3 3) (h:=by exact Yl.Yq (n:=3) (sz:=1) rfl rfl kr)∘Vy 1 (v:=vS gb 3 3) (h:=by exact Yl.Yq (n:=3) (sz:=1) rfl rfl kr)) fun a Z HM HS=>?_)
 refine s_on Z 2 rfl ?_
 refine o8 Z [vS g3 3 3,vS gb 3 3] rfl rfl (qn1 m n (some ⟨g3,0,none⟩) (some ⟨gb,0,none⟩) 3 3 _ (HM.aZ (i:=0) (n:=3) (size:=1) rfl rfl) (HM.aZ (i:=2) (n:=3) (size:=1) rfl rfl)) ?_
 rintro _ w6 ⟨⟨cc,rfl,hcc⟩,hbw⟩
 refine ⟨_,rfl,?_⟩
 replace HM:=HM.call hbw
 clear Z;intro a Z
 refine aD (HM.pt 3 [0,1,2]) (fun HS=>?_)
 refine Vb Z HM HS ((Vq [3] [(7,.bool (decide ((cc:Int)<(0:Int))))]∘Vo (.bool (m.lt n)) (by exact congrArg Value.bool hcc)∘Vd∘fC) (Ju (fun RL=>?_) fun RL=>?_))
 ·
  refine (JT∘JR∘Jy (v:= .agg m.cells) (h:=by exact Yl.qm rfl rfl yV rfl (fun _ h=>qc (h.blk (i:=0) rfl)))∘JV yV fA (h1:=by exact M8 m)) fun RN=>(xA∘Jq) fun a Z HM=>?_
  refine iM rfl Z ⟨rfl,?_⟩
  rw [if_pos RL]
  exact HM.pt 3 [1,2]
 refine (JF∘JS) fun a Z HM=>?_
 refine iM rfl Z ⟨rfl,?_⟩
 rw [if_neg (by rw [RL];decide)]
 exact HM.pt 3 [1,2]
theorem YL (W w:World) (gs gb:Nat) (sm:Bool) (m:Mb) (q:List Mb) (fs:List ag) (HM:Mem W w (.blk gs #[.bool sm] 4:: .blk gb (dn gK q).cells 249::fs)):
  Calls Tryz.prog 183 ([.agg m.cells,vP gs 0,vP gb 0]:List Value).toArray w fun r w'=>r= .returned (.tuple #[])∧Mem W w' (.blk gs #[.bool (!(q++[m]).isEmpty)] 4:: .blk gb (dn gK (q++[m])).cells 249::fs):=by
 have h1:=q4l W w gs gb sm m _ fs HM
 rw [←qta] at h1
 rw [show (!(q++[m]).isEmpty)=true from by simp]
 exact h1
theorem qtg (x:eu) (hok:x.aB.Ok) (hf:bX x) (hsh:ShAt x) (gm c:Nat) (hc:(c:Int)<x.az) (g:Nat) (hg:g<x.rs.length) (ih:∀h,g<h→h<x.rs.length→RJ x gm c h):RJ x gm c g:=by
 intro w hx hm
 have hfs:=hf.s;have hft:=hf.t;have hfg:=hf.g;have hrl:=hsh.rs;have hto:=hok.ts
 obtain ⟨hc1,hc2,_,_⟩:=Dc hsh.Fa
 refine (MB Tryz.func143 102) ?_
 refine (JP∘JA #[vQ 0,vQ 0,vQ 0]) fun w6 g6=>(Jp 1∘Jr∘Jy (v:= .agg #[vQ 18446744073709551615,vQ 18446744073709551615,vQ 18446744073709551615]) (h:=by exact Yl.Rp (n:=3) (sz:=1) (vs:=[(0,vQ 18446744073709551615),(1,vQ 18446744073709551615),(2,vQ 18446744073709551615)]) rfl rfl kr kr)∘JA #[vQ 0,vQ 0,vQ 0]) fun w8 g8=>(JA #[.bool false]) fun w9 g9=>(JV yV fJ) fun ahN=>(JW bg bg) fun CO=>(Jr∘Jy (h:=by exact Yl.makeFunc (fst:=[]) (aJ:=[vP g9 0,vP g8 0]) rfl rfl rfl)∘Jp 1∘aT∘Jq) fun a Z HM=>?_
 replace HM:=HM.Ir (i:=1) (ds:=(dn gK []).cells) rfl rfl
 refine Jb Z HM ((JG∘JQ∘JP∘Jp 1∘Jn∘Jf 0∘Jf 5∘Jy (v:= .slice x.tA x.ts.length x.tc) (h:=by exact Yl.ze rfl rfl kr (fun _ h=>h.mg hm rfl))∘Jl∘Jp 1∘Jj∘JB) fun a Z HM=>?_)
 refine qj (fun mS aS wS=>∃(i:Nat) (q:List Mb),(i≤x.ts.length)∧(q=(x.ts.take i).filterMap (xI · g c))∧mS=x.ts.length-i∧Fr aS 102 [] [(24,vI i),(23,vI x.ts.length),(22,.slice x.tA x.ts.length x.tc),(10,.func (.func 183) #[] #[vP g9 0,vP g8 0]),(9,vP g9 0),(8,vP g8 0),(7,.bool false),(6,vP g6 0),(0,vP gm 0),(1,vI g),(2,vI c)]∧Mem w wS [.blk g9 #[.bool (!q.isEmpty)] 4,.blk g8 ((dn gK q).cells) 249,.blk g6 #[vQ 0,vQ 0,vQ 0] 249]) (m:=x.ts.length-0) ⟨0,[],Nat.zero_le _,rfl,rfl,Z.sub kr,HM.pk [0,1,2]⟩ ?_
 clear Z HM;rintro mS a w_ ⟨i,q,hi,hq,rfl,Z,HM⟩
 refine Jb Z HM ((JP∘Jp 1∘Jj∘JQ) (Ju (fun gM=>?_) fun gM=>?_))
 ·
  intro a Z HM
  have hd25:=of_decide_eq_true gM
  have yX:i<x.ts.length:=by omega
  obtain ⟨t,ht⟩:∃z,(x.ts.getD i Tk.zero)=z:=⟨_,rfl⟩
  have Dr:=qX (hsh.tk i yX)
  rw [ht] at Dr
  refine Jb Z HM ((JT∘aI∘JQ∘JB∘JP) fun a Z HM=>?_)
  obtain ⟨kH,kI,hq1,_⟩:=Rd.qp hx.t (Nat.lt_of_le_of_lt (Nat.zero_le _) (show i<x.ts.length from by omega)) de
  have gz:=hx.t;rw [hq1] at gz
  replace Z:=Z.sp 22 (.slice (some ⟨kH,kI,none⟩) x.ts.length x.tc) rfl (by rw [hq1];try rfl)
  refine Jb Z HM ((Jy (h:=by exact Yl.ix kH kI i 8 rfl rfl rfl)∘Jy (v:= .agg ((x.ts.getD i Tk.zero).cells)) (h:=by exact Yl.qm rfl rfl fM rfl (fun _ h=>(h.old gz).qQ AY ((getD_at Tk.zero yX))))∘Jo (.agg t.cells) (by rw [ht])∘JA #[vI 0,vI 0,vI 0,vI 0,vQ 0,.bool false,vQ 0,vW 0]) fun EW g12=>(JV fM bg (h1:=by exact Rf t)) fun yN=>(bK∘Jj) fun a Z HM=>?_)
  refine qP (fun aS wS=>Fr aS 102 [] [(41,.bool (t.here g c)),(12,vP g12 0),(22,.slice (some ⟨kH,kI,none⟩) x.ts.length x.tc),(25,.bool true),(24,vI i),(23,vI x.ts.length),(10,.func (.func 183) #[] #[vP g9 0,vP g8 0]),(9,vP g9 0),(8,vP g8 0),(7,.bool false),(6,vP g6 0),(0,vP gm 0),(1,vI g),(2,vI c)]∧Mem w wS [.blk g12 t.cells 222,.blk g9 #[.bool (!q.isEmpty)] 4,.blk g8 ((dn gK q).cells) 249,.blk g6 #[vQ 0,vQ 0,vQ 0] 249]) ?_ ?_
  ·
   refine zq ?_
   refine Jb Z HM ((Jg 5 O0∘Jp 1) (Ju (fun jh=>?_) fun jh=>?_))
   ·
    refine (Jg 1 O0∘Jp 4) (Je (fun RO=>?_) fun RO=>?_)
    ·
     refine (Jg 3 O0∘Jp 3∘aN∘Jq) fun a Z HM=>?_
     have Z:=Z.sp 41 (.bool (t.here g c)) rfl (congrArg Value.bool (by unfold Tk.here;rw [jh,decide_eq_true om,Bool.true_and,Bool.true_and,Bool.eq_iff_iff,beq_iff_eq,decide_eq_true_eq]))
     exact ⟨Z.sub kr,HM.pk [0,1,2,3]⟩
    refine (Jp 5∘aN∘Jq) fun a Z HM=>?_
    have Z:=Z.sp 41 (.bool (t.here g c)) rfl (congrArg Value.bool (by unfold Tk.here;rw [jh,decide_eq_false om];rfl))
    exact ⟨Z.sub kr,HM.pk [0,1,2,3]⟩
   refine (Jv 11 [(41,.bool false)]∘bK∘Jq) fun a Z HM=>?_
   have Z:=Z.sp 41 (.bool (t.here g c)) rfl (congrArg Value.bool (by unfold Tk.here;rw [jh];rfl))
   exact ⟨Z.sub kr,HM.pk [0,1,2,3]⟩
  clear Z HM;rintro a w6 ⟨Z,HM⟩
  refine Jb Z HM (Ju (fun Dt=>?_) fun Dt=>?_)
  ·
   intro a Z HM
   have hq2:q++[(⟨t.v,0,t.id.toNat⟩:Mb)]=(x.ts.take (i+1)).filterMap (xI · g c):=by rw [Rq Tk.zero yX,←hq,ht,xI,if_pos Dt];rfl
   refine Jb Z HM ((JT∘JR∘Jp 1∘Jg 6 O0∘Jg 0 O0∘Jv 1 [(47,vQ (IntKind.u64.wrap t.id))]∘Jo (vQ t.id.toNat) (by exact GV om om)∘Jy (v:= .agg #[vQ t.v,vQ 0,vQ t.id.toNat]) (h:=by exact Yl.Rp (n:=3) (sz:=1) (vs:=[(0,vQ t.v),(1,vQ 0),(2,vQ t.id.toNat)]) rfl rfl kr kr)) fun a Z HM=>?_)
   refine fo Z 7 rfl rfl ?_
   refine zg Z (f:=183) (vs:=[.agg #[vQ t.v,vQ 0,vQ t.id.toNat]]) (fst:=[]) (aJ:=[vP g9 0,vP g8 0]) rfl rfl rfl kr rfl de (YL w _ g9 g8 _ (⟨t.v,0,t.id.toNat⟩:Mb) q _ (HM.pk [1,2,0,3])) ?_
   rintro _ Rx ⟨rfl,dh⟩
   refine ⟨_,rfl,?_⟩
   replace HM:=dh
   clear Z;intro a Z
   refine Jb Z HM ((jc∘Jj∘JR∘dR 1∘Jp 1∘aT∘Jq) fun a Z HM=>?_)
   replace Z:=Z.sp 22 (.slice x.tA x.ts.length x.tc) rfl (by rw [hq1])
   exact ⟨_,om,i+1,(q++[(⟨t.v,0,t.id.toNat⟩:Mb)]),by omega,hq2,rfl,Z.sub kr,HM.pk [0,1,3]⟩
  intro a Z HM
  have hq2:q=(x.ts.take (i+1)).filterMap (xI · g c):=by rw [Rq Tk.zero yX,←hq,ht,xI,if_neg (by rw [Dt];decide)];simp
  refine Jb Z HM ((JF∘aI∘JR∘dR 1∘Jp 1∘aT∘Jq) fun a Z HM=>?_)
  replace Z:=Z.sp 22 (.slice x.tA x.ts.length x.tc) rfl (by rw [hq1])
  exact ⟨_,om,i+1,q,by omega,hq2,rfl,Z.sub kr,HM.pk [1,2,3]⟩
 intro a Z HM
 have hd25:=of_decide_eq_false gM
 rw [List.take_of_length_le (by omega:x.ts.length≤i)] at hq
 refine Jb Z HM ((JF∘JX∘JG∘JQ∘JP∘Jp 1∘dR 1∘Jp 1∘bK∘Jj∘JB) fun a Z HM=>?_)
 refine qj (fun mS aS wS=>∃(u:Nat) (q:List Mb),(g+1≤u)∧(u≤x.rs.length)∧(q=x.ts.filterMap (xI · g c)++((((List.range x.rs.length).drop (g+1)).take (u- (g+1))).filterMap (kR x.aB c (fun u=>fG x.aB u c) g)))∧mS=x.rs.length-u∧Fr aS 102 [] [(13,vI u),(25,.bool false),(24,vI i),(23,vI x.ts.length),(22,.slice x.tA x.ts.length x.tc),(10,.func (.func 183) #[] #[vP g9 0,vP g8 0]),(9,vP g9 0),(8,vP g8 0),(7,.bool false),(6,vP g6 0),(0,vP gm 0),(1,vI g),(2,vI c)]∧Mem w wS [.blk g9 #[.bool (!q.isEmpty)] 4,.blk g8 ((dn gK q).cells) 249,.blk g6 #[vQ 0,vQ 0,vQ 0] 249]) (m:=x.rs.length- (g+1)) ⟨g+1,q,Nat.le_refl _,by omega,by rw [hq];simp,rfl,Z.sub kr,HM.pk [0,1,2]⟩ ?_
 clear Z HM;rintro mS a w_ ⟨u,q,hgh,hh,hq,rfl,Z,HM⟩
 refine Jb Z HM ((JQ∘JP∘Jp 2∘Jn∘Jf 0∘Jf 6∘Jy (v:= .slice x.sA x.rs.length x.sc) (h:=by exact Yl.ze rfl rfl kr (fun _ h=>h.mg hm rfl))∘Jl∘Jp 1∘aN∘Jj) (Ju (fun Du=>?_) fun Du=>?_))
 ·
  intro a Z HM
  have RP:=of_decide_eq_true Du
  have pW:u<x.rs.length:=by omega
  have sw:=q0b (f:=kR x.aB c (fun u=>fG x.aB u c) g) hgh pW
  refine Jb Z HM ((JT∘aI∘JQ∘JB∘JQ∘JP∘Jp 1∘Jn∘Jf 0∘Jf 0∘Jf 2∘Jy (v:= .slice x.gA x.gs.length x.gc) (h:=by exact Yl.ze rfl rfl kr (fun _ h=>h.mg hm rfl))∘Jp 1) fun a Z HM=>?_)
  obtain ⟨xK,xL,hq2,_⟩:=Rd.qp hx.g (Nat.lt_of_le_of_lt (Nat.zero_le _) (show u<x.gs.length from by omega)) de
  have nO:=hx.g;rw [hq2] at nO
  replace Z:=Z.sp 68 (.slice (some ⟨xK,xL,none⟩) x.gs.length x.gc) rfl (by rw [hq2];try rfl)
  refine Jb Z HM ((Jy (h:=by exact Yl.ix xK xL u 2 rfl rfl rfl)∘Jf 0∘Jy (v:=vI ((x.gs.getD u Gr.zero).parent)) (h:=by exact Yl.ze rfl rfl kr (fun _ h=>(by have:=(h.old nO).partAt yS (k:=u) (j:=0) (x:=(x.gs.getD u Gr.zero)) ((getD_at Gr.zero om)) rfl;simpa using this)))∘Jp 2∘gW∘Jj) (Ju (fun Dv=>?_) fun Dv=>?_))
  ·
   intro a Z HM
   have RQ:=bne_iff_ne.1 Dv
   rw [qwp om] at sw
   refine Jb Z HM ((JT∘JX∘JG∘JR∘Jp 1∘dR 1∘Jp 1∘bK∘Jq) fun a Z HM=>?_)
   exact ⟨_,om,u+1,q,by omega,by omega,by rw [sw,hq];simp,rfl,Z.sub kr,HM.pk [0,1,2]⟩
  intro a Z HM
  have RQ:=bne_eq_false_iff_eq.1 Dv
  refine Jb Z HM ((JF∘aI∘JP∘Jp 3∘JL (h:=by exact fun HM=>ih u om om _ (hx.old HM) (HM.uB hm))) ?_)
  rintro HM _ YM ⟨rfl,hbw⟩
  refine ⟨_,rfl,_,HM.call hbw,?_⟩
  refine (Jp 1∘Jx∘Jx∘JA #[vQ 0,vQ 0,vQ 0]) fun yI g14=>(JV yV bg (h1:=by exact M8 (dn gK (fG x.aB u c)))) fun IM=>(Jp 1∘aN∘Jr∘Jp 1∘Jj) (Ju (fun Dw=>?_) fun Dw=>?_)
  ·
   intro a Z HM
   obtain ⟨y,hy⟩:∃z,x.rs.getD u Rw.zero=z:=⟨_,rfl⟩
   have uX:Rd w w.heap.size 3 y.A y.l.length (y.l.flatMap kU):=by rw [←hy];exact hx.row pW
   have hyl:(y.l.length:Int)=x.az:=by rw [←hy];exact (M4 pW (hsh.row u pW)).1
   have IG:∀z∈y.l,z.Ok:=by rw [←hy,←jw pW];exact hok.sp _ (qs [] (by rw [tC];exact pW))
   have hzv:=(IG _ (qs Sp.zero (show c<y.l.length by omega))).v
   rw [q0c pW om (by simpa using Dw),hy] at sw
   refine Jb Z HM ((JT∘JR∘Jp 2∘Jn∘Jf 0∘Jf 6∘Jy (v:= .slice x.sA x.rs.length x.sc) (h:=by exact Yl.ze rfl rfl kr (fun _ h=>h.mg hm rfl))∘Jp 1) fun a Z HM=>?_)
   obtain ⟨uY,uZ,hq3,_⟩:=Rd.qp hx.s (Nat.lt_of_le_of_lt (Nat.zero_le _) (show u<x.rs.length from by omega)) de
   have mI:=hx.s;rw [hq3] at mI
   replace Z:=Z.sp 88 (.slice (some ⟨uY,uZ,none⟩) x.rs.length x.sc) rfl (by rw [hq3];try rfl)
   refine Jb Z HM ((Jy (h:=by exact Yl.ix uY uZ u 1 rfl rfl rfl)∘Jy (v:= .slice ((x.rs.getD u Rw.zero).A) ((x.rs.getD u Rw.zero).l.length) ((x.rs.getD u Rw.zero).c)) (h:=by exact Yl.o1 mI u Rw.zero om rfl rfl)∘Jo (.slice y.A y.l.length y.c) (by rw [hy])∘Jp 1) fun a Z HM=>?_)
   obtain ⟨tF,tH,hq4,_⟩:=Rd.qp uX (Nat.lt_of_le_of_lt (Nat.zero_le _) (show c<y.l.length from by omega)) de
   have mJ:=uX;rw [hq4] at mJ
   replace Z:=Z.sp 91 (.slice (some ⟨tF,tH,none⟩) y.l.length y.c) rfl (by rw [hq4];try rfl)
   refine Jb Z HM ((Jy (h:=by exact Yl.ix tF tH c 3 rfl rfl rfl)∘Jf 0∘Jy (v:=vQ ((y.l.getD c Sp.zero).v)) (h:=by exact Yl.ze rfl rfl kr (fun _ h=>(by have:=(h.old mJ).partAt MW (k:=c) (j:=0) (x:=(y.l.getD c Sp.zero)) ((getD_at Sp.zero om)) rfl;simpa using this)))∘Jp 1∘Jw .u64∘Jy (v:= .agg #[vQ ((y.l.getD c Sp.zero).v),vQ 1,vQ u]) (h:=by exact Yl.Rp (n:=3) (sz:=1) (vs:=[(0,vQ ((y.l.getD c Sp.zero).v)),(1,vQ 1),(2,vQ u)]) rfl rfl kr kr)) fun a Z HM=>?_)
   refine fo Z 16 rfl rfl ?_
   refine zg Z (f:=183) (vs:=[.agg #[vQ ((y.l.getD c Sp.zero).v),vQ 1,vQ u]]) (fst:=[]) (aJ:=[vP g9 0,vP g8 0]) rfl rfl rfl kr rfl de (YL w _ g9 g8 _ (⟨(y.l.getD c Sp.zero).v,1,u⟩:Mb) q _ (HM.pk [1,2,0,3])) ?_
   rintro _ w99 ⟨rfl,dh⟩
   refine ⟨_,rfl,?_⟩
   replace HM:=dh
   clear Z;intro a Z
   refine Jb Z HM ((jc∘Jj∘JR∘Jp 1∘dR 1∘Jp 1∘aN∘Jq) fun a Z HM=>?_)
   exact ⟨_,om,u+1,(q++[(⟨(y.l.getD c Sp.zero).v,1,u⟩:Mb)]),by omega,by omega,by rw [sw,hq,List.append_assoc];rfl,rfl,Z.sub kr,HM.pk [0,1,3]⟩
  intro a Z HM
  rw [qwq (by simpa using Dw)] at sw
  refine Jb Z HM ((JF∘aI∘JR∘Jp 1∘dR 1∘Jp 1∘bK∘Jq) fun a Z HM=>?_)
  exact ⟨_,om,u+1,q,by omega,by omega,by rw [sw,hq];simp,rfl,Z.sub kr,HM.pk [1,2,3]⟩
 intro a Z HM
 have RP:=of_decide_eq_false Du
 have hqm:q=fG x.aB g c:=by rw [hq,q33,tC,show u=x.rs.length by omega,q4e];rfl
 refine Jb Z HM ((JF∘JX) fun a Z HM=>?_)
 refine wp_seq ?_
 refine Jb Z HM ((Vs (.t (.t (.f .n))) []) fun ahP=>(Vy 0 (v:= .agg ((dn gK q).cells)) (h:=by exact Yl.qm rfl rfl yV rfl (fun _ h=>qc (h.blk (i:=1) rfl)))∘Vc 1 O0) fun a Z HM HS=>?_)
 refine s_on Z 2 rfl (eP Z HM 2 rfl rfl rfl rfl rfl yV rfl rfl (M8 (dn gK q)) fun AR HM=>?_)
 refine aD (HM.pk [0,1]) (fun HS=>?_)
 refine Vb Z HM HS ((Vp [3]∘Vd∘bK∘JZ) fun a Z HM=>?_)
 exact dP rfl Z (.cellS (i:=2) Z HM rfl rfl yV rfl) (.tmp Z rfl) (⟨by rw [←hqm],HM.below⟩)
theorem qwx (x:eu) (hok:x.aB.Ok) (hf:bX x) (hsh:ShAt x) (gm c:Nat) (hc:(c:Int)<x.az):∀(n g:Nat),x.rs.length-g≤n→g<x.rs.length→RJ x gm c g:=by
 intro n
 induction n with
 |zero=>intro g h1 h2;omega
 |succ n ih=>intro g h1 h2;exact qtg x hok hf hsh gm c hc g h2 fun h h3 h4=>ih h om h4
theorem q5e {l:List Tk} {id:Int} (h:jg l id<0):dU l id=none:=by
 rcases Yx l id with h1|⟨i,h1,_⟩
 ·exact h1.2
 ·omega
theorem q04 {l:List Tk} {id:Int} (h:¬jg l id<0):∃i:Nat,jg l id=i∧dU l id=some i∧i<l.length∧(l.getD i Tk.zero).id=id:=by
 rcases Yx l id with h1|h1
 ·omega
 ·exact h1
theorem qp8 (x:eu) (hok:x.aB.Ok) (hf:bX x) (w:World) (hx:eB w x):
    Calls Tryz.prog 110 #[.agg x.cells] w (Is w (.bool (oN x.aB))):=by
 have ajF:=hf.s;have hft:=hf.t;have hfg:=hf.g;have hfl:=hf.l;have hfu:=hf.u
 refine (dM Tryz.func110 81) ?_
 refine (JP∘JE) fun w1 g1=>(Jp 1∘Jj∘JQ∘JP∘Jy (v:= .agg x.cells) (h:=by exact Yl.qm rfl rfl ku rfl (fun _ h=>qc (h.blk (i:=0) rfl)))∘JI (h:=by exact fun HM=>qtd x hok hf _ (hx.old HM))) fun EW hbw=>(Jp 1∘bK∘Jj) (Ju (fun cB=>?_) fun cB=>?_)
 ·
  exact (JT∘JP∘Jp 1∘Jj∘JZ∘bq) fun HM=>bz (Iu (by simpa using cB)).symm HM.below
 intro a Z HM
 have hsd:mG x.aB=true:=by simpa using cB
 have hsh:=Ba hsd
 have hs:=q4d hsh
 obtain ⟨hc1,hc2,_,_⟩:=Dc hsh.Fa
 have ajG:=hsh.cu
 refine Jb Z HM ((JF∘aI∘JP∘Jy (v:= .agg x.cells) (h:=by exact Yl.qm rfl rfl ku rfl (fun _ h=>qc (h.blk (i:=0) rfl)))∘Jy (v:= .agg #[vI x.az,vQ x.au,.slice x.gA x.gs.length x.gc,.slice x.lA x.cl.length x.lc,.slice x.uA x.cu.length x.uc,.slice x.tA x.ts.length x.tc,.slice x.sA x.rs.length x.sc,.bool true]) (h:=by exact Yl.build (vs:=[(0,.agg x.cells),(1,.bool true)]) rfl kr kr)∘JE) fun w16 g16=>(Jp 1∘fC∘Jj∘JQ∘JP∘Jg 4 O1∘Jl∘Jp 1∘Jj∘JB) fun a Z HM=>?_)
 refine qj (fun mS aS wS=>∃(c:Nat),(c≤x.cu.length)∧(dA c fun c=>dV x.aB c&&d9 x.rs.length fun g=>jG x.aB g c)∧mS=x.cu.length-c∧Fr aS 81 [] [(20,vI c),(19,vI x.cu.length),(18,.slice x.uA x.cu.length x.uc),(3,vP g16 0),(13,.bool false),(2,.bool false),(1,vP g1 0)]∧Mem w wS [.blk g16 #[vI x.az,vQ x.au,.slice x.gA x.gs.length x.gc,.slice x.lA x.cl.length x.lc,.slice x.uA x.cu.length x.uc,.slice x.tA x.ts.length x.tc,.slice x.sA x.rs.length x.sc,.bool true] 247,.blk g1 x.cells 50]) (m:=x.cu.length-0) ⟨0,Nat.zero_le _,dA.zero,rfl,Z.sub kr,HM.pk [0,1]⟩ ?_
 clear Z HM;rintro mS a w_ ⟨c,hc,hu,rfl,Z,HM⟩
 refine Jb Z HM ((JP∘Jp 1∘Jj∘JQ) (Ju (fun iA=>?_) fun iA=>?_))
 ·
  intro a Z HM
  have kN:=of_decide_eq_true iA
  have hc21:c<x.cu.length:=by omega
  obtain ⟨id,hid⟩:∃z,(x.cu.getD c 0)=z:=⟨_,rfl⟩
  refine Jb Z HM ((JT∘aI∘JQ∘JB∘JP∘Jp 1) fun a Z HM=>?_)
  obtain ⟨kH,kI,hq1,_⟩:=Rd.qp hx.u (Nat.lt_of_le_of_lt (Nat.zero_le _) (show c<x.cu.length from by omega)) de
  have gz:=hx.u;rw [hq1] at gz
  replace Z:=Z.sp 18 (.slice (some ⟨kH,kI,none⟩) x.cu.length x.uc) rfl (by rw [hq1];try rfl)
  refine Jb Z HM ((Jy (h:=by exact Yl.ix kH kI c 1 rfl rfl rfl)∘Jy (v:=vI (x.cu.getD c 0)) (h:=by exact Yl.o1 gz c 0 om rfl rfl)∘Jo (vI id) (by rw [hid])∘Jp 2∘Jr∘Jp 2∘JI (h:=by exact fun HM=>qww x g16 id hs _ (HM.blk (i:=0) rfl) (HM.old hx.t) hf.t)) fun Fz hbw=>(Jp 1∘fC∘Jj∘JQ) fun a Z HM=>?_)
  refine qP (fun aS wS=>Fr aS 81 [] [(52,.bool (!dV x.aB c)),(6,vI (jg x.ts id)),(5,vI id),(4,vI c),(18,.slice (some ⟨kH,kI,none⟩) x.cu.length x.uc),(21,.bool true),(20,vI c),(19,vI x.cu.length),(3,vP g16 0),(13,.bool false),(2,.bool false),(1,vP g1 0)]∧Mem w wS [.blk g16 #[vI x.az,vQ x.au,.slice x.gA x.gs.length x.gc,.slice x.lA x.cl.length x.lc,.slice x.uA x.cu.length x.uc,.slice x.tA x.ts.length x.tc,.slice x.sA x.rs.length x.sc,.bool true] 247,.blk g1 x.cells 50]) ?_ ?_
  ·
   refine zq ?_
   refine Jb Z HM ((Jp 3) (Jh (fun vJ=>?_) fun vJ=>?_))
   ·
    refine (Jp 3) (Ju (fun DC=>?_) fun DC=>?_)
    ·
     intro a Z HM
     have Df:=of_decide_eq_true DC
     refine Jb Z HM ((Jv 19 [(52,.bool true)]∘aN∘Jq) fun a Z HM=>?_)
     have Z:=Z.sp 52 (.bool (!dV x.aB c)) rfl (congrArg Value.bool (by rw [qs8 (by rw [hid];omega) (by rw [hid];exact q5e om)];rfl))
     exact ⟨Z.sub kr,HM.pk [0,1]⟩
    intro a Z HM
    have Df:=of_decide_eq_false DC
    obtain ⟨i,hfi,hfs,hil,ajH⟩:=q04 (l:=x.ts) (id:=id) om
    refine Jb Z HM ((Jg 5 O1∘Jp 1∘Jo (vI i) (by rw [hfi])) fun a Z HM=>?_)
    obtain ⟨uY,uZ,hq3,_⟩:=Rd.qp hx.t (Nat.lt_of_le_of_lt (Nat.zero_le _) (show i<x.ts.length from by omega)) de
    have mI:=hx.t;rw [hq3] at mI
    replace Z:=Z.sp 35 (.slice (some ⟨uY,uZ,none⟩) x.ts.length x.tc) rfl (by rw [hq3];try rfl)
    refine Jb Z HM ((Jy (h:=by exact Yl.ix uY uZ i 8 rfl rfl rfl)∘Jf 5∘Jy (v:= .bool ((x.ts.getD i Tk.zero).ready)) (h:=by exact Yl.ze rfl rfl kr (fun _ h=>(h.old mI).partAt AY (k:=i) (j:=5) (x:=(x.ts.getD i Tk.zero)) ((getD_at Tk.zero om)) rfl))∘Jp 3) (Ju (fun DD=>?_) fun DD=>?_))
    ·
     refine (Jv 10 [(52,.bool true)]∘aN∘Jq) fun a Z HM=>?_
     have Z:=Z.sp 52 (.bool (!dV x.aB c)) rfl (congrArg Value.bool (by rw [Yw (by rw [hid];omega) (by rw [hid];exact hfs),(Bool.not_eq_true' _).mp DD];rfl))
     exact ⟨Z.sub kr,HM.pk [0,1]⟩
    refine (Jg 5 O1∘Jp 1∘Jo (vI i) (by rw [hfi])) fun a Z HM=>?_
    replace Z:=Z.sp 44 (.slice (some ⟨uY,uZ,none⟩) x.ts.length x.tc) rfl (by rw [hq3];try rfl)
    refine Jb Z HM ((Jy (h:=by exact Yl.ix uY uZ i 8 rfl rfl rfl)∘Jf 3∘Jy (v:=vI ((x.ts.getD i Tk.zero).cpu)) (h:=by exact Yl.ze rfl rfl kr (fun _ h=>(h.old mI).partAt AY (k:=i) (j:=3) (x:=(x.ts.getD i Tk.zero)) ((getD_at Tk.zero om)) rfl))∘Jp 4∘aN∘Jq) fun a Z HM=>?_)
    have Z:=Z.sp 52 (.bool (!dV x.aB c)) rfl (congrArg Value.bool (by rw [Yw (by rw [hid];omega) (by rw [hid];exact hfs),(Bool.not_eq_false' _).mp DD,Bool.true_and,bne,Bool.eq_iff_iff];simp))
    exact ⟨Z.sub kr,HM.pk [0,1]⟩
   refine (Jv 22 [(52,.bool false)]∘fC∘Jq) fun a Z HM=>?_
   have Z:=Z.sp 52 (.bool (!dV x.aB c)) rfl (congrArg Value.bool (by rw [qs9 (by rw [hid];omega)];rfl))
   exact ⟨Z.sub kr,HM.pk [0,1]⟩
  clear Z HM;rintro a w8 ⟨Z,HM⟩
  refine Jb Z HM (Ju (fun DF=>?_) fun DF=>?_)
  ·
   exact (JT∘JP∘Jp 1∘Jj∘JZ∘bq) fun HM=>bz (Iw hc21 (by simpa using DF)).symm HM.below
  refine (JF∘aI∘JP∘Jg 6 O1∘Jl∘Jp 1∘Jj∘JB) fun a Z HM=>?_
  refine qj (fun mS aS wS=>∃(g:Nat),(g≤x.rs.length)∧(dA g fun g=>jG x.aB g c)∧mS=x.rs.length-g∧Fr aS 81 [] [(56,vI g),(55,vI x.rs.length),(54,.slice x.sA x.rs.length x.sc),(52,.bool false),(6,vI (jg x.ts id)),(5,vI id),(4,vI c),(18,.slice (some ⟨kH,kI,none⟩) x.cu.length x.uc),(21,.bool true),(20,vI c),(19,vI x.cu.length),(3,vP g16 0),(13,.bool false),(2,.bool false),(1,vP g1 0)]∧Mem w wS [.blk g16 #[vI x.az,vQ x.au,.slice x.gA x.gs.length x.gc,.slice x.lA x.cl.length x.lc,.slice x.uA x.cu.length x.uc,.slice x.tA x.ts.length x.tc,.slice x.sA x.rs.length x.sc,.bool true] 247,.blk g1 x.cells 50]) (m:=x.rs.length-0) ⟨0,Nat.zero_le _,dA.zero,rfl,Z.sub kr,HM.pk [0,1]⟩ ?_
  clear Z HM;rintro mS a w_ ⟨g,hg,hu2,rfl,Z,HM⟩
  refine Jb Z HM ((JP∘Jp 1∘Jj∘JQ) (Ju (fun DI=>?_) fun DI=>?_))
  ·
   intro a Z HM
   have Dk:=of_decide_eq_true DI
   have p9:g<x.rs.length:=by omega
   obtain ⟨y,hy⟩:∃z,x.rs.getD g Rw.zero=z:=⟨_,rfl⟩
   have uX:Rd w w.heap.size 3 y.A y.l.length (y.l.flatMap kU):=by rw [←hy];exact hx.row p9
   have hyl:(y.l.length:Int)=x.az:=by rw [←hy];exact (M4 p9 (hsh.row g p9)).1
   refine Jb Z HM ((JT∘aI∘JQ∘JB∘JP∘Jp 1) fun a Z HM=>?_)
   obtain ⟨tF,tH,hq4,_⟩:=Rd.qp hx.s (Nat.lt_of_le_of_lt (Nat.zero_le _) (show g<x.rs.length from by omega)) de
   have mJ:=hx.s;rw [hq4] at mJ
   replace Z:=Z.sp 54 (.slice (some ⟨tF,tH,none⟩) x.rs.length x.sc) rfl (by rw [hq4];try rfl)
   refine Jb Z HM ((Jy (h:=by exact Yl.ix tF tH g 1 rfl rfl rfl)∘Jy (v:= .slice ((x.rs.getD g Rw.zero).A) ((x.rs.getD g Rw.zero).l.length) ((x.rs.getD g Rw.zero).c)) (h:=by exact Yl.o1 mJ g Rw.zero p9 rfl rfl)∘Jo (.slice y.A y.l.length y.c) (by rw [hy])∘Jp 2∘Jr∘Jp 3∘JL (h:=by exact fun HM=>qwx x hok hf hsh g16 c om _ g (Nat.le_refl _) p9 _ (hx.old HM) (HM.blk (i:=0) rfl))) ?_)
   rintro HM _ w65 ⟨rfl,hbw⟩
   refine ⟨_,rfl,_,HM.call hbw,?_⟩
   refine (Jp 1∘Jx∘Jx∘JA #[vQ 0,vQ 0,vQ 0]) fun w9 g9=>(JV yV bg (h1:=by exact M8 (dn gK (fG x.aB g c)))) fun IM=>(Jp 1∘Jj) fun a Z HM=>?_
   refine qP (fun aS wS=>Fr aS 81 [] [(78,.bool (!jG x.aB g c)),(10,.bool (!(fG x.aB g c).isEmpty)),(9,vP g9 0),(8,.slice y.A y.l.length y.c),(7,vI g),(54,.slice (some ⟨tF,tH,none⟩) x.rs.length x.sc),(57,.bool true),(56,vI g),(55,vI x.rs.length),(52,.bool false),(6,vI (jg x.ts id)),(5,vI id),(4,vI c),(18,.slice (some ⟨kH,kI,none⟩) x.cu.length x.uc),(21,.bool true),(20,vI c),(19,vI x.cu.length),(3,vP g16 0),(13,.bool false),(2,.bool false),(1,vP g1 0)]∧Mem w wS [.blk g9 ((dn gK (fG x.aB g c)).cells) 249,.blk g16 #[vI x.az,vQ x.au,.slice x.gA x.gs.length x.gc,.slice x.lA x.cl.length x.lc,.slice x.uA x.cu.length x.uc,.slice x.tA x.ts.length x.tc,.slice x.sA x.rs.length x.sc,.bool true] 247,.blk g1 x.cells 50]) ?_ ?_
   ·
    refine Jb Z HM ((Vs .n []) fun CY=>(Vp [0,1]) fun a Z HM HS=>?_)
    rcases Z.tf 69 rfl with ⟨DJ,Z⟩|⟨DJ,Z⟩
    ·
     refine Vb Z HM HS ((Vp [4,5]∘Vy 2 (v:= .agg ((dn gK (fG x.aB g c)).cells)) (h:=by exact Yl.qm rfl rfl yV rfl (fun _ h=>qc (h.blk (i:=0) rfl)))) fun a Z HM HS=>?_)
     obtain ⟨JC,JN,JY,_⟩:=Rd.qp uX (Nat.lt_of_le_of_lt (Nat.zero_le _) (show c<y.l.length from by omega)) de
     have Bt:=uX;rw [JY] at Bt
     replace Z:=Z.sp 72 (.slice (some ⟨JC,JN,none⟩) y.l.length y.c) rfl (by rw [JY];try rfl)
     refine Vb Z HM HS ((Vy 6 (h:=by exact Yl.ix JC JN c 3 rfl rfl rfl)∘Vf 7 2∘Vy 8 (v:=vQ ((y.l.getD c Sp.zero).floor)) (h:=by exact Yl.ze rfl rfl kr (fun _ h=>(h.old Bt).partAt MW (k:=c) (j:=2) (x:=(y.l.getD c Sp.zero)) ((getD_at Sp.zero om)) rfl))∘VI 3 .n (h:=by exact fun HM=>q69 (dn gK (fG x.aB g c)) _)) fun w71 hbw=>(Vp [9,10]∘Vd∘qR) fun a Z HM=>?_)
     have Z:=Z.sp 78 (.bool (!jG x.aB g c)) rfl (congrArg Value.bool (by rw [q66 (by simpa using DJ),q4g p9,hy,←decide_not];exact decide_eq_decide.2 om))
     exact ⟨Z.sub kr,HM.pk [0,1,2]⟩
    refine ap Z (fun _=>HS) [2,3,4,5,6,7,8,9,10] (bt 11 []) [(78,.bool false)] fun a Z=>?_
    refine qh kr ?_
    have Z:=Z.sp 78 (.bool (!jG x.aB g c)) rfl (congrArg Value.bool (by rw [q4f (by simpa using DJ)];rfl))
    exact ⟨Z.sub kr,HM.pk [0,1,2]⟩
   clear Z HM;rintro a yI ⟨Z,HM⟩
   refine Jb Z HM (Ju (fun nP=>?_) fun nP=>?_)
   ·
    exact (JT∘JP∘Jp 1∘Jj∘JZ∘bq) fun HM=>bz (Iy hc21 p9 (by simpa using nP)).symm HM.below
   refine (JF∘aI∘JR∘dR 1∘Jp 1∘aT∘Jq) fun a Z HM=>?_
   replace Z:=Z.sp 54 (.slice x.sA x.rs.length x.sc) rfl (by rw [hq4])
   exact ⟨_,om,g+1,by omega,hu2.succ (by simpa using nP),rfl,Z.sub kr,HM.pk [1,2]⟩
  intro a Z HM
  have Dk:=of_decide_eq_false DI
  refine Jb Z HM ((JF∘JX∘JG∘JR∘dR 1∘Jp 1∘aT∘Jq) fun a Z HM=>?_)
  replace Z:=Z.sp 18 (.slice x.uA x.cu.length x.uc) rfl (by rw [hq1])
  exact ⟨_,om,c+1,by omega,hu.succ (by rw [show dV x.aB c=true by simpa using DF,Bool.true_and];exact dA.all fun i hi=>hu2 i om),rfl,Z.sub kr,HM.pk [0,1]⟩
 intro a Z HM
 have kN:=of_decide_eq_false iA
 exact Jb Z HM ((JF∘JX∘JG∘JP∘Jp 1∘Jj∘JZ∘bq) fun HM=>bz (Iz hsd (fun i hi=>hu i om)).symm HM.below)
def dF {α:Type} (k:Nat) (f:Nat→List α):List α:=(List.range k).flatMap f
theorem ql {α:Type} (k:Nat) (f:Nat→List α):dF (k+1) f=dF k f++f k:=by unfold dF;rw [List.range_succ,List.flatMap_append];simp
theorem IA {α:Type} (f:Nat→List α):dF 0 f=[]:=rfl
theorem M9 {α:Type} {f:Nat→List α} {m:Nat} (h:∀i,(f i).length≤m):∀k,(dF k f).length≤m*k
 |0=>Nat.zero_le _
 |k+1=>by rw [ql,List.length_append,Nat.mul_succ];have:=M9 h k;have:=h k;omega
theorem Yy {α:Type} {f:Nat→List α} {m:Nat}:∀k,(∀i,i<k→(f i).length≤m)→(dF k f).length≤m*k
 |0,_=>Nat.zero_le _
 |k+1,h=>by rw [ql,List.length_append,Nat.mul_succ];have:=Yy k (fun i hi=>h i om);have:=h k om;omega
theorem Fb {α:Type} {f:Nat→List α} {p:α→Prop}:∀k,(∀i,i<k→∀x∈f i,p x)→∀x∈dF k f,p x
 |0,_=>fun x hx=>by cases hx
 |k+1,h=>fun x hx=>by
  rw [ql] at hx
  rcases List.mem_append.1 hx with hx|hx
  ·exact Fb k (fun i hi=>h i om) x hx
  ·exact h k om x hx
def aA (n:Int):Nat:=(n%18446744073709551616).toNat
theorem uP (n:Int):aA n<18446744073709551616:=by unfold aA;omega
theorem Rs (n:Int):Value.int .u64 (Go.IntKind.u64.wrap n)= .int .u64 ((aA n:Nat):Int):=by
 unfold aA
 rw [Int.toNat_of_nonneg (Int.emod_nonneg _ de)]
 rfl
structure bT where
 next:Int
 st:eu
def bT.cells (s:bT):Array Value:= #[.int .i64 s.next,.int .i64 s.st.az,.int .u64 (s.st.au:Int),.slice s.st.gA s.st.gs.length s.st.gc,.slice s.st.lA s.st.cl.length s.st.lc,.slice s.st.uA s.st.cu.length s.st.uc,.slice s.st.tA s.st.ts.length s.st.tc,.slice s.st.sA s.st.rs.length s.st.sc]
theorem Rt (x:bT):∀v∈x.cells.toList,v.oneCell'=true:=by simp [bT.cells,Value.oneCell']
def yT (l:List Gr) (i:Nat):List Nat:=[aA (l.getD (i+1) Gr.zero).parent,aA (l.getD (i+1) Gr.zero).weight]
def qv (l:List Tk) (i:Nat):Int:=if i=0 then 0 else (l.getD (i-1) Tk.zero).id
def su (p:Int) (t:Tk):List Nat:=[aA (t.id-p),aA t.group,aA t.weight,aA t.cpu,t.mask,if t.ready then 1 else 0,t.v,t.r]
def uQ (g:Nat) (z:Sp):List Nat:=(if 0<g then [z.v,z.r] else [])++[z.floor]
def yU (g:Nat) (l:List Sp):List Nat:=dF l.length fun c=>uQ g (l.getD c Sp.zero)
def ay (s:bT):Nat→List Nat
 |0=>[aA s.next]
 |1=>[aA s.st.az,s.st.au,s.st.gs.length]
 |2=>dF (s.st.gs.length-1) (yT s.st.gs)
 |3=>s.st.cl.map aA
 |4=>s.st.cu.map aA
 |5=>s.st.ts.length::dF s.st.ts.length fun i=>su (qv s.st.ts i) (s.st.ts.getD i Tk.zero)
 |6=>dF s.st.rs.length fun g=>yU g (s.st.rs.getD g Rw.zero).l
 |_=>[]
def qa:Nat→ByteArray
 |0=>⟨#[110,101,120,116]⟩
 |1=>⟨#[99,111,110,102,105,103]⟩
 |2=>⟨#[103,114,111,117,112,115]⟩
 |3=>⟨#[99,108,111,99,107,115]⟩
 |4=>⟨#[99,117,114,114,101,110,116]⟩
 |5=>⟨#[116,97,115,107,115]⟩
 |6=>⟨#[115,112,111,116,115]⟩
 |_=>⟨#[]⟩
def bL (s:bT):Nat:=if s.next<1∨281474976710657<s.next then 330 else if oN s.st.aB=false then 331 else 0
def fw (s:bT):List Nat:=dF 7 (ay s)
def dB (s:bT):List Nat:=[113,115,1]++(fw s).flatMap ah
def dC (s:bT):List Nat:=if bL s=0 then bZ (dB s) else []
structure fT where
 nm:ByteArray
 fr:Nat
 to:Nat
def dW (x:fT):List Value:=[.string x.nm,.int .i64 (x.fr:Int),.int .i64 (x.to:Int)]
theorem q0d (x:fT):(dW x).length=3:=rfl
def xJ (w:World) (R:List Nat) (r:Ending) (w':World):Prop:=
 (∃A c,r= .returned (.slice A R.length c)∧w'.ownsRow w.heap.size 30 1 (.slice A R.length c) R.length (R.map aK)∧R.length≤c)∧Below w.heap.size w w'
theorem Bc {w w':World} {q R:List Nat} {A:Option Addr} {c:Nat} (h:q=R) (ho:w'.ownsRow w.heap.size 30 1 (.slice A q.length c) q.length (q.map aK)) (hc:q.length≤c) (hb:Below w.heap.size w w'):xJ w R (.returned (.slice A q.length c)) w':=by
 subst h
 exact ⟨⟨A,c,rfl,ho,hc⟩,hb⟩
theorem uR (l:List Nat):∀u∈l.map aK,u.oneCell'=true:=by
 intro u hu
 obtain ⟨x,_,rfl⟩:=List.mem_map.1 hu
 rfl
theorem ql5 {l:List Int} {k:Nat} (h:k<l.length):(l.take (k+1)).map aA=(l.take k).map aA++[aA (l.getD k 0)]:=by
 rw [List.take_add_one,List.getElem?_eq_getElem h,List.map_append,List.getD_eq_getElem?_getD,List.getElem?_eq_getElem h]
 rfl
theorem zx {α:Type} {a b:List α} {n:Nat} (h:b.length=n):a.length+n=(a++b).length:=by rw [List.length_append,h]
theorem Yz {n:Nat} (h:n<18446744073709551616):aA (n:Int)=n:=by unfold aA;omega
theorem q4h {w:World} {A A2:Option Addr} {l:List Gr} {c:Nat} (h:Rd w w.heap.size 2 A l.length (l.flatMap iD)) (h1:1≤l.length) (hc:l.length≤c) (hA:(if c=1 then A else A.map (·.add (1*2)))=A2):Rd w w.heap.size 2 A2 (l.drop 1).length ((l.drop 1).flatMap iD):=by
 have h2:=Rd.q8e yS h h1 hc
 rw [hA] at h2
 exact h2
theorem getD_drop {α:Type} (l:List α) (j k:Nat) (d:α):(l.drop j).getD k d=l.getD (k+j) d:=by
 rw [List.getD_eq_getElem?_getD,List.getElem?_drop,List.getD_eq_getElem?_getD,Nat.add_comm]
theorem IB (l:List Tk) (k:Nat):qv l (k+1)=(l.getD k Tk.zero).id:=by unfold qv;rw [if_neg om];rfl
theorem qpq (l:List Tk):qv l 0=0:=rfl
theorem q0e (b:Bool):(if b then 1 else 0:Nat)<18446744073709551616:=by cases b<;>decide
theorem YA {g:Nat} {z:Sp} (h:0<g):uQ g z=[z.v,z.r]++[z.floor]:=by unfold uQ;rw [if_pos h]
theorem YB {g:Nat} {z:Sp} (h:¬0<g):uQ g z=[z.floor]:=by unfold uQ;rw [if_neg h];rfl
theorem IC {p:Int} {t:Tk} (h:t.ready=true):su p t=[aA (t.id-p),aA t.group,aA t.weight,aA t.cpu]++[t.mask,1,t.v,t.r]:=by unfold su;rw [h];rfl
theorem IE {p:Int} {t:Tk} (h:t.ready=false):su p t=[aA (t.id-p),aA t.group,aA t.weight,aA t.cpu]++[t.mask,0,t.v,t.r]:=by unfold su;rw [h];rfl
theorem Tq (A:Option Addr) (c:Nat) (l:List Int) (w:World) (hr:Rd w w.heap.size 1 A l.length (l.map bR)) (hn:l.length≤1000000):
    Calls Tryz.prog 228 #[.slice A l.length c] w (xJ w (l.map aA)):=by
 refine (dM Tryz.func228 19) ?_
 refine (JP∘Jp 1∘Jr∘Jp 1∘Jq) fun a Z HM=>?_
 replace HM:=HM.nil 30 1
 refine Jb Z HM ((JG∘JQ∘JP∘Jp 1∘Jl∘Jp 1∘Jj∘JB) fun a Z HM=>?_)
 refine qj (fun mS aS wS=>∃(k:Nat) (q:List Nat) (Ao:Option Addr) (co:Nat),(k≤l.length)∧(q=(l.take k).map aA)∧(q.length=k)∧(q.length≤co)∧mS=l.length-k∧Fr aS 19 [] [(8,vI k),(7,vI l.length),(6,.slice A l.length c),(3,.slice Ao q.length co),(2,vN)]∧Mem w wS [.row (.slice Ao q.length co) q.length (q.map aK) 30 1]) (m:=l.length-0) ⟨0,[],none,0,Nat.zero_le _,rfl,rfl,Nat.le_refl _,rfl,Z.sub kr,HM.pk [0]⟩ ?_
 clear Z HM;rintro mS a w_ ⟨k,q,Ao,co,hk,hq,kY,hco,rfl,Z,HM⟩
 refine Jb Z HM ((JP∘Jp 1∘Jj∘JQ) (Ju (fun dO=>?_) fun dO=>?_))
 ·
  intro a Z HM
  have yJ:=of_decide_eq_true dO
  have Nb:k<l.length:=by omega
  refine Jb Z HM ((JT∘aI∘JQ∘JB∘JP) ?_)
  repeat (first|clear Z|clear HM)
  intro a Z HM
  obtain ⟨gA,oA,rfl,_⟩:=hr.qp (Nat.lt_of_le_of_lt (Nat.zero_le _) (show k<l.length from by omega)) de
  refine Jb Z HM ((Jy (h:=by exact Yl.ix gA oA k 1 rfl rfl rfl)∘Jy (h:=by exact Yl.o1 hr k 0 Nb rfl rfl)∘Jp 1∘bK∘Jj∘JR∘Jp 2∘Jv 1 [(14,vQ (IntKind.u64.wrap (l.getD k 0)))]∘Jo (vQ (aA (l.getD k 0))) (by exact Rs _)∘JU zz #[vQ (aA (l.getD k 0))]) fun Ih g15=>(JD ([aA (l.getD k 0)].map aK) 1 (fun _ _=>fJ) zz (hr:=by exact fun HM=>HM.aZ (i:=0) (n:=1) (size:=1) rfl rfl) (h1:=by exact uR _)) fun w16 gG c16 hc16=>(Jp 1∘qR∘Jq) fun a Z HM=>?_)
  have vZ:q.length+1=(q++[aA (l.getD k 0)]).length:=zx rfl
  replace HM:=HM.bu (i:=1) (ys:=(q++[aA (l.getD k 0)]).map aK) rfl vZ (List.map_append.symm)
  rw [vZ] at hc16
  replace Z:=Z.sp 3 (.slice gG ((q++[aA (l.getD k 0)]).length) c16) rfl (by rw [vZ])
  refine Jb Z HM ((JG∘JR∘dR 1∘Jp 1∘aT∘Jq) fun a Z HM=>?_)
  exact ⟨_,om,k+1,(q++[aA (l.getD k 0)]),gG,c16,by omega,by rw [hq,ql5 Nb],by rw [List.length_append,kY];rfl,hc16,rfl,Z.sub kr,HM.pk [1]⟩
 intro a Z HM
 have yJ:=of_decide_eq_false dO
 exact Jb Z HM ((JF∘JX∘JG∘JP∘Jp 2∘aT∘Jj∘JZ∘bq) fun HM=>Bc (by rw [hq,List.take_of_length_le om]) (HM.own (i:=0) rfl) hco HM.below)
theorem Kb (A:Option Addr) (c n:Nat) (l:List Int) (R:List Nat) (w:World) (hl:l.length=n) (hr:Rd w w.heap.size 1 A n (l.map bR)) (hn:n≤1000000) (hR:l.map aA=R):
  Calls Tryz.prog 228 #[.slice A n c] w (xJ w R):=by
 subst hl;subst hR
 exact Tq A c l w hr hn
theorem qx5 (s:bT) (hok:s.st.aB.Ok) (hf:bX s.st) (w:World) (hx:eB w s.st):
    Calls Tryz.prog 185 #[.agg s.cells] w (xJ w (ay s 0)):=by
 refine (dM Tryz.func185 7) ?_
 refine (JP∘JE) fun w1 g1=>(Jp 1∘Jr∘Jg 0 O0∘JU rH #[vI s.next]) fun w5 g5=>(JK (h:=by exact fun HM=>Kb (some ⟨g5,0,none⟩) 1 1 [s.next] [aA s.next] _ rfl (HM.aZ (i:=0) (n:=1) (size:=1) rfl rfl) de rfl)) fun A6 c6 w6 hc6=>fun a Z HM=>?_
 have akm: [aA s.next].length=1:=rfl
 exact Jb Z HM ((Jp 1∘fC∘Jj∘JZ∘bq) fun HM=>Bc rfl (HM.own (i:=0) rfl) hc6 HM.below)
theorem qqa (s:bT) (hok:s.st.aB.Ok) (hf:bX s.st) (w:World) (hx:eB w s.st):
    Calls Tryz.prog 186 #[.agg s.cells] w (xJ w (ay s 1)):=by
 have hgl:=hf.g
 refine (dM Tryz.func186 17) ?_
 refine (JP∘JE) fun w1 g1=>(Jp 1∘Jr∘Jf 1∘Jf 0∘Jy (v:= .agg #[vI s.st.az,vQ s.st.au,.slice s.st.gA s.st.gs.length s.st.gc]) (h:=by exact Yl.qm rfl rfl Rh rfl (fun _ h=>h.sub (i:=0) rfl 1 rfl))∘JA #[vI 0,vQ 0,vN]) fun w3 g3=>(JV Rh bg) fun CO=>(fC∘Jr∘Jg 0 O0∘Jv 1 [(9,vQ (IntKind.u64.wrap s.st.az))]∘Jo (vQ (aA s.st.az)) (by exact Rs _)∘Jg 1 O0∘Jg 2 O0∘Jl∘Jw .u64∘JU zz #[vQ (aA s.st.az),vQ s.st.au,vQ s.st.gs.length]) fun w16 g16=>(Jp 1∘aN∘Jq) fun a Z HM=>?_
 replace HM:=(HM.fB (i:=0) (n:=3) (size:=1) rfl rfl de).j3 (i:=0) (ys:=[aA s.st.az,s.st.au,s.st.gs.length].map aK) rfl (rfl)
 exact Jb Z HM ((JG∘JZ∘bq) fun HM=>Bc (q:=[aA s.st.az,s.st.au,s.st.gs.length]) rfl (HM.own (i:=0) rfl) (Nat.le_refl 3) HM.below)
theorem qqb (s:bT) (hok:s.st.aB.Ok) (hf:bX s.st) (w:World) (hx:eB w s.st):
    Calls Tryz.prog 188 #[.agg s.cells] w (xJ w (ay s 3)):=by
 refine (dM Tryz.func188 7) ?_
 exact (JP∘JE) fun w1 g1=>(Jp 1∘Jr∘Jf 1∘Jg 3 O0∘JK (h:=by exact fun HM=>Tq s.st.lA s.st.lc s.st.cl _ (HM.old hx.l) hf.l)) fun A6 c6 w6 hc6=>(Jp 1∘fC∘Jj∘JZ∘bq) fun HM=>Bc rfl (HM.own (i:=0) rfl) hc6 HM.below
theorem qof (s:bT) (hok:s.st.aB.Ok) (hf:bX s.st) (w:World) (hx:eB w s.st):
    Calls Tryz.prog 189 #[.agg s.cells] w (xJ w (ay s 4)):=by
 refine (dM Tryz.func189 7) ?_
 exact (JP∘JE) fun w1 g1=>(Jp 1∘Jr∘Jf 1∘Jg 4 O0∘JK (h:=by exact fun HM=>Tq s.st.uA s.st.uc s.st.cu _ (HM.old hx.u) hf.u)) fun A6 c6 w6 hc6=>(Jp 1∘fC∘Jj∘JZ∘bq) fun HM=>Bc rfl (HM.own (i:=0) rfl) hc6 HM.below
theorem qqc (s:bT) (hok:s.st.aB.Ok) (hf:bX s.st) (w:World) (hx:eB w s.st) (hc:eU s.st) (hsh:ShAt s.st):
    Calls Tryz.prog 187 #[.agg s.cells] w (xJ w (ay s 2)):=by
 have hgl:=hf.g;have hgc:=hc.g
 have hg1:=(MV (Dc hsh.Fa).2.2.2).1
 obtain ⟨Nc,Kc⟩:∃z,(if s.st.gc=1 then s.st.gA else s.st.gA.map (·.add (1*2)))=z:=⟨_,rfl⟩
 have hr2:=q4h hx.g hg1 hgc Kc
 obtain ⟨m,hm⟩:∃z,s.st.gs.drop 1=z:=⟨_,rfl⟩
 have BZ:m.length=s.st.gs.length-1:=by rw [←hm,List.length_drop]
 rw [hm] at hr2
 refine (dM Tryz.func187 26) ?_
 refine (JP∘JE) fun w1 g1=>(Jp 1∘Jr∘Jp 1∘Jq) fun a Z HM=>?_
 replace HM:=HM.nil 30 1
 refine Jb Z HM ((JG∘JQ∘JP∘Jf 1∘Jf 0∘Jg 2 O1∘Jy (v:= .slice (if s.st.gc=1 then s.st.gA else (s.st.gA:Option Addr).map (·.add (1*2))) (s.st.gs.length-1) (s.st.gc-1)) (h:=by exact Yl.sliceFrom lI (j:=1) rfl rfl rfl om)∘Jo (.slice Nc m.length (s.st.gc-1)) (by rw [Kc,BZ])∘Jl∘Jp 1∘Jj∘JB) fun a Z HM=>?_)
 refine qj (fun mS aS wS=>∃(k:Nat) (q:List Nat) (Ao:Option Addr) (co:Nat),(k≤m.length)∧(q=dF k (yT s.st.gs))∧(q.length=2*k)∧(q.length≤co)∧mS=m.length-k∧Fr aS 26 [] [(12,vI k),(11,vI m.length),(10,.slice Nc m.length (s.st.gc-1)),(3,.slice Ao q.length co),(2,vN)]∧Mem w wS [.row (.slice Ao q.length co) q.length (q.map aK) 30 1,.blk g1 s.cells 52]) (m:=m.length-0) ⟨0,[],none,0,Nat.zero_le _,rfl,rfl,Nat.le_refl _,rfl,Z.sub kr,HM.pk [0,1]⟩ ?_
 clear Z HM;rintro mS a w_ ⟨k,q,Ao,co,hk,hq,kY,hco,rfl,Z,HM⟩
 refine Jb Z HM ((JP∘Jp 1∘Jj∘JQ) (Ju (fun cB=>?_) fun cB=>?_))
 ·
  intro a Z HM
  have iE:=of_decide_eq_true cB
  have nZ:k<m.length:=by omega
  refine Jb Z HM ((JT∘aI∘JQ∘JB∘JP) ?_)
  repeat (first|clear Z|clear HM)
  intro a Z HM
  obtain ⟨Tt,Tu,rfl,_⟩:=hr2.qp (Nat.lt_of_le_of_lt (Nat.zero_le _) (show k<m.length from by omega)) de
  refine Jb Z HM ((Jy (h:=by exact Yl.ix Tt Tu k 2 rfl rfl rfl)∘Jy (v:= .agg ((m.getD k Gr.zero).cells)) (h:=by exact Yl.qm rfl rfl lG rfl (fun _ h=>(h.old hr2).qQ yS ((getD_at Gr.zero nZ))))∘JA #[vI 0,vI 0]) fun w5 g5=>(JV lG bg (h1:=by exact q6w (m.getD k Gr.zero))) fun akr=>(bK∘Jj∘JR∘Jp 1∘Jg 0 O0∘Jg 1 O0∘JU rH #[vI ((m.getD k Gr.zero).parent),vI ((m.getD k Gr.zero).weight)]) fun FB g21=>(JK (h:=by exact fun HM=>Kb (some ⟨g21,0,none⟩) 2 2 [(m.getD k Gr.zero).parent,(m.getD k Gr.zero).weight] [aA (m.getD k Gr.zero).parent,aA (m.getD k Gr.zero).weight] _ rfl (HM.aZ (i:=0) (n:=2) (size:=1) rfl rfl) de rfl)) fun Bv xB MC hc22=>fun a Z HM=>?_)
  have aaj: [aA (m.getD k Gr.zero).parent,aA (m.getD k Gr.zero).weight].length=2:=rfl
  refine Jb Z HM ((JD ([aA (m.getD k Gr.zero).parent,aA (m.getD k Gr.zero).weight].map aK) 3 (fun _ _=>sV) zz (hr:=by exact fun HM=>HM.rd (i:=0) rfl) (h1:=by exact uR _)) fun XO A23 c23 Ke=>(Jp 1∘aN∘Jq) fun a Z HM=>?_)
  have wh:q.length+([aA (m.getD k Gr.zero).parent,aA (m.getD k Gr.zero).weight].length)=(q++[aA (m.getD k Gr.zero).parent,aA (m.getD k Gr.zero).weight]).length:=zx rfl
  replace HM:=HM.bu (i:=3) (ys:=(q++[aA (m.getD k Gr.zero).parent,aA (m.getD k Gr.zero).weight]).map aK) rfl wh (List.map_append.symm)
  rw [wh] at Ke
  replace Z:=Z.sp 3 (.slice A23 ((q++[aA (m.getD k Gr.zero).parent,aA (m.getD k Gr.zero).weight]).length) c23) rfl (by rw [wh])
  refine Jb Z HM ((JG∘JR∘dR 1∘Jp 1∘aT∘Jq) fun a Z HM=>?_)
  exact ⟨_,om,k+1,(q++[aA (m.getD k Gr.zero).parent,aA (m.getD k Gr.zero).weight]),A23,c23,by omega,by rw [hq,ql,←hm,getD_drop];rfl,by rw [List.length_append,kY];rfl,Ke,rfl,Z.sub kr,HM.pk [3,4]⟩
 intro a Z HM
 have iE:=of_decide_eq_false cB
 exact Jb Z HM ((JF∘JX∘JG∘JP∘Jp 2∘aT∘Jj∘JZ∘bq) fun HM=>Bc (by rw [hq,show k=s.st.gs.length-1 by omega];try rfl) (HM.own (i:=0) rfl) hco HM.below)
theorem qts (s:bT) (hok:s.st.aB.Ok) (hf:bX s.st) (w:World) (hx:eB w s.st) (hc:eU s.st) (hsh:ShAt s.st):
    Calls Tryz.prog 190 #[.agg s.cells] w (xJ w (ay s 5)):=by
 have htl:=hf.t
 refine (dM Tryz.func190 53) ?_
 refine (JP∘JE) fun w1 g1=>(Jp 1∘Jr∘Jf 1∘Jg 5 O0∘Jl∘JU rH #[vI s.st.ts.length]) fun EW g12=>(JK (h:=by exact fun HM=>Kb (some ⟨g12,0,none⟩) 1 1 [(s.st.ts.length:Int)] [aA (s.st.ts.length:Int)] _ rfl (HM.aZ (i:=0) (n:=1) (size:=1) rfl rfl) de rfl)) fun QI c13 xC ug=>fun a Z HM=>?_
 have aal: [aA (s.st.ts.length:Int)].length=1:=rfl
 refine Jb Z HM ((Jp 1∘qR∘Jq) fun a Z HM=>?_)
 have wm: [aA (s.st.ts.length:Int)].length=[s.st.ts.length].length:=rfl
 replace HM:=HM.bu (i:=0) (ys:=[s.st.ts.length].map aK) rfl wm (by rw [Yz om])
 rw [wm] at ug
 replace Z:=Z.sp 3 (.slice QI ([s.st.ts.length].length) c13) rfl (by rw [wm])
 refine Jb Z HM ((JG∘JP∘Jp 1∘Jj∘JQ∘JP∘Jf 1∘Jg 5 O2∘Jl∘Jp 1∘Jj∘JB) fun a Z HM=>?_)
 refine qj (fun mS aS wS=>∃(k:Nat) (q:List Nat) (Ao:Option Addr) (co:Nat),(k≤s.st.ts.length)∧(0≤qv s.st.ts k∧qv s.st.ts k≤65535)∧(q=[s.st.ts.length]++dF k fun i=>su (qv s.st.ts i) (s.st.ts.getD i Tk.zero))∧(q.length=8*k+1)∧(q.length≤co)∧mS=s.st.ts.length-k∧Fr aS 53 [] [(18,vI k),(17,vI s.st.ts.length),(16,.slice s.st.tA s.st.ts.length s.st.tc),(4,vI (qv s.st.ts k)),(3,.slice Ao q.length co),(2,vN),(1,vP g1 0)]∧Mem w wS [.row (.slice Ao q.length co) q.length (q.map aK) 30 1,.blk g12 #[vI s.st.ts.length] 3,.blk g1 s.cells 52]) (m:=s.st.ts.length-0) ⟨0,[s.st.ts.length],QI,c13,Nat.zero_le _,by rw [qpq];decide,by rw [IA,List.append_nil],rfl,ug,rfl,Z.sub kr,HM.pk [0,1,2]⟩ ?_
 clear Z HM;rintro mS a w_ ⟨k,q,Ao,co,hk,hp,hq,kY,hco,rfl,Z,HM⟩
 refine Jb Z HM ((JP∘Jp 1∘Jj∘JQ) (Ju (fun DW=>?_) fun DW=>?_))
 ·
  intro a Z HM
  have pG:=of_decide_eq_true DW
  have DX:k<s.st.ts.length:=by omega
  obtain ⟨t,ht⟩:∃z,(s.st.ts.getD k Tk.zero)=z:=⟨_,rfl⟩
  have Dr:=qX (hsh.tk k DX)
  rw [ht] at Dr
  have hto:=hok.ts _ (qs Tk.zero DX)
  replace hto:Tk.Ok t:=by rw [←ht];exact hto
  have htr:=hto.r
  refine Jb Z HM ((JT∘aI∘JQ∘JB∘JP) fun a Z HM=>?_)
  obtain ⟨kH,kI,hq1,_⟩:=Rd.qp hx.t (Nat.lt_of_le_of_lt (Nat.zero_le _) (show k<s.st.ts.length from by omega)) de
  have gz:=hx.t;rw [hq1] at gz
  replace Z:=Z.sp 16 (.slice (some ⟨kH,kI,none⟩) s.st.ts.length s.st.tc) rfl (by rw [hq1];try rfl)
  refine Jb Z HM ((Jy (h:=by exact Yl.ix kH kI k 8 rfl rfl rfl)∘Jy (v:= .agg ((s.st.ts.getD k Tk.zero).cells)) (h:=by exact Yl.qm rfl rfl fM rfl (fun _ h=>(h.old gz).qQ AY ((getD_at Tk.zero DX))))∘Jo (.agg t.cells) (by rw [ht])∘JA #[vI 0,vI 0,vI 0,vI 0,vQ 0,.bool false,vQ 0,vW 0]) fun w6 g6=>(JV fM bg (h1:=by exact Rf t)) fun yN=>(bK∘Jr∘Jp 1∘Jj∘JQ∘JP∘Jg 5 O0∘Jj) (Ju (fun kv=>?_) fun kv=>?_))
  ·
   refine (JT∘JR∘Jp 1∘Jr∘Jp 1∘Jg 0 O0∘Jp 2∘Jo (vI (t.id-qv s.st.ts k)) (by exact EL ⟨by omega,by omega⟩)∘Jg 1 O0∘Jg 2 O0∘Jg 3 O0∘JU rH #[vI (t.id-qv s.st.ts k),vI t.group,vI t.weight,vI t.cpu]) fun NI Tv=>(JK (h:=by exact fun HM=>Kb (some ⟨Tv,0,none⟩) 4 4 [t.id-qv s.st.ts k,t.group,t.weight,t.cpu] [aA (t.id-qv s.st.ts k),aA t.group,aA t.weight,aA t.cpu] _ rfl (HM.aZ (i:=0) (n:=4) (size:=1) rfl rfl) de rfl)) fun A36 c36 NJ Tw=>fun a Z HM=>?_
   have Kg: [aA (t.id-qv s.st.ts k),aA t.group,aA t.weight,aA t.cpu].length=4:=rfl
   refine Jb Z HM ((JD ([aA (t.id-qv s.st.ts k),aA t.group,aA t.weight,aA t.cpu].map aK) 3 (fun _ _=>sV) zz (hr:=by exact fun HM=>HM.rd (i:=0) rfl) (h1:=by exact uR _)) fun yK jO c37 iP=>(Jp 1∘aN∘Jq) fun a Z HM=>?_)
   have dD:q.length+([aA (t.id-qv s.st.ts k),aA t.group,aA t.weight,aA t.cpu].length)=(q++[aA (t.id-qv s.st.ts k),aA t.group,aA t.weight,aA t.cpu]).length:=zx rfl
   replace HM:=HM.bu (i:=3) (ys:=(q++[aA (t.id-qv s.st.ts k),aA t.group,aA t.weight,aA t.cpu]).map aK) rfl dD (List.map_append.symm)
   rw [dD] at iP
   replace Z:=Z.sp 3 (.slice jO ((q++[aA (t.id-qv s.st.ts k),aA t.group,aA t.weight,aA t.cpu]).length) c37) rfl (by rw [dD])
   refine Jb Z HM ((JG∘JP∘Jp 1∘Jg 4 O2∘Jp 1∘Jg 6 O2∘Jg 7 O2∘Jw .u64∘JU zz #[vQ t.mask,vQ 1,vQ t.v,vQ t.r]) fun w47 g47=>(JD ([t.mask,1,t.v,t.r].map aK) 4 (fun _ _=>sW) zz (hr:=by exact fun HM=>HM.aZ (i:=0) (n:=4) (size:=1) rfl rfl) (h1:=by exact uR _)) fun MG xG xH rZ=>(Jp 1∘aN∘Jq) fun a Z HM=>?_)
   have kF:((q++[aA (t.id-qv s.st.ts k),aA t.group,aA t.weight,aA t.cpu]).length)+4=((q++[aA (t.id-qv s.st.ts k),aA t.group,aA t.weight,aA t.cpu])++[t.mask,1,t.v,t.r]).length:=zx rfl
   replace HM:=HM.bu (i:=4) (ys:=((q++[aA (t.id-qv s.st.ts k),aA t.group,aA t.weight,aA t.cpu])++[t.mask,1,t.v,t.r]).map aK) rfl kF (List.map_append.symm)
   rw [kF] at rZ
   replace Z:=Z.sp 3 (.slice xG (((q++[aA (t.id-qv s.st.ts k),aA t.group,aA t.weight,aA t.cpu])++[t.mask,1,t.v,t.r]).length) xH) rfl (by rw [kF])
   refine Jb Z HM ((JG∘JR∘Jf 0∘Jc O3∘Jo (vI (qv s.st.ts (k+1))) (by rw [IB,ht])∘Jp 1∘bK∘Jj∘JR∘dR 1∘Jp 1∘aT∘Jq) fun a Z HM=>?_)
   replace Z:=Z.sp 16 (.slice s.st.tA s.st.ts.length s.st.tc) rfl (by rw [hq1])
   exact ⟨_,om,k+1,(q++[aA (t.id-qv s.st.ts k),aA t.group,aA t.weight,aA t.cpu]++[t.mask,1,t.v,t.r]),xG,xH,by omega,by rw [IB,ht];omega,by rw [hq,ql,ht,IC kv,List.append_assoc,List.append_assoc],by (simp only [List.length_append,List.length_cons,List.length_nil];omega),rZ,rfl,Z.sub kr,HM.pk [4,5,6]⟩
  refine (JF∘aI∘JP∘Jp 1∘Jg 0 O0∘Jp 2∘Jo (vI (t.id-qv s.st.ts k)) (by exact EL ⟨by omega,by omega⟩)∘Jg 1 O0∘Jg 2 O0∘Jg 3 O0∘JU rH #[vI (t.id-qv s.st.ts k),vI t.group,vI t.weight,vI t.cpu]) fun NI Tv=>(JK (h:=by exact fun HM=>Kb (some ⟨Tv,0,none⟩) 4 4 [t.id-qv s.st.ts k,t.group,t.weight,t.cpu] [aA (t.id-qv s.st.ts k),aA t.group,aA t.weight,aA t.cpu] _ rfl (HM.aZ (i:=0) (n:=4) (size:=1) rfl rfl) de rfl)) fun A36 c36 NJ Tw=>fun a Z HM=>?_
  have Kg: [aA (t.id-qv s.st.ts k),aA t.group,aA t.weight,aA t.cpu].length=4:=rfl
  refine Jb Z HM ((JD ([aA (t.id-qv s.st.ts k),aA t.group,aA t.weight,aA t.cpu].map aK) 3 (fun _ _=>sV) zz (hr:=by exact fun HM=>HM.rd (i:=0) rfl) (h1:=by exact uR _)) fun yK jO c37 iP=>(Jp 1∘aN∘Jq) fun a Z HM=>?_)
  have dD:q.length+([aA (t.id-qv s.st.ts k),aA t.group,aA t.weight,aA t.cpu].length)=(q++[aA (t.id-qv s.st.ts k),aA t.group,aA t.weight,aA t.cpu]).length:=zx rfl
  replace HM:=HM.bu (i:=3) (ys:=(q++[aA (t.id-qv s.st.ts k),aA t.group,aA t.weight,aA t.cpu]).map aK) rfl dD (List.map_append.symm)
  rw [dD] at iP
  replace Z:=Z.sp 3 (.slice jO ((q++[aA (t.id-qv s.st.ts k),aA t.group,aA t.weight,aA t.cpu]).length) c37) rfl (by rw [dD])
  refine Jb Z HM ((JG∘JP∘Jp 1∘Jg 4 O2∘Jp 1∘Jg 6 O2∘Jg 7 O2∘Jw .u64∘JU zz #[vQ t.mask,vQ 0,vQ t.v,vQ t.r]) fun w47 g47=>(JD ([t.mask,0,t.v,t.r].map aK) 4 (fun _ _=>sW) zz (hr:=by exact fun HM=>HM.aZ (i:=0) (n:=4) (size:=1) rfl rfl) (h1:=by exact uR _)) fun MG xG xH rZ=>(Jp 1∘aN∘Jq) fun a Z HM=>?_)
  have kF:((q++[aA (t.id-qv s.st.ts k),aA t.group,aA t.weight,aA t.cpu]).length)+4=((q++[aA (t.id-qv s.st.ts k),aA t.group,aA t.weight,aA t.cpu])++[t.mask,0,t.v,t.r]).length:=zx rfl
  replace HM:=HM.bu (i:=4) (ys:=((q++[aA (t.id-qv s.st.ts k),aA t.group,aA t.weight,aA t.cpu])++[t.mask,0,t.v,t.r]).map aK) rfl kF (List.map_append.symm)
  rw [kF] at rZ
  replace Z:=Z.sp 3 (.slice xG (((q++[aA (t.id-qv s.st.ts k),aA t.group,aA t.weight,aA t.cpu])++[t.mask,0,t.v,t.r]).length) xH) rfl (by rw [kF])
  refine Jb Z HM ((JG∘JR∘Jf 0∘Jc O3∘Jo (vI (qv s.st.ts (k+1))) (by rw [IB,ht])∘Jp 1∘bK∘Jj∘JR∘dR 1∘Jp 1∘aT∘Jq) fun a Z HM=>?_)
  replace Z:=Z.sp 16 (.slice s.st.tA s.st.ts.length s.st.tc) rfl (by rw [hq1])
  exact ⟨_,om,k+1,(q++[aA (t.id-qv s.st.ts k),aA t.group,aA t.weight,aA t.cpu]++[t.mask,0,t.v,t.r]),xG,xH,by omega,by rw [IB,ht];omega,by rw [hq,ql,ht,IE kv,List.append_assoc,List.append_assoc],by (simp only [List.length_append,List.length_cons,List.length_nil];omega),rZ,rfl,Z.sub kr,HM.pk [4,5,6]⟩
 intro a Z HM
 have pG:=of_decide_eq_false DW
 exact Jb Z HM ((JF∘JX∘JG∘JP∘Jp 2∘aT∘Jj∘JZ∘bq) fun HM=>Bc (by rw [hq,show k=s.st.ts.length by omega];try rfl) (HM.own (i:=0) rfl) hco HM.below)
theorem qtt (s:bT) (hok:s.st.aB.Ok) (hf:bX s.st) (w:World) (hx:eB w s.st) (hc:eU s.st) (hsh:ShAt s.st):
    Calls Tryz.prog 191 #[.agg s.cells] w (xJ w (ay s 6)):=by
 have hrl:=hf.s
 obtain ⟨hc1,hc2,_,_⟩:=Dc hsh.Fa
 refine (dM Tryz.func191 41) ?_
 refine (JP∘JE) fun w1 g1=>(Jp 1∘Jr∘Jp 1∘Jq) fun a Z HM=>?_
 replace HM:=HM.nil 30 1
 refine Jb Z HM ((JG∘JQ∘JP∘Jf 1∘Jg 6 O1∘Jl∘Jp 1∘Jj∘JB) fun a Z HM=>?_)
 refine qj (fun mS aS wS=>∃(g:Nat) (q:List Nat) (Ao:Option Addr) (co:Nat),(g≤s.st.rs.length)∧(q=dF g fun i=>yU i (s.st.rs.getD i Rw.zero).l)∧(q.length≤192*g)∧(q.length≤co)∧mS=s.st.rs.length-g∧Fr aS 41 [] [(12,vI g),(11,vI s.st.rs.length),(10,.slice s.st.sA s.st.rs.length s.st.sc),(3,.slice Ao q.length co),(2,vN)]∧Mem w wS [.row (.slice Ao q.length co) q.length (q.map aK) 30 1,.blk g1 s.cells 52]) (m:=s.st.rs.length-0) ⟨0,[],none,0,Nat.zero_le _,rfl,Nat.le_refl _,Nat.le_refl _,rfl,Z.sub kr,HM.pk [0,1]⟩ ?_
 clear Z HM;rintro mS a w_ ⟨g,q,Ao,co,hg,hq,kY,hco,rfl,Z,HM⟩
 refine Jb Z HM ((JP∘Jp 1∘Jj∘JQ) (Ju (fun cB=>?_) fun cB=>?_))
 ·
  intro a Z HM
  have iE:=of_decide_eq_true cB
  have sJ:g<s.st.rs.length:=by omega
  obtain ⟨y,hy⟩:∃z,s.st.rs.getD g Rw.zero=z:=⟨_,rfl⟩
  have uX:Rd w w.heap.size 3 y.A y.l.length (y.l.flatMap kU):=by rw [←hy];exact hx.row sJ
  have hyl:(y.l.length:Int)=s.st.az:=by rw [←hy];exact (M4 sJ (hsh.row g sJ)).1
  have IG:∀z∈y.l,z.Ok:=by rw [←hy,←jw sJ];exact hok.sp _ (qs [] (by rw [tC];exact sJ))
  refine Jb Z HM ((JT∘aI∘JQ∘JB∘JP∘Jp 1) fun a Z HM=>?_)
  obtain ⟨kH,kI,hq1,_⟩:=Rd.qp hx.s (Nat.lt_of_le_of_lt (Nat.zero_le _) (show g<s.st.rs.length from by omega)) de
  have gz:=hx.s;rw [hq1] at gz
  replace Z:=Z.sp 10 (.slice (some ⟨kH,kI,none⟩) s.st.rs.length s.st.sc) rfl (by rw [hq1];try rfl)
  refine Jb Z HM ((Jy (h:=by exact Yl.ix kH kI g 1 rfl rfl rfl)∘Jy (v:= .slice ((s.st.rs.getD g Rw.zero).A) ((s.st.rs.getD g Rw.zero).l.length) ((s.st.rs.getD g Rw.zero).c)) (h:=by exact Yl.o1 gz g Rw.zero sJ rfl rfl)∘Jo (.slice y.A y.l.length y.c) (by rw [hy])∘Jp 2∘Jr∘Jp 1∘Jl∘Jp 1∘Jj∘JB) fun a Z HM=>?_)
  refine qj (fun mS aS wS=>∃(c:Nat) (q:List Nat) (Ao:Option Addr) (co:Nat),(c≤y.l.length)∧(q=(dF g fun i=>yU i (s.st.rs.getD i Rw.zero).l)++dF c fun i=>uQ g (y.l.getD i Sp.zero))∧(q.length≤192*g+3*c)∧(q.length≤co)∧mS=y.l.length-c∧Fr aS 41 [] [(19,vI c),(18,vI y.l.length),(17,.slice y.A y.l.length y.c),(5,.slice y.A y.l.length y.c),(4,vI g),(10,.slice (some ⟨kH,kI,none⟩) s.st.rs.length s.st.sc),(13,.bool true),(12,vI g),(11,vI s.st.rs.length),(3,.slice Ao q.length co),(2,vN)]∧Mem w wS [.row (.slice Ao q.length co) q.length (q.map aK) 30 1,.blk g1 s.cells 52]) (m:=y.l.length-0) ⟨0,q,Ao,co,Nat.zero_le _,by rw [hq,IA,List.append_nil],by omega,hco,rfl,Z.sub kr,HM.pk [0,1]⟩ ?_
  clear Z HM;rintro mS a w_ ⟨c,q,Ao,co,hc,hq,kY,hco,rfl,Z,HM⟩
  refine Jb Z HM ((JP∘Jp 1∘Jj∘JQ) (Ju (fun il=>?_) fun il=>?_))
  ·
   intro a Z HM
   have mo:=of_decide_eq_true il
   have wu:c<y.l.length:=by omega
   obtain ⟨z,hz⟩:∃q,(y.l.getD c Sp.zero)=q:=⟨_,rfl⟩
   have Fe:=IG _ (qs Sp.zero wu)
   rw [hz] at Fe
   have hzr:=Fe.r
   refine Jb Z HM ((JT∘aI∘JQ∘JB∘JP) fun a Z HM=>?_)
   obtain ⟨xK,xL,hq2,_⟩:=Rd.qp uX (Nat.lt_of_le_of_lt (Nat.zero_le _) (show c<y.l.length from by omega)) de
   have nO:=uX;rw [hq2] at nO
   replace Z:=Z.sp 17 (.slice (some ⟨xK,xL,none⟩) y.l.length y.c) rfl (by rw [hq2];try rfl)
   refine Jb Z HM ((Jy (h:=by exact Yl.ix xK xL c 3 rfl rfl rfl)∘Jy (v:= .agg ((y.l.getD c Sp.zero).cells)) (h:=by exact Yl.qm rfl rfl lH rfl (fun _ h=>(h.old nO).qQ MW ((getD_at Sp.zero wu))))∘Jo (.agg z.cells) (by rw [hz])∘JA #[vQ 0,vW 0,vQ 0]) fun w7 g7=>(JV lH bg (h1:=by exact Yh z)) fun Tx=>(bK∘Jj∘JQ∘JP∘Jp 2∘aT∘Jj) (Ji (fun hd24=>?_) fun hd24=>?_))
   ·
    refine (JT∘JR∘Jp 1∘Jg 0 O0∘Jg 1 O0∘Jw .u64∘JU zz #[vQ z.v,vQ z.r]) fun w31 g31=>(JD ([z.v,z.r].map aK) 2 (fun _ _=>fA) zz (hr:=by exact fun HM=>HM.aZ (i:=0) (n:=2) (size:=1) rfl rfl) (h1:=by exact uR _)) fun w32 CU c32 hc32=>(Jp 1∘aN∘Jq) fun a Z HM=>?_
    have wy:q.length+2=(q++[z.v,z.r]).length:=zx rfl
    replace HM:=HM.bu (i:=2) (ys:=(q++[z.v,z.r]).map aK) rfl wy (List.map_append.symm)
    rw [wy] at hc32
    replace Z:=Z.sp 3 (.slice CU ((q++[z.v,z.r]).length) c32) rfl (by rw [wy])
    refine Jb Z HM ((JG∘JR∘Jp 1∘Jg 2 O1∘JU zz #[vQ z.floor]) fun NJ g36=>(JD ([z.floor].map aK) 3 (fun _ _=>sV) zz (hr:=by exact fun HM=>HM.aZ (i:=0) (n:=1) (size:=1) rfl rfl) (h1:=by exact uR _)) fun yK jO c37 iP=>(Jp 1∘gW∘Jq) fun a Z HM=>?_)
    have dD:((q++[z.v,z.r]).length)+1=((q++[z.v,z.r])++[z.floor]).length:=zx rfl
    replace HM:=HM.bu (i:=3) (ys:=((q++[z.v,z.r])++[z.floor]).map aK) rfl dD (List.map_append.symm)
    rw [dD] at iP
    replace Z:=Z.sp 3 (.slice jO (((q++[z.v,z.r])++[z.floor]).length) c37) rfl (by rw [dD])
    refine Jb Z HM ((JG∘JR∘dR 1∘Jp 1∘aT∘Jq) fun a Z HM=>?_)
    replace Z:=Z.sp 17 (.slice y.A y.l.length y.c) rfl (by rw [hq2])
    exact ⟨_,om,c+1,((q++[z.v,z.r])++[z.floor]),jO,c37,by omega,by rw [hq,ql,hz,YA om];simp only [List.append_assoc],by (simp only [List.length_append,List.length_cons,List.length_nil];omega),iP,rfl,Z.sub kr,HM.pk [3,4]⟩
   refine (JF∘aI∘JR∘Jp 1∘Jg 2 O0∘JU zz #[vQ z.floor]) fun NJ g36=>(JD ([z.floor].map aK) 2 (fun _ _=>fA) zz (hr:=by exact fun HM=>HM.aZ (i:=0) (n:=1) (size:=1) rfl rfl) (h1:=by exact uR _)) fun yK jO c37 iP=>(Jp 1∘gW∘Jq) fun a Z HM=>?_
   have dD:q.length+1=(q++[z.floor]).length:=zx rfl
   replace HM:=HM.bu (i:=2) (ys:=(q++[z.floor]).map aK) rfl dD (List.map_append.symm)
   rw [dD] at iP
   replace Z:=Z.sp 3 (.slice jO ((q++[z.floor]).length) c37) rfl (by rw [dD])
   refine Jb Z HM ((JG∘JR∘dR 1∘Jp 1∘aT∘Jq) fun a Z HM=>?_)
   replace Z:=Z.sp 17 (.slice y.A y.l.length y.c) rfl (by rw [hq2])
   exact ⟨_,om,c+1,(q++[z.floor]),jO,c37,by omega,by rw [hq,ql,hz,YB om,List.append_assoc],by (simp only [List.length_append,List.length_cons,List.length_nil];omega),iP,rfl,Z.sub kr,HM.pk [2,3]⟩
  intro a Z HM
  have mo:=of_decide_eq_false il
  refine Jb Z HM ((JF∘JX∘JG∘JR∘dR 1∘Jp 1∘aT∘Jq) fun a Z HM=>?_)
  replace Z:=Z.sp 10 (.slice s.st.sA s.st.rs.length s.st.sc) rfl (by rw [hq1])
  exact ⟨_,om,g+1,q,Ao,co,by omega,by rw [hq,show c=y.l.length by omega,ql,hy];rfl,by omega,hco,rfl,Z.sub kr,HM.pk [0,1]⟩
 intro a Z HM
 have iE:=of_decide_eq_false cB
 exact Jb Z HM ((JF∘JX∘JG∘JP∘Jp 2∘aT∘Jj∘JZ∘bq) fun HM=>Bc (by rw [hq,show g=s.st.rs.length by omega];try rfl) (HM.own (i:=0) rfl) hco HM.below)
theorem ry:SI Tryz.prog 310 2:=⟨by kernel_rfl,by kernel_rfl⟩
theorem q5g:EI Tryz.prog 311 310 (.agg #[.string (ByteArray.mk #[]),.nilFunc]) 2 24:=⟨by kernel_rfl,by kernel_rfl,rfl,by omega⟩
def qu (s:bT):Array Value:= #[.string (ByteArray.mk #[110,101,120,116]),.func (.func 185) #[.agg s.cells] #[],.string (ByteArray.mk #[99,111,110,102,105,103]),.func (.func 186) #[.agg s.cells] #[],.string (ByteArray.mk #[103,114,111,117,112,115]),.func (.func 187) #[.agg s.cells] #[],.string (ByteArray.mk #[99,108,111,99,107,115]),.func (.func 188) #[.agg s.cells] #[],.string (ByteArray.mk #[99,117,114,114,101,110,116]),.func (.func 189) #[.agg s.cells] #[],.string (ByteArray.mk #[116,97,115,107,115]),.func (.func 190) #[.agg s.cells] #[],.string (ByteArray.mk #[115,112,111,116,115]),.func (.func 191) #[.agg s.cells] #[]]
def qr6 (P:Program) (W:World) (lp:Nat) (s:bT) (Inv:Nat→List ag→Prop):Prop:=
 ∀(i:Nat) (F fr:List ag) (w:World) (A:Option Addr) (c:Nat),Inv i F→i<7→(ay s i).length≤c→Mem W w (.row (.slice A (ay s i).length c) (ay s i).length ((ay s i).map aK) 30 1::(F++fr))→YieldAt Fence.wide 0 P lp #[.string (qa i),.slice A (ay s i).length c] w (Rj W fr (Inv (i+1)))
theorem qx6 (s:bT) (w:World):
    Calls Tryz.prog 145 #[.agg s.cells] w fun r w'=>∃gv gp,r= .returned (.func (.func 192) #[] #[vP gv 0])∧Mem w w' [.blk gv #[.slice (some ⟨gp,0,none⟩) 7 7] 311,.blk gp (qu s) 310]:=by
 refine (dM Tryz.func145 27) ?_
 refine (JP∘JE) fun w1 g1=>(Jp 1∘Jr∘Jy (v:= .agg s.cells) (h:=by exact Yl.qm rfl rfl zr rfl (fun _ h=>qc (h.blk (i:=0) rfl)))∘Jy (h:=by exact Yl.makeFunc (fst:=[.agg s.cells]) (aJ:=[]) rfl rfl rfl)∘Jy (v:= .agg #[.string (ByteArray.mk #[110,101,120,116]),.func (.func 185) #[.agg s.cells] #[]]) (h:=by exact Yl.build (vs:=[(0,.string (ByteArray.mk #[110,101,120,116])),(1,.func (.func 185) #[.agg s.cells] #[])]) rfl kr kr)∘Jy (v:= .agg s.cells) (h:=by exact Yl.qm rfl rfl zr rfl (fun _ h=>qc (h.blk (i:=0) rfl)))∘Jy (h:=by exact Yl.makeFunc (fst:=[.agg s.cells]) (aJ:=[]) rfl rfl rfl)∘Jy (v:= .agg #[.string (ByteArray.mk #[99,111,110,102,105,103]),.func (.func 186) #[.agg s.cells] #[]]) (h:=by exact Yl.build (vs:=[(0,.string (ByteArray.mk #[99,111,110,102,105,103])),(1,.func (.func 186) #[.agg s.cells] #[])]) rfl kr kr)∘Jy (v:= .agg s.cells) (h:=by exact Yl.qm rfl rfl zr rfl (fun _ h=>qc (h.blk (i:=0) rfl)))∘Jy (h:=by exact Yl.makeFunc (fst:=[.agg s.cells]) (aJ:=[]) rfl rfl rfl)∘Jy (v:= .agg #[.string (ByteArray.mk #[103,114,111,117,112,115]),.func (.func 187) #[.agg s.cells] #[]]) (h:=by exact Yl.build (vs:=[(0,.string (ByteArray.mk #[103,114,111,117,112,115])),(1,.func (.func 187) #[.agg s.cells] #[])]) rfl kr kr)∘Jy (v:= .agg s.cells) (h:=by exact Yl.qm rfl rfl zr rfl (fun _ h=>qc (h.blk (i:=0) rfl)))∘Jy (h:=by exact Yl.makeFunc (fst:=[.agg s.cells]) (aJ:=[]) rfl rfl rfl)∘Jy (v:= .agg #[.string (ByteArray.mk #[99,108,111,99,107,115]),.func (.func 188) #[.agg s.cells] #[]]) (h:=by exact Yl.build (vs:=[(0,.string (ByteArray.mk #[99,108,111,99,107,115])),(1,.func (.func 188) #[.agg s.cells] #[])]) rfl kr kr)∘Jy (v:= .agg s.cells) (h:=by exact Yl.qm rfl rfl zr rfl (fun _ h=>qc (h.blk (i:=0) rfl)))∘Jy (h:=by exact Yl.makeFunc (fst:=[.agg s.cells]) (aJ:=[]) rfl rfl rfl)∘Jy (v:= .agg #[.string (ByteArray.mk #[99,117,114,114,101,110,116]),.func (.func 189) #[.agg s.cells] #[]]) (h:=by exact Yl.build (vs:=[(0,.string (ByteArray.mk #[99,117,114,114,101,110,116])),(1,.func (.func 189) #[.agg s.cells] #[])]) rfl kr kr)∘Jy (v:= .agg s.cells) (h:=by exact Yl.qm rfl rfl zr rfl (fun _ h=>qc (h.blk (i:=0) rfl)))∘Jy (h:=by exact Yl.makeFunc (fst:=[.agg s.cells]) (aJ:=[]) rfl rfl rfl)∘Jy (v:= .agg #[.string (ByteArray.mk #[116,97,115,107,115]),.func (.func 190) #[.agg s.cells] #[]]) (h:=by exact Yl.build (vs:=[(0,.string (ByteArray.mk #[116,97,115,107,115])),(1,.func (.func 190) #[.agg s.cells] #[])]) rfl kr kr)∘Jy (v:= .agg s.cells) (h:=by exact Yl.qm rfl rfl zr rfl (fun _ h=>qc (h.blk (i:=0) rfl)))∘Jy (h:=by exact Yl.makeFunc (fst:=[.agg s.cells]) (aJ:=[]) rfl rfl rfl)∘Jy (v:= .agg #[.string (ByteArray.mk #[115,112,111,116,115]),.func (.func 191) #[.agg s.cells] #[]]) (h:=by exact Yl.build (vs:=[(0,.string (ByteArray.mk #[115,112,111,116,115])),(1,.func (.func 191) #[.agg s.cells] #[])]) rfl kr kr)) fun a Z HM=>?_
 refine fo Z 21 rfl rfl (mh Z HM q5g [(0,.agg #[.string (ByteArray.mk #[110,101,120,116]),.func (.func 185) #[.agg s.cells] #[]]),(1,.agg #[.string (ByteArray.mk #[99,111,110,102,105,103]),.func (.func 186) #[.agg s.cells] #[]]),(2,.agg #[.string (ByteArray.mk #[103,114,111,117,112,115]),.func (.func 187) #[.agg s.cells] #[]]),(3,.agg #[.string (ByteArray.mk #[99,108,111,99,107,115]),.func (.func 188) #[.agg s.cells] #[]]),(4,.agg #[.string (ByteArray.mk #[99,117,114,114,101,110,116]),.func (.func 189) #[.agg s.cells] #[]]),(5,.agg #[.string (ByteArray.mk #[116,97,115,107,115]),.func (.func 190) #[.agg s.cells] #[]]),(6,.agg #[.string (ByteArray.mk #[115,112,111,116,115]),.func (.func 191) #[.agg s.cells] #[]])] (qu s) ?_)
 clear Z HM;intro a w25 g25 Z HM
 exact Jb Z HM ((JA #[vN]) fun w3 g3=>(JW bg bg) fun aan=>(aN∘Jr∘Jy (h:=by exact Yl.makeFunc (fst:=[]) (aJ:=[vP g3 0]) rfl rfl rfl)∘Jp 1∘aT∘Jj∘JZ∘bq) fun HM=>by exact ⟨_,_,rfl,HM.pk [0,1]⟩)
theorem qtu (W w:World) (gv gp lp:Nat) (s:bT) (hok:s.st.aB.Ok) (hf:bX s.st) (hx:eB W s.st) (hc:eU s.st) (hsh:ShAt s.st) (Inv:Nat→List ag→Prop) (F0:List ag) (hy:qr6 Tryz.prog W lp s Inv) (hI0:Inv 0 F0) (HM:Mem W w (.blk gv #[.slice (some ⟨gp,0,none⟩) 7 7] 311:: .blk gp (qu s) 310::F0)):
    Calls Tryz.prog 192 (.func (.yield lp) #[] #[]:: [vP gv 0]).toArray w (Yj W (Inv 7)):=by
 refine pz Tryz.func192 [.func (.yield lp) #[] #[],vP gv 0] [(0,.func (.yield lp) #[] #[]),(1,vP gv 0)] fun a Z=>?_
 refine Jb Z HM ((JP∘Jc O0∘Jl∘Jp 1∘Jj∘JB) fun a Z HM=>?_)
 refine qj (fun mS aS wS=>∃(k:Nat) (F:List ag),(k≤7)∧(Inv k F)∧mS=7-k∧Fr aS 20 [] [(7,vI k),(6,vI 7),(5,vS gp 7 7),(0,.func (.yield lp) #[] #[])]∧Mem W wS (.blk gv #[vS gp 7 7] 311:: .blk gp (qu s) 310::F)) (m:=7-0) ⟨0,F0,by decide,hI0,rfl,Z.sub kr,HM.pt 2 [0,1]⟩ ?_
 clear Z HM;rintro mS a w_ ⟨k,F,hk,hI,rfl,Z,HM⟩
 refine Jb Z HM ((JP∘Jp 1∘Jj∘JQ) (Ju (fun ll=>?_) fun ll=>?_))
 ·
  intro a Z HM
  have uG:=of_decide_eq_true ll
  revert HM;revert a;repeat (first|clear Z|clear HM)
  intro a Z HM
  obtain rfl|rfl|rfl|rfl|rfl|rfl|rfl:k=0∨k=1∨k=2∨k=3∨k=4∨k=5∨k=6:=by omega
  ·
   replace Z:=Z.sp 7 (vI 0) rfl rfl
   refine Jb Z HM ((JT∘aI∘JQ∘JB∘JP∘Jy (v:=vP gp 0) (h:=by exact Yl.indexAddr (ad:=⟨gp,0,none⟩) (y:=0) (sz:=2) rfl rfl rfl de kr)∘Jy (v:= .agg #[.string (ByteArray.mk #[110,101,120,116]),.func (.func 185) #[.agg s.cells] #[]]) (h:=by exact Yl.qm rfl rfl ry rfl (fun _ h=>h.sub (i:=1) rfl 0 rfl))∘JA #[.string (ByteArray.mk #[]),.nilFunc]) fun w4 g4=>(JV ry bg) fun qB=>(bK∘Jj) fun a Z HM=>?_)
   refine wp_seq ?_
   refine DK 6 HM (.blk g4 #[.string (ByteArray.mk #[110,101,120,116]),.func (.func 185) #[.agg s.cells] #[]] 310:: .blk gv #[vS gp 7 7] 311:: .blk gp (qu s) 310::F) 3 [0,1,2] [] fun HM HS=>?_
   refine ap Z (fun _=>HS) [0,1,3] (bf 6 [0,1,3]) [(14,vP g4 1),(12,vP g4 0),(11,.func (.yield lp) #[] #[])] fun a Z=>?_
   refine eY Z HS 2 0 fun a Z=>?_
   refine eY Z HS 4 0 fun a Z=>?_
   refine s_on Z 5 rfl ?_
   refine zg Z (f:=185) (vs:=[]) (fst:=[.agg s.cells]) (aJ:=[]) rfl rfl rfl kr rfl de (qx5 s hok hf _ (hx.old HM)) ?_
   rintro _ w16 ⟨⟨gG,c16,rfl,ho,hc16⟩,hbw⟩
   refine ⟨_,rfl,?_⟩
   replace HM:=HM.bN hbw ho
   clear Z;intro a Z
   refine aD (HM.pt 4 [1,2,3]) (fun HS=>?_)
   refine qh kr ?_
   replace HM:=HM.pt (fs':=(.row (.slice gG ((ay s 0).length) c16) ((ay s 0).length) ((ay s 0).map aK) 30 1:: .blk g4 #[.string (ByteArray.mk #[110,101,120,116]),.func (.func 185) #[.agg s.cells] #[]] 310:: .blk gv #[vS gp 7 7] 311:: .blk gp (qu s) 310::F)) 4 [0,1,2,3]
   refine xz Z (i:=6) (vs:=[.string (ByteArray.mk #[110,101,120,116]),.slice gG ((ay s 0).length) c16]) rfl rfl rfl rfl rfl rfl de (hy 0 F [.blk g4 #[.string (ByteArray.mk #[110,101,120,116]),.func (.func 185) #[.agg s.cells] #[]] 310,.blk gv #[vS gp 7 7] 311,.blk gp (qu s) 310] _ gG c16 hI om hc16 (Mem.Az (es:=[.blk g4 #[.string (ByteArray.mk #[110,101,120,116]),.func (.func 185) #[.agg s.cells] #[]] 310,.blk gv #[vS gp 7 7] 311,.blk gp (qu s) 310]) HM)) zd ?_
   clear Z HM;rintro v jv a ⟨F2,HM,hv,hI2⟩ Z;injection hv with hv;subst hv
   replace HM:Mem W jv (.blk g4 #[.string (ByteArray.mk #[110,101,120,116]),.func (.func 185) #[.agg s.cells] #[]] 310:: .blk gv #[vS gp 7 7] 311:: .blk gp (qu s) 310::F2):=Mem.rW (es:=[.blk g4 #[.string (ByteArray.mk #[110,101,120,116]),.func (.func 185) #[.agg s.cells] #[]] 310,.blk gv #[vS gp 7 7] 311,.blk gp (qu s) 310]) HM
   replace Z:=Z.to [(17,.bool true),(7,vI 0),(6,vI 7),(5,vS gp 7 7),(0,.func (.yield lp) #[] #[])]
   refine Jb Z HM ((Jp 1∘aT∘Jq∘JF∘aI∘JR∘Jv 2 [(7,vI 1)]∘Jq) fun a Z HM=>?_)
   exact ⟨_,om,1,F2,by omega,hI2,rfl,Z.sub kr,HM.pt 3 [1,2]⟩
  ·
   replace Z:=Z.sp 7 (vI 1) rfl rfl
   refine Jb Z HM ((JT∘aI∘JQ∘JB∘JP∘Jy (v:=vP gp 2) (h:=by exact Yl.indexAddr (ad:=⟨gp,0,none⟩) (y:=1) (sz:=2) rfl rfl rfl de kr)∘Jy (v:= .agg #[.string (ByteArray.mk #[99,111,110,102,105,103]),.func (.func 186) #[.agg s.cells] #[]]) (h:=by exact Yl.qm rfl rfl ry rfl (fun _ h=>h.sub (i:=1) rfl 2 rfl))∘JA #[.string (ByteArray.mk #[]),.nilFunc]) fun w4 g4=>(JV ry bg) fun qB=>(bK∘Jj) fun a Z HM=>?_)
   refine wp_seq ?_
   refine DK 6 HM (.blk g4 #[.string (ByteArray.mk #[99,111,110,102,105,103]),.func (.func 186) #[.agg s.cells] #[]] 310:: .blk gv #[vS gp 7 7] 311:: .blk gp (qu s) 310::F) 3 [0,1,2] [] fun HM HS=>?_
   refine ap Z (fun _=>HS) [0,1,3] (bf 6 [0,1,3]) [(14,vP g4 1),(12,vP g4 0),(11,.func (.yield lp) #[] #[])] fun a Z=>?_
   refine eY Z HS 2 0 fun a Z=>?_
   refine eY Z HS 4 0 fun a Z=>?_
   refine s_on Z 5 rfl ?_
   refine zg Z (f:=186) (vs:=[]) (fst:=[.agg s.cells]) (aJ:=[]) rfl rfl rfl kr rfl de (qqa s hok hf _ (hx.old HM)) ?_
   rintro _ w16 ⟨⟨gG,c16,rfl,ho,hc16⟩,hbw⟩
   refine ⟨_,rfl,?_⟩
   replace HM:=HM.bN hbw ho
   clear Z;intro a Z
   refine aD (HM.pt 4 [1,2,3]) (fun HS=>?_)
   refine qh kr ?_
   replace HM:=HM.pt (fs':=(.row (.slice gG ((ay s 1).length) c16) ((ay s 1).length) ((ay s 1).map aK) 30 1:: .blk g4 #[.string (ByteArray.mk #[99,111,110,102,105,103]),.func (.func 186) #[.agg s.cells] #[]] 310:: .blk gv #[vS gp 7 7] 311:: .blk gp (qu s) 310::F)) 4 [0,1,2,3]
   refine xz Z (i:=6) (vs:=[.string (ByteArray.mk #[99,111,110,102,105,103]),.slice gG ((ay s 1).length) c16]) rfl rfl rfl rfl rfl rfl de (hy 1 F [.blk g4 #[.string (ByteArray.mk #[99,111,110,102,105,103]),.func (.func 186) #[.agg s.cells] #[]] 310,.blk gv #[vS gp 7 7] 311,.blk gp (qu s) 310] _ gG c16 hI om hc16 (Mem.Az (es:=[.blk g4 #[.string (ByteArray.mk #[99,111,110,102,105,103]),.func (.func 186) #[.agg s.cells] #[]] 310,.blk gv #[vS gp 7 7] 311,.blk gp (qu s) 310]) HM)) zd ?_
   clear Z HM;rintro v jv a ⟨F2,HM,hv,hI2⟩ Z;injection hv with hv;subst hv
   replace HM:Mem W jv (.blk g4 #[.string (ByteArray.mk #[99,111,110,102,105,103]),.func (.func 186) #[.agg s.cells] #[]] 310:: .blk gv #[vS gp 7 7] 311:: .blk gp (qu s) 310::F2):=Mem.rW (es:=[.blk g4 #[.string (ByteArray.mk #[99,111,110,102,105,103]),.func (.func 186) #[.agg s.cells] #[]] 310,.blk gv #[vS gp 7 7] 311,.blk gp (qu s) 310]) HM
   replace Z:=Z.to [(17,.bool true),(7,vI 1),(6,vI 7),(5,vS gp 7 7),(0,.func (.yield lp) #[] #[])]
   refine Jb Z HM ((Jp 1∘aT∘Jq∘JF∘aI∘JR∘Jv 2 [(7,vI 2)]∘Jq) fun a Z HM=>?_)
   exact ⟨_,om,2,F2,by omega,hI2,rfl,Z.sub kr,HM.pt 3 [1,2]⟩
  ·
   replace Z:=Z.sp 7 (vI 2) rfl rfl
   refine Jb Z HM ((JT∘aI∘JQ∘JB∘JP∘Jy (v:=vP gp 4) (h:=by exact Yl.indexAddr (ad:=⟨gp,0,none⟩) (y:=2) (sz:=2) rfl rfl rfl de kr)∘Jy (v:= .agg #[.string (ByteArray.mk #[103,114,111,117,112,115]),.func (.func 187) #[.agg s.cells] #[]]) (h:=by exact Yl.qm rfl rfl ry rfl (fun _ h=>h.sub (i:=1) rfl 4 rfl))∘JA #[.string (ByteArray.mk #[]),.nilFunc]) fun w4 g4=>(JV ry bg) fun qB=>(bK∘Jj) fun a Z HM=>?_)
   refine wp_seq ?_
   refine DK 6 HM (.blk g4 #[.string (ByteArray.mk #[103,114,111,117,112,115]),.func (.func 187) #[.agg s.cells] #[]] 310:: .blk gv #[vS gp 7 7] 311:: .blk gp (qu s) 310::F) 3 [0,1,2] [] fun HM HS=>?_
   refine ap Z (fun _=>HS) [0,1,3] (bf 6 [0,1,3]) [(14,vP g4 1),(12,vP g4 0),(11,.func (.yield lp) #[] #[])] fun a Z=>?_
   refine eY Z HS 2 0 fun a Z=>?_
   refine eY Z HS 4 0 fun a Z=>?_
   refine s_on Z 5 rfl ?_
   refine zg Z (f:=187) (vs:=[]) (fst:=[.agg s.cells]) (aJ:=[]) rfl rfl rfl kr rfl de (qqc s hok hf _ (hx.old HM) hc hsh) ?_
   rintro _ w16 ⟨⟨gG,c16,rfl,ho,hc16⟩,hbw⟩
   refine ⟨_,rfl,?_⟩
   replace HM:=HM.bN hbw ho
   clear Z;intro a Z
   refine aD (HM.pt 4 [1,2,3]) (fun HS=>?_)
   refine qh kr ?_
   replace HM:=HM.pt (fs':=(.row (.slice gG ((ay s 2).length) c16) ((ay s 2).length) ((ay s 2).map aK) 30 1:: .blk g4 #[.string (ByteArray.mk #[103,114,111,117,112,115]),.func (.func 187) #[.agg s.cells] #[]] 310:: .blk gv #[vS gp 7 7] 311:: .blk gp (qu s) 310::F)) 4 [0,1,2,3]
   refine xz Z (i:=6) (vs:=[.string (ByteArray.mk #[103,114,111,117,112,115]),.slice gG ((ay s 2).length) c16]) rfl rfl rfl rfl rfl rfl de (hy 2 F [.blk g4 #[.string (ByteArray.mk #[103,114,111,117,112,115]),.func (.func 187) #[.agg s.cells] #[]] 310,.blk gv #[vS gp 7 7] 311,.blk gp (qu s) 310] _ gG c16 hI om hc16 (Mem.Az (es:=[.blk g4 #[.string (ByteArray.mk #[103,114,111,117,112,115]),.func (.func 187) #[.agg s.cells] #[]] 310,.blk gv #[vS gp 7 7] 311,.blk gp (qu s) 310]) HM)) zd ?_
   clear Z HM;rintro v jv a ⟨F2,HM,hv,hI2⟩ Z;injection hv with hv;subst hv
   replace HM:Mem W jv (.blk g4 #[.string (ByteArray.mk #[103,114,111,117,112,115]),.func (.func 187) #[.agg s.cells] #[]] 310:: .blk gv #[vS gp 7 7] 311:: .blk gp (qu s) 310::F2):=Mem.rW (es:=[.blk g4 #[.string (ByteArray.mk #[103,114,111,117,112,115]),.func (.func 187) #[.agg s.cells] #[]] 310,.blk gv #[vS gp 7 7] 311,.blk gp (qu s) 310]) HM
   replace Z:=Z.to [(17,.bool true),(7,vI 2),(6,vI 7),(5,vS gp 7 7),(0,.func (.yield lp) #[] #[])]
   refine Jb Z HM ((Jp 1∘aT∘Jq∘JF∘aI∘JR∘Jv 2 [(7,vI 3)]∘Jq) fun a Z HM=>?_)
   exact ⟨_,om,3,F2,by omega,hI2,rfl,Z.sub kr,HM.pt 3 [1,2]⟩
  ·
   replace Z:=Z.sp 7 (vI 3) rfl rfl
   refine Jb Z HM ((JT∘aI∘JQ∘JB∘JP∘Jy (v:=vP gp 6) (h:=by exact Yl.indexAddr (ad:=⟨gp,0,none⟩) (y:=3) (sz:=2) rfl rfl rfl de kr)∘Jy (v:= .agg #[.string (ByteArray.mk #[99,108,111,99,107,115]),.func (.func 188) #[.agg s.cells] #[]]) (h:=by exact Yl.qm rfl rfl ry rfl (fun _ h=>h.sub (i:=1) rfl 6 rfl))∘JA #[.string (ByteArray.mk #[]),.nilFunc]) fun w4 g4=>(JV ry bg) fun qB=>(bK∘Jj) fun a Z HM=>?_)
   refine wp_seq ?_
   refine DK 6 HM (.blk g4 #[.string (ByteArray.mk #[99,108,111,99,107,115]),.func (.func 188) #[.agg s.cells] #[]] 310:: .blk gv #[vS gp 7 7] 311:: .blk gp (qu s) 310::F) 3 [0,1,2] [] fun HM HS=>?_
   refine ap Z (fun _=>HS) [0,1,3] (bf 6 [0,1,3]) [(14,vP g4 1),(12,vP g4 0),(11,.func (.yield lp) #[] #[])] fun a Z=>?_
   refine eY Z HS 2 0 fun a Z=>?_
   refine eY Z HS 4 0 fun a Z=>?_
   refine s_on Z 5 rfl ?_
   refine zg Z (f:=188) (vs:=[]) (fst:=[.agg s.cells]) (aJ:=[]) rfl rfl rfl kr rfl de (qqb s hok hf _ (hx.old HM)) ?_
   rintro _ w16 ⟨⟨gG,c16,rfl,ho,hc16⟩,hbw⟩
   refine ⟨_,rfl,?_⟩
   replace HM:=HM.bN hbw ho
   clear Z;intro a Z
   refine aD (HM.pt 4 [1,2,3]) (fun HS=>?_)
   refine qh kr ?_
   replace HM:=HM.pt (fs':=(.row (.slice gG ((ay s 3).length) c16) ((ay s 3).length) ((ay s 3).map aK) 30 1:: .blk g4 #[.string (ByteArray.mk #[99,108,111,99,107,115]),.func (.func 188) #[.agg s.cells] #[]] 310:: .blk gv #[vS gp 7 7] 311:: .blk gp (qu s) 310::F)) 4 [0,1,2,3]
   refine xz Z (i:=6) (vs:=[.string (ByteArray.mk #[99,108,111,99,107,115]),.slice gG ((ay s 3).length) c16]) rfl rfl rfl rfl rfl rfl de (hy 3 F [.blk g4 #[.string (ByteArray.mk #[99,108,111,99,107,115]),.func (.func 188) #[.agg s.cells] #[]] 310,.blk gv #[vS gp 7 7] 311,.blk gp (qu s) 310] _ gG c16 hI om hc16 (Mem.Az (es:=[.blk g4 #[.string (ByteArray.mk #[99,108,111,99,107,115]),.func (.func 188) #[.agg s.cells] #[]] 310,.blk gv #[vS gp 7 7] 311,.blk gp (qu s) 310]) HM)) zd ?_
   clear Z HM;rintro v jv a ⟨F2,HM,hv,hI2⟩ Z;injection hv with hv;subst hv
   replace HM:Mem W jv (.blk g4 #[.string (ByteArray.mk #[99,108,111,99,107,115]),.func (.func 188) #[.agg s.cells] #[]] 310:: .blk gv #[vS gp 7 7] 311:: .blk gp (qu s) 310::F2):=Mem.rW (es:=[.blk g4 #[.string (ByteArray.mk #[99,108,111,99,107,115]),.func (.func 188) #[.agg s.cells] #[]] 310,.blk gv #[vS gp 7 7] 311,.blk gp (qu s) 310]) HM
   replace Z:=Z.to [(17,.bool true),(7,vI 3),(6,vI 7),(5,vS gp 7 7),(0,.func (.yield lp) #[] #[])]
   refine Jb Z HM ((Jp 1∘aT∘Jq∘JF∘aI∘JR∘Jv 2 [(7,vI 4)]∘Jq) fun a Z HM=>?_)
   exact ⟨_,om,4,F2,by omega,hI2,rfl,Z.sub kr,HM.pt 3 [1,2]⟩
  ·
   replace Z:=Z.sp 7 (vI 4) rfl rfl
   refine Jb Z HM ((JT∘aI∘JQ∘JB∘JP∘Jy (v:=vP gp 8) (h:=by exact Yl.indexAddr (ad:=⟨gp,0,none⟩) (y:=4) (sz:=2) rfl rfl rfl de kr)∘Jy (v:= .agg #[.string (ByteArray.mk #[99,117,114,114,101,110,116]),.func (.func 189) #[.agg s.cells] #[]]) (h:=by exact Yl.qm rfl rfl ry rfl (fun _ h=>h.sub (i:=1) rfl 8 rfl))∘JA #[.string (ByteArray.mk #[]),.nilFunc]) fun w4 g4=>(JV ry bg) fun qB=>(bK∘Jj) fun a Z HM=>?_)
   refine wp_seq ?_
   refine DK 6 HM (.blk g4 #[.string (ByteArray.mk #[99,117,114,114,101,110,116]),.func (.func 189) #[.agg s.cells] #[]] 310:: .blk gv #[vS gp 7 7] 311:: .blk gp (qu s) 310::F) 3 [0,1,2] [] fun HM HS=>?_
   refine ap Z (fun _=>HS) [0,1,3] (bf 6 [0,1,3]) [(14,vP g4 1),(12,vP g4 0),(11,.func (.yield lp) #[] #[])] fun a Z=>?_
   refine eY Z HS 2 0 fun a Z=>?_
   refine eY Z HS 4 0 fun a Z=>?_
   refine s_on Z 5 rfl ?_
   refine zg Z (f:=189) (vs:=[]) (fst:=[.agg s.cells]) (aJ:=[]) rfl rfl rfl kr rfl de (qof s hok hf _ (hx.old HM)) ?_
   rintro _ w16 ⟨⟨gG,c16,rfl,ho,hc16⟩,hbw⟩
   refine ⟨_,rfl,?_⟩
   replace HM:=HM.bN hbw ho
   clear Z;intro a Z
   refine aD (HM.pt 4 [1,2,3]) (fun HS=>?_)
   refine qh kr ?_
   replace HM:=HM.pt (fs':=(.row (.slice gG ((ay s 4).length) c16) ((ay s 4).length) ((ay s 4).map aK) 30 1:: .blk g4 #[.string (ByteArray.mk #[99,117,114,114,101,110,116]),.func (.func 189) #[.agg s.cells] #[]] 310:: .blk gv #[vS gp 7 7] 311:: .blk gp (qu s) 310::F)) 4 [0,1,2,3]
   refine xz Z (i:=6) (vs:=[.string (ByteArray.mk #[99,117,114,114,101,110,116]),.slice gG ((ay s 4).length) c16]) rfl rfl rfl rfl rfl rfl de (hy 4 F [.blk g4 #[.string (ByteArray.mk #[99,117,114,114,101,110,116]),.func (.func 189) #[.agg s.cells] #[]] 310,.blk gv #[vS gp 7 7] 311,.blk gp (qu s) 310] _ gG c16 hI om hc16 (Mem.Az (es:=[.blk g4 #[.string (ByteArray.mk #[99,117,114,114,101,110,116]),.func (.func 189) #[.agg s.cells] #[]] 310,.blk gv #[vS gp 7 7] 311,.blk gp (qu s) 310]) HM)) zd ?_
   clear Z HM;rintro v jv a ⟨F2,HM,hv,hI2⟩ Z;injection hv with hv;subst hv
   replace HM:Mem W jv (.blk g4 #[.string (ByteArray.mk #[99,117,114,114,101,110,116]),.func (.func 189) #[.agg s.cells] #[]] 310:: .blk gv #[vS gp 7 7] 311:: .blk gp (qu s) 310::F2):=Mem.rW (es:=[.blk g4 #[.string (ByteArray.mk #[99,117,114,114,101,110,116]),.func (.func 189) #[.agg s.cells] #[]] 310,.blk gv #[vS gp 7 7] 311,.blk gp (qu s) 310]) HM
   replace Z:=Z.to [(17,.bool true),(7,vI 4),(6,vI 7),(5,vS gp 7 7),(0,.func (.yield lp) #[] #[])]
   refine Jb Z HM ((Jp 1∘aT∘Jq∘JF∘aI∘JR∘Jv 2 [(7,vI 5)]∘Jq) fun a Z HM=>?_)
   exact ⟨_,om,5,F2,by omega,hI2,rfl,Z.sub kr,HM.pt 3 [1,2]⟩
  ·
   replace Z:=Z.sp 7 (vI 5) rfl rfl
   refine Jb Z HM ((JT∘aI∘JQ∘JB∘JP∘Jy (v:=vP gp 10) (h:=by exact Yl.indexAddr (ad:=⟨gp,0,none⟩) (y:=5) (sz:=2) rfl rfl rfl de kr)∘Jy (v:= .agg #[.string (ByteArray.mk #[116,97,115,107,115]),.func (.func 190) #[.agg s.cells] #[]]) (h:=by exact Yl.qm rfl rfl ry rfl (fun _ h=>h.sub (i:=1) rfl 10 rfl))∘JA #[.string (ByteArray.mk #[]),.nilFunc]) fun w4 g4=>(JV ry bg) fun qB=>(bK∘Jj) fun a Z HM=>?_)
   refine wp_seq ?_
   refine DK 6 HM (.blk g4 #[.string (ByteArray.mk #[116,97,115,107,115]),.func (.func 190) #[.agg s.cells] #[]] 310:: .blk gv #[vS gp 7 7] 311:: .blk gp (qu s) 310::F) 3 [0,1,2] [] fun HM HS=>?_
   refine ap Z (fun _=>HS) [0,1,3] (bf 6 [0,1,3]) [(14,vP g4 1),(12,vP g4 0),(11,.func (.yield lp) #[] #[])] fun a Z=>?_
   refine eY Z HS 2 0 fun a Z=>?_
   refine eY Z HS 4 0 fun a Z=>?_
   refine s_on Z 5 rfl ?_
   refine zg Z (f:=190) (vs:=[]) (fst:=[.agg s.cells]) (aJ:=[]) rfl rfl rfl kr rfl de (qts s hok hf _ (hx.old HM) hc hsh) ?_
   rintro _ w16 ⟨⟨gG,c16,rfl,ho,hc16⟩,hbw⟩
   refine ⟨_,rfl,?_⟩
   replace HM:=HM.bN hbw ho
   clear Z;intro a Z
   refine aD (HM.pt 4 [1,2,3]) (fun HS=>?_)
   refine qh kr ?_
   replace HM:=HM.pt (fs':=(.row (.slice gG ((ay s 5).length) c16) ((ay s 5).length) ((ay s 5).map aK) 30 1:: .blk g4 #[.string (ByteArray.mk #[116,97,115,107,115]),.func (.func 190) #[.agg s.cells] #[]] 310:: .blk gv #[vS gp 7 7] 311:: .blk gp (qu s) 310::F)) 4 [0,1,2,3]
   refine xz Z (i:=6) (vs:=[.string (ByteArray.mk #[116,97,115,107,115]),.slice gG ((ay s 5).length) c16]) rfl rfl rfl rfl rfl rfl de (hy 5 F [.blk g4 #[.string (ByteArray.mk #[116,97,115,107,115]),.func (.func 190) #[.agg s.cells] #[]] 310,.blk gv #[vS gp 7 7] 311,.blk gp (qu s) 310] _ gG c16 hI om hc16 (Mem.Az (es:=[.blk g4 #[.string (ByteArray.mk #[116,97,115,107,115]),.func (.func 190) #[.agg s.cells] #[]] 310,.blk gv #[vS gp 7 7] 311,.blk gp (qu s) 310]) HM)) zd ?_
   clear Z HM;rintro v jv a ⟨F2,HM,hv,hI2⟩ Z;injection hv with hv;subst hv
   replace HM:Mem W jv (.blk g4 #[.string (ByteArray.mk #[116,97,115,107,115]),.func (.func 190) #[.agg s.cells] #[]] 310:: .blk gv #[vS gp 7 7] 311:: .blk gp (qu s) 310::F2):=Mem.rW (es:=[.blk g4 #[.string (ByteArray.mk #[116,97,115,107,115]),.func (.func 190) #[.agg s.cells] #[]] 310,.blk gv #[vS gp 7 7] 311,.blk gp (qu s) 310]) HM
   replace Z:=Z.to [(17,.bool true),(7,vI 5),(6,vI 7),(5,vS gp 7 7),(0,.func (.yield lp) #[] #[])]
   refine Jb Z HM ((Jp 1∘aT∘Jq∘JF∘aI∘JR∘Jv 2 [(7,vI 6)]∘Jq) fun a Z HM=>?_)
   exact ⟨_,om,6,F2,by omega,hI2,rfl,Z.sub kr,HM.pt 3 [1,2]⟩
  ·
   replace Z:=Z.sp 7 (vI 6) rfl rfl
   refine Jb Z HM ((JT∘aI∘JQ∘JB∘JP∘Jy (v:=vP gp 12) (h:=by exact Yl.indexAddr (ad:=⟨gp,0,none⟩) (y:=6) (sz:=2) rfl rfl rfl de kr)∘Jy (v:= .agg #[.string (ByteArray.mk #[115,112,111,116,115]),.func (.func 191) #[.agg s.cells] #[]]) (h:=by exact Yl.qm rfl rfl ry rfl (fun _ h=>h.sub (i:=1) rfl 12 rfl))∘JA #[.string (ByteArray.mk #[]),.nilFunc]) fun w4 g4=>(JV ry bg) fun qB=>(bK∘Jj) fun a Z HM=>?_)
   refine wp_seq ?_
   refine DK 6 HM (.blk g4 #[.string (ByteArray.mk #[115,112,111,116,115]),.func (.func 191) #[.agg s.cells] #[]] 310:: .blk gv #[vS gp 7 7] 311:: .blk gp (qu s) 310::F) 3 [0,1,2] [] fun HM HS=>?_
   refine ap Z (fun _=>HS) [0,1,3] (bf 6 [0,1,3]) [(14,vP g4 1),(12,vP g4 0),(11,.func (.yield lp) #[] #[])] fun a Z=>?_
   refine eY Z HS 2 0 fun a Z=>?_
   refine eY Z HS 4 0 fun a Z=>?_
   refine s_on Z 5 rfl ?_
   refine zg Z (f:=191) (vs:=[]) (fst:=[.agg s.cells]) (aJ:=[]) rfl rfl rfl kr rfl de (qtt s hok hf _ (hx.old HM) hc hsh) ?_
   rintro _ w16 ⟨⟨gG,c16,rfl,ho,hc16⟩,hbw⟩
   refine ⟨_,rfl,?_⟩
   replace HM:=HM.bN hbw ho
   clear Z;intro a Z
   refine aD (HM.pt 4 [1,2,3]) (fun HS=>?_)
   refine qh kr ?_
   replace HM:=HM.pt (fs':=(.row (.slice gG ((ay s 6).length) c16) ((ay s 6).length) ((ay s 6).map aK) 30 1:: .blk g4 #[.string (ByteArray.mk #[115,112,111,116,115]),.func (.func 191) #[.agg s.cells] #[]] 310:: .blk gv #[vS gp 7 7] 311:: .blk gp (qu s) 310::F)) 4 [0,1,2,3]
   refine xz Z (i:=6) (vs:=[.string (ByteArray.mk #[115,112,111,116,115]),.slice gG ((ay s 6).length) c16]) rfl rfl rfl rfl rfl rfl de (hy 6 F [.blk g4 #[.string (ByteArray.mk #[115,112,111,116,115]),.func (.func 191) #[.agg s.cells] #[]] 310,.blk gv #[vS gp 7 7] 311,.blk gp (qu s) 310] _ gG c16 hI om hc16 (Mem.Az (es:=[.blk g4 #[.string (ByteArray.mk #[115,112,111,116,115]),.func (.func 191) #[.agg s.cells] #[]] 310,.blk gv #[vS gp 7 7] 311,.blk gp (qu s) 310]) HM)) zd ?_
   clear Z HM;rintro v jv a ⟨F2,HM,hv,hI2⟩ Z;injection hv with hv;subst hv
   replace HM:Mem W jv (.blk g4 #[.string (ByteArray.mk #[115,112,111,116,115]),.func (.func 191) #[.agg s.cells] #[]] 310:: .blk gv #[vS gp 7 7] 311:: .blk gp (qu s) 310::F2):=Mem.rW (es:=[.blk g4 #[.string (ByteArray.mk #[115,112,111,116,115]),.func (.func 191) #[.agg s.cells] #[]] 310,.blk gv #[vS gp 7 7] 311,.blk gp (qu s) 310]) HM
   replace Z:=Z.to [(17,.bool true),(7,vI 6),(6,vI 7),(5,vS gp 7 7),(0,.func (.yield lp) #[] #[])]
   refine Jb Z HM ((Jp 1∘aT∘Jq∘JF∘aI∘JR∘Jv 2 [(7,vI 7)]∘Jq) fun a Z HM=>?_)
   exact ⟨_,om,7,F2,by omega,hI2,rfl,Z.sub kr,HM.pt 3 [1,2]⟩
 intro a Z HM
 have uG:=of_decide_eq_false ll
 refine Jb Z HM ((JF∘JX) ?_)
 repeat (first|clear Z|clear HM)
 intro a Z HM
 obtain rfl:k=7:=by omega
 exact iM rfl Z ⟨_,rfl,F,Mem.EQ [.blk gv #[vS gp 7 7] 311,.blk gp (qu s) 310] HM,hI⟩
instance WH:DecidableEq Ev:=fun ⟨a0,a1,a2,a3,a4,a5,a6,a7,a8,a9,a10⟩ ⟨b0,b1,b2,b3,b4,b5,b6,b7,b8,b9,b10⟩=>
 decidable_of_iff (a0=b0∧a1=b1∧a2=b2∧a3=b3∧a4=b4∧a5=b5∧a6=b6∧a7=b7∧a8=b8∧a9=b9∧a10=b10) (by rw [Ev.mk.injEq])
section
variable {P:Program} {S:World→Prop} {σ:List (Nat×Value)} {o:Oper}
end
def Bk.cells (b:Bk) (A:Option Addr) (c:Nat):Array Value:= #[.int .u8 (b.kind:Int),.int .u8 (b.cpu:Int),.int .i64 b.lost,.int .i64 b.next,.slice A b.evs.length c]
theorem uE (b:Bk) (A:Option Addr) (c:Nat):∀v∈(b.cells A c).toList,v.oneCell'=true:=by intro v hv;simp [Bk.cells] at hv;rcases hv with rfl|rfl|rfl|rfl|rfl<;>rfl
theorem ak:SI Tryz.prog 59 5:=⟨by kernel_rfl,by kernel_rfl⟩
theorem Ha:EI Tryz.prog 341 35 (.slice none 0 0) 1 24:=⟨by kernel_rfl,by kernel_rfl,rfl,by omega⟩
theorem Aw:SI Tryz.prog 240 2:=⟨by kernel_rfl,by kernel_rfl⟩
structure ax (B:Nat) (w:World):Prop where
 laid:Laid B w
 halves:∀k,k<16→w.cell? ⟨2,k,none⟩=some (.int .u32 ((rR.getD k 0:Nat):Int))
 Hd:2<B
 pg:w.cell? ⟨0,0,none⟩=some (.int .u8 113)
 pq:w.cell? ⟨0,1,none⟩=some (.int .u8 116)
 Cv:0<B
theorem ax.mZ {B:Nat} {w w':World} (h:ax B w) (hk:∀p:Addr,p.block<B→w'.cell? p=w.cell? p):ax B w':=
 ⟨h.laid.mZ hk,fun k hk'=>(hk _ h.Hd).trans (h.halves k hk'),h.Hd,(hk _ h.Cv).trans h.pg,(hk _ h.Cv).trans h.pq,h.Cv⟩
theorem ax.mem {B:Nat} {W w:World} {fs:List ag} (h:ax B W) (hM:Mem W w fs) (hB:B≤W.heap.size):ax B w:=h.mZ fun _ hp=>hM.below.cell om
theorem ax.below {B B':Nat} {w w':World} (h:ax B w) (hb:Below B' w w') (hB:B≤B'):ax B w':=h.mZ fun p hp=>hb.cell om
theorem WU {B:Nat} {W w:World} {fs:List ag} (h:ax B W) (hM:Mem W w fs) (hB:B≤W.heap.size) {k:Nat} (hk:k<16):w.cell? ⟨2,k*1,none⟩=some (.int .u32 ((rR.getD k 0:Nat):Int)):=by
 rw [Nat.mul_one];exact (h.mem hM hB).halves k hk
theorem qzp {B:Nat} {W w:World} {fs:List ag} (h:ax B W) (hM:Mem W w fs) (hB:B≤W.heap.size):w.rangeAt 0 0 (#[Value.int .u8 113,.int .u8 116]:Array Value).toList:=fun j v hv=>by
 have h1:=(h.mem hM hB).pg
 have h2:=(h.mem hM hB).pq
 rcases j with _|_|j
 ·simp at hv;subst hv;exact h1
 ·simp at hv;subst hv;exact h2
 ·simp at hv
theorem qo7 {b:Bk} (h:b.evs.length≠0):b.EO=decide ((b.evs.getD 0 Ev.zero).cpu=b.cpu):=by
 unfold Bk.EO
 cases hb:b.evs with
 |nil=>rw [hb] at h;simp at h
 |cons e r=>rfl
theorem qsw {b:Bk} (h:b.evs.length=0):b.EO=decide (0<b.lost):=by
 unfold Bk.EO
 rw [List.length_eq_zero_iff] at h
 rw [h]
theorem qvg (b:Bk):b.base=⟨(b.evs.getD 0 Ev.zero).seq,(b.evs.getD 0 Ev.zero).time⟩:=by
 unfold Bk.base Ev.at
 cases b.evs<;>rfl
theorem q6t (k:Nat):k=1∨k=2∨(k≠1∧k≠2):=by omega
theorem qzq {b:Bk} (hok:b.Ok) (h:b.fits=true) (hk:b.kind≠2) (hn:b.evs.length≠0):0≤b.base.seq∧b.base.seq≤281474976710656∧0≤b.base.time∧b.base.time≤281474976710656:=by
 obtain ⟨e,r,g⟩:=WT hok (Ql h hk).2 hn
 have:=g.right
 rw [←g.base] at this
 have h4:1≤b.base.seq∧b.base.seq≤281474976710656∧0≤b.base.time∧b.base.time≤281474976710656:=by simpa [Bs.right] using this
 omega
theorem qvh {b:Bk} (h:b.fits=true) (hk:b.kind≠2):b.kind=1∧0≤b.lost∧b.lost≤281474976710656∧b.cpu<64∧b.next=0:=by
 obtain ⟨h1,h2⟩:=Ql h hk
 unfold Bk.oL at h2
 rw [decide_eq_true_eq] at h2
 omega
theorem qvi {b:Bk} (h:b.fits=true) (hk:b.kind=2):1≤b.next∧b.next≤281474976710657∧b.cpu=0∧b.lost=0∧b.evs.length=0:=by
 have h2:=qzo h hk
 unfold Bk.xx at h2
 rw [decide_eq_true_eq] at h2
 exact h2
end Go.Proofs.YtieeckeaijdaeaaGreatDoor
namespace Go.Proofs.YtieeckeaijdaeaaGreatDoor
open Go.RowKit Go.ChangeShapes Go.WideShapes
theorem qzr {W:World} {fuel:Nat} {cs:List Value} {zs:List Nat} {p:List MemPlace}
  (h:DataW.trod (fun _=>()) Tryz.prog W 0 (fun _=>true) false fuel 22 cs=some (.slice (zs.map fun z:Nat=> .lit (.int .i64 (z:Int))) [],p)):
  ∃A c,cs=[.slice A zs.length c]∧Rd W W.heap.size 1 A zs.length (zs.map cK):=by
 obtain ⟨a,cap,hcs,hl,hall⟩:=open_row (e:=3) kr kr h
 have hcell:∀i z,zs[i]?=some z→W.cell? (a.add i)=some (cK z):=by
  intro i z hz
  obtain ⟨v,n,q,hc,ht⟩:=hall i (.lit (.int .i64 (z:Int))) (by rw [List.getElem?_map,hz];rfl)
  obtain ⟨z',e1,e2,_⟩:=DataW.trod_int (k:= .i64) kr ht
  injection e1 with e1
  injection e2 with e2
  subst e1
  simp only [DataW.lit.injEq,Lit.int.injEq,true_and] at e2
  rw [hc,←e2]
  rfl
 refine ⟨some a,cap,by rw [hcs,List.length_map],by simp,fun hn=>⟨a,rfl,?_,?_⟩⟩
 ·cases zs with
  |nil=>simp at hn
  |cons z zs=>
   have:=World.block_lt_of_cell? W _ (hcell 0 z rfl)
   simpa [Addr.add] using this
 ·intro j u hu
  rw [List.getElem?_map] at hu
  cases hz:zs[j]? with
  |none=>simp [hz] at hu
  |some z=>rw [hz] at hu;cases hu;exact hcell j z hz
theorem qo8 {W:World} (h:laidMetH Tryz.prog Rows.archiveOneRow.laid W):Laid W.heap.size W:=by
 rw [MakeChecks.laidMetH_plain _ _ _ kr] at h
 obtain ⟨g1, t1, cs1, f1, p1, hg1, ht1, hv1, hd1⟩ := Lib.laidMet.reads h (n := "quantum/event.fields") (d := Rows.laid_quantum_event_fields) (List.mem_cons_self ..)
 obtain ⟨g2, t2, cs2, f2, p2, hg2, ht2, hv2, hd2⟩ := Lib.laidMet.reads h (n := "quantum/event.uses") (d := Rows.laid_quantum_event_uses) (List.mem_cons_of_mem _ (List.mem_cons_self ..))
 have He : Tryz.prog.globalNamed "quantum/event.fields" = some 3 := by kernel_rfl
 have Hf : Tryz.prog.globalNamed "quantum/event.uses" = some 1 := by kernel_rfl
 obtain rfl:=Option.some.inj (He.symm.trans hg1)
 obtain rfl:=Option.some.inj (Hf.symm.trans hg2)
 have Qo:(Tryz.prog.globals[3]?).map (·.type)=some 388:=by kernel_rfl
 have Qp:(Tryz.prog.globals[1]?).map (·.type)=some 323:=by kernel_rfl
 obtain rfl:=Option.some.inj (Qo.symm.trans ht1)
 obtain rfl:=Option.some.inj (Qp.symm.trans ht2)
 have Cw:Tryz.prog.cellsOf 9=1:=by kernel_rfl
 have Cx:Tryz.prog.cellsOf 22=1:=by kernel_rfl
 have c1:∀i v,cs1.toList[i]?=some v→W.cell? ⟨3,i,none⟩=some v:=fun i v hv=>by
  rw [World.var?_cell He hv1 i];simpa using hv
 have c2:∀i v,cs2.toList[i]?=some v→W.cell? ⟨1,i,none⟩=some v:=fun i v hv=>by
  rw [World.var?_cell Hf hv2 i];simpa using hv
 have EP:∀(cs:List Value) (i:Nat) (v:Value),(cs.drop (i*1)).take 1=[v]→cs[i]?=some v:=by
  intro cs i v h
  have:=congrArg (·[0]?) h
  simpa [List.getElem?_take,List.getElem?_drop] using this
 have str:∀i,i<7→∃s:ByteArray,W.cell? ⟨3,i,none⟩=some (.string s):=by
  intro i hi
  obtain ⟨f',d,q,_,ht⟩:=Lib.array_elem (n:=7) (e:=9) kr hd1 i hi
  rw [Cw] at ht
  obtain ⟨s,hs,_⟩:=DataW.trod_string kr ht
  exact ⟨s,c1 i _ (EP _ _ _ hs)⟩
 have row:∀k,k<11→∃A c,W.cell? ⟨1,k,none⟩=some (.slice A (aa k).length c)∧Rd W W.heap.size 1 A (aa k).length ((aa k).map cK):=by
  intro k hk
  obtain ⟨f',d,q,hd,ht⟩:=Lib.array_elem (n:=11) (e:=22) kr hd2 k hk
  rw [Cx] at ht
  by_cases h0:k=0
  ·subst h0
   simp only [List.getElem?_cons_zero,Option.some.injEq] at hd
   subst hd
   rcases DataW.trod_slice (e:=3) kr ht with ⟨hc,_⟩|⟨a,len,cap,elems,rest,n,_,_,hx,_⟩
   ·exact ⟨none,0,c2 0 _ (EP _ _ _ hc),Rd.nil⟩
   ·simp at hx
  ·have hd':d= .slice ((aa k).map fun z:Nat=> .lit (.int .i64 (z:Int))) []:=by
    have hk':k=1∨k=2∨k=3∨k=4∨k=5∨k=6∨k=7∨k=8∨k=9∨k=10:=by omega
    rcases hk' with rfl|rfl|rfl|rfl|rfl|rfl|rfl|rfl|rfl|rfl<;>exact (Option.some.inj hd).symm
   subst hd'
   obtain ⟨A,c,hc,hr⟩:=qzr ht
   exact ⟨A,c,c2 k _ (EP _ _ _ hc),hr⟩
 refine ⟨row,?_,str,?_⟩
 ·obtain ⟨A,c,h1,_⟩:=row 0 om
  exact World.block_lt_of_cell? W _ h1
 ·obtain ⟨s,h1⟩:=str 0 om
  exact World.block_lt_of_cell? W _ h1
theorem q3v:Tryz.prog.underlying 167=some (.int .u32):=by kernel_rfl
set_option maxRecDepth 100000 in
theorem qng {W:World} (h:laidMetH Tryz.prog Rows.archiveOneRow.laid W):ax W.heap.size W:=by
 have hl:=qo8 h
 rw [MakeChecks.laidMetH_plain _ _ _ kr] at h
 obtain ⟨g1, t1, cs1, f1, p1, hg1, ht1, hv1, hd1⟩ := Lib.laidMet.reads h (n := "quantum/crc.halves") (d := Rows.laid_quantum_crc_halves) (List.mem_cons_of_mem _ (List.mem_cons_of_mem _ (List.mem_cons_self ..)))
 obtain ⟨g2, t2, cs2, f2, p2, hg2, ht2, hv2, hd2⟩ := Lib.laidMet.reads h (n := "quantum/block.magic") (d := Rows.laid_quantum_block_magic) (List.mem_cons_of_mem _ (List.mem_cons_of_mem _ (List.mem_cons_of_mem _ (List.mem_cons_self ..))))
 have He : Tryz.prog.globalNamed "quantum/crc.halves" = some 2 := by kernel_rfl
 have Hf : Tryz.prog.globalNamed "quantum/block.magic" = some 0 := by kernel_rfl
 obtain rfl:=Option.some.inj (He.symm.trans hg1)
 obtain rfl:=Option.some.inj (Hf.symm.trans hg2)
 have Qo:(Tryz.prog.globals[2]?).map (·.type)=some 351:=by kernel_rfl
 have Qp:(Tryz.prog.globals[0]?).map (·.type)=some 240:=by kernel_rfl
 obtain rfl:=Option.some.inj (Qo.symm.trans ht1)
 obtain rfl:=Option.some.inj (Qp.symm.trans ht2)
 have Cw:Tryz.prog.cellsOf 167=1:=by kernel_rfl
 have Cx:Tryz.prog.cellsOf 5=1:=by kernel_rfl
 have c1:∀i v,cs1.toList[i]?=some v→W.cell? ⟨2,i,none⟩=some v:=fun i v hv=>by
  rw [World.var?_cell He hv1 i];simpa using hv
 have c2:∀i v,cs2.toList[i]?=some v→W.cell? ⟨0,i,none⟩=some v:=fun i v hv=>by
  rw [World.var?_cell Hf hv2 i];simpa using hv
 have EP:∀(cs:List Value) (i:Nat) (v:Value),(cs.drop (i*1)).take 1=[v]→cs[i]?=some v:=by
  intro cs i v h
  have:=congrArg (·[0]?) h
  simpa [List.getElem?_take,List.getElem?_drop] using this
 have hal:∀k,k<16→W.cell? ⟨2,k,none⟩=some (.int .u32 ((rR.getD k 0:Nat):Int)):=by
  intro k hk
  obtain ⟨f',d,q,hd,ht⟩:=Lib.array_elem (n:=16) (e:=167) kr hd1 k hk
  rw [Cw] at ht
  have hdk:d= .lit (.int .u32 ((rR.getD k 0:Nat):Int)):=by
   have hk':k=0∨k=1∨k=2∨k=3∨k=4∨k=5∨k=6∨k=7∨k=8∨k=9∨k=10∨k=11∨k=12∨k=13∨k=14∨k=15:=by omega
   rcases hk' with rfl|rfl|rfl|rfl|rfl|rfl|rfl|rfl|rfl|rfl|rfl|rfl|rfl|rfl|rfl|rfl<;>exact (Option.some.inj hd).symm
  subst hdk
  obtain ⟨z,e1,e2,_⟩:=DataW.trod_int q3v ht
  have e2:=congrArg Prod.fst e2
  simp only [DataW.lit.injEq,Lit.int.injEq,true_and] at e2
  exact c1 k _ (by rw [EP _ _ _ e1,←e2])
 have mag:∀k,k<2→W.cell? ⟨0,k,none⟩=some (.int .u8 (([113,116].getD k 0:Nat):Int)):=by
  intro k hk
  obtain ⟨f',d,q,hd,ht⟩:=Lib.array_elem (n:=2) (e:=5) kr hd2 k hk
  rw [Cx] at ht
  have hdk:d= .lit (.int .u8 (([113,116].getD k 0:Nat):Int)):=by
   have hk':k=0∨k=1:=by omega
   rcases hk' with rfl|rfl<;>exact (Option.some.inj hd).symm
  subst hdk
  obtain ⟨z,e1,e2,_⟩:=DataW.trod_int V6 ht
  have e2:=congrArg Prod.fst e2
  simp only [DataW.lit.injEq,Lit.int.injEq,true_and] at e2
  exact c2 k _ (by rw [EP _ _ _ e1,←e2])
 exact ⟨hl,hal,World.block_lt_of_cell? W _ (hal 0 om),mag 0 om,mag 1 om,World.block_lt_of_cell? W _ (mag 0 om)⟩
end Go.Proofs.YtieeckeaijdaeaaGreatDoor
namespace Go.Proofs.YtieeckeaijdaeaaGreatDoor
open Go.RowKit
theorem qzs (n:Nat) (hn:n≤1000000000000) (w:World):
    Calls Tryz.prog 212 #[vN,vI n] w fun r w'=>(∃A c,r= .returned (.slice A 0 c)∧w'.ownsRow w.heap.size 5 1 (.slice A 0 c) 0 [])∧Below w.heap.size w w':=by
 refine (lF Tryz.func212 27) ?_
 refine (JP∘Jp 1∘Jj∘JQ∘JP∘Jp 2∘aT∘Jj) (Ju (fun hb6=>?_) fun hb6=>?_)
 ·
  intro a Z HM
  have hd6:=of_decide_eq_true hb6
  omega
 intro a Z HM
 have hd6:=of_decide_eq_false hb6
 refine Jb Z HM ((JF∘aI∘JQ∘JP∘Jp 2∘Jy (h:=by exact Yl.cap rfl rfl kr)∘Jp 1∘Jl∘Jv 2 [(14,vI (IntKind.i64.wrap ((n:Int)-0)))]∘Jo (vI n) (by exact uz om om)∘Jp 1∘aN∘Jr∘Jp 2∘aT∘Jj) (Ji (fun jf=>?_) fun jf=>?_))
 ·
  refine (JT∘JR∘Jp 2∘Jy (h:=by exact Yl.cap rfl rfl kr)∘Jy (h:=by exact Yl.yA aM (j:=0) rfl rfl rfl om)∘Jp 1) fun a Z HM=>?_
  refine fo Z 5 rfl rfl ?_
  refine qlq Z HM (kn:= .i64) (m:=n) rfl aM kr rfl rfl om om om rfl de ?_
  clear Z HM;intro a MC g22 xB Z HM hc22
  refine Jb Z HM ((Jp 1∘Jl∘Jy (h:=by exact Yl.yA aM (j:=0) rfl rfl rfl om)∘Jp 1∘aN∘Jq) fun a Z HM=>?_)
  replace HM:=(HM.shrink (i:=0) (k:=0) rfl (Nat.zero_le _) (fun h=>by cases h)).j3 (i:=0) (ys:=[]) rfl (by simp)
  exact Jb Z HM ((JG∘JP∘Jp 2∘aT∘Jj∘JZ∘bq) fun HM=>by exact ⟨⟨_,_,rfl,HM.own (i:=0) rfl⟩,HM.below⟩)
 exact (JF∘aI∘JP∘Jp 2∘aT∘Jj∘JZ∘bq) fun HM=>by exact ⟨⟨_,_,rfl,World.ownsRow_nil _ _ _ _⟩,HM.below⟩
theorem qsx (A:Option Addr) (n c:Nat) (ps:List Part) (w:World) (hr:Rd w w.heap.size 1 A n (ps.map Part.val)) (hln:ps.length=n) (hn:n≤1000000) (hps:∀p∈ps,Rd w w.heap.size 1 p.A p.l.length (p.l.map B8)) (htot:(ps.flatMap (·.l)).length≤1000000000000):
    Calls Tryz.prog 165 #[.slice A n c] w (sP w (ps.flatMap (·.l))):=by
 refine (dM Tryz.func165 36) ?_
 refine (JP∘Jp 1∘Jr∘Jp 1∘Jj∘JQ∘JP∘Jp 1∘Jl∘Jp 1∘Jj∘JB) fun a Z HM=>?_
 refine qj (fun mS aS wS=>∃(k:Nat),(k≤n)∧mS=n-k∧Fr aS 36 [] [(11,vI k),(10,vI n),(9,.slice A n c),(3,vI (((ps.take k).flatMap (·.l)).length)),(2,vN),(0,.slice A n c)]∧Mem w wS []) (m:=n-0) ⟨0,Nat.zero_le _,rfl,Z.sub kr,HM.pk []⟩ ?_
 clear Z HM;rintro mS a w_ ⟨k,hk,rfl,Z,HM⟩
 have hpk:=GZ (l:=ps) k
 have ae3:=GZ (l:=ps) (k+1)
 refine Jb Z HM ((JP∘Jp 1∘Jj∘JQ) (Ju (fun ek=>?_) fun ek=>?_))
 ·
  intro a Z HM
  have j4:=of_decide_eq_true ek
  have Hz:k<n:=by omega
  refine Jb Z HM ((JT∘aI∘JQ∘JB∘JP) ?_)
  repeat (first|clear Z|clear HM)
  intro a Z HM
  obtain ⟨gA,oA,rfl,_⟩:=hr.qp (Nat.lt_of_le_of_lt (Nat.zero_le _) (show k<n from by omega)) de
  refine Jb Z HM ((Jy (h:=by exact Yl.ix gA oA k 1 rfl rfl rfl)∘Jy (v:= .slice ((ps.getD k (⟨none,0,[]⟩:Part)).A) ((ps.getD k (⟨none,0,[]⟩:Part)).l.length) ((ps.getD k (⟨none,0,[]⟩:Part)).c)) (h:=by exact Yl.ze rfl rfl kr (fun _ h=>(h.old hr).Mo (k:=k) (Cq (F:=Part.val) (k:=k) (x:=(ps.getD k (⟨none,0,[]⟩:Part))) ((getD_at (⟨none,0,[]⟩:Part) (k:=k) (by first|omega|(simp;omega)))))))∘Jp 1∘bK∘Jr∘Jp 2∘Jl∘Jp 1∘Jo (vI (((ps.take (k+1)).flatMap (·.l)).length)) (by exact uz (by rw [GY (d:=(⟨none,0,[]⟩:Part)) om,List.length_append];omega) (by have:=GZ (l:=ps) (k+1);omega))∘Jp 1∘gW∘Jr∘Jp 2∘aT∘Jj) (Ju (fun il=>?_) fun il=>?_))
  ·
   intro a Z HM
   have mo:=of_decide_eq_true il
   omega
  intro a Z HM
  have mo:=of_decide_eq_false il
  refine Jb Z HM ((JF∘aI∘JR∘dR 1∘Jp 1∘aT∘Jq) fun a Z HM=>?_)
  exact ⟨_,om,k+1,by omega,rfl,Z.sub kr,HM.pk []⟩
 intro a Z HM
 have j4:=of_decide_eq_false ek
 revert HM;revert a;repeat (first|clear Z|clear HM)
 intro a Z HM
 obtain rfl:n=k:=by omega
 refine Jb Z HM ((JF∘JX∘JG∘JP∘Jp 1∘JL (h:=by exact fun HM=>qzs _ om _)) ?_)
 rintro HM _ Xi ⟨⟨A24,c24,rfl,ho⟩,hbw⟩
 refine ⟨_,rfl,_,HM.bN hbw ho,?_⟩
 refine (Jp 1∘bK∘Jj∘JQ∘JP∘Jp 1∘Jl∘Jp 1∘Jj∘JB) fun a Z HM=>?_
 refine qj (fun mS aS wS=>∃(k:Nat) (Ak:Option Addr) (ck:Nat),(k≤n)∧(((ps.take k).flatMap (·.l)).length≤ck)∧mS=n-k∧Fr aS 36 [] [(27,vI k),(26,vI n),(25,.slice A n c),(6,.slice Ak (((ps.take k).flatMap (·.l)).length) ck),(12,.bool false),(11,vI n),(10,vI n),(9,.slice A n c),(3,vI (((ps.take n).flatMap (·.l)).length)),(2,vN),(0,.slice A n c)]∧Mem w wS [.row (.slice Ak (((ps.take k).flatMap (·.l)).length) ck) (((ps.take k).flatMap (·.l)).length) (((ps.take k).flatMap (·.l)).map B8) 5 1]) (m:=n-0) ⟨0,A24,c24,Nat.zero_le _,Nat.zero_le _,rfl,Z.sub kr,HM.pk [0]⟩ ?_
 clear Z HM;rintro mS a w_ ⟨k,Ak,ck,hk,hck,rfl,Z,HM⟩
 refine Jb Z HM ((JP∘Jp 1∘Jj∘JQ) (Ju (fun CK=>?_) fun CK=>?_))
 ·
  intro a Z HM
  have hd28:=of_decide_eq_true CK
  have ae5:k<n:=by omega
  refine Jb Z HM ((JT∘aI∘JQ∘JB∘JP) ?_)
  repeat (first|clear Z|clear HM)
  intro a Z HM
  obtain ⟨gA,oA,rfl,_⟩:=hr.qp (Nat.lt_of_le_of_lt (Nat.zero_le _) (show k<n from by omega)) de
  refine Jb Z HM ((Jy (h:=by exact Yl.ix gA oA k 1 rfl rfl rfl)∘Jy (v:= .slice ((ps.getD k (⟨none,0,[]⟩:Part)).A) ((ps.getD k (⟨none,0,[]⟩:Part)).l.length) ((ps.getD k (⟨none,0,[]⟩:Part)).c)) (h:=by exact Yl.ze rfl rfl kr (fun _ h=>(h.old hr).Mo (k:=k) (Cq (F:=Part.val) (k:=k) (x:=(ps.getD k (⟨none,0,[]⟩:Part))) ((getD_at (⟨none,0,[]⟩:Part) (k:=k) (by first|omega|(simp;omega)))))))∘Jp 1∘bK∘Jj∘JR∘Jp 2∘JD ((ps.getD k (⟨none,0,[]⟩:Part)).l.map B8) 0 (fun _ _=>bg) aM (hr:=by exact fun HM=>HM.old (hps _ (qs _ om))) (h1:=by exact Aq _) (hb:=by have:=GZ (l:=ps) (k+1);rw [GY (d:=(⟨none,0,[]⟩:Part)) om,List.length_append] at this;omega) (h63:=by have:=GZ (l:=ps) (k+1);rw [GY (d:=(⟨none,0,[]⟩:Part)) om,List.length_append] at this;omega)) fun QA mV kM nI=>(Jp 1∘fC∘Jq) fun a Z HM=>?_)
  have j5:((ps.take k).flatMap (·.l)).length+(ps.getD k (⟨none,0,[]⟩:Part)).l.length=((ps.take (k+1)).flatMap (·.l)).length:=by rw [GY (d:=(⟨none,0,[]⟩:Part)) om,List.length_append]
  replace HM:=HM.bu (i:=0) (ys:=((ps.take (k+1)).flatMap (·.l)).map B8) rfl j5 (by rw [GY (d:=(⟨none,0,[]⟩:Part)) om,List.map_append])
  rw [j5] at nI
  replace Z:=Z.sp 6 (.slice mV (((ps.take (k+1)).flatMap (·.l)).length) kM) rfl (by rw [j5])
  refine Jb Z HM ((JG∘JR∘dR 1∘Jp 1∘aT∘Jq) fun a Z HM=>?_)
  exact ⟨_,om,k+1,mV,kM,by omega,nI,rfl,Z.sub kr,HM.pk [0]⟩
 intro a Z HM
 have hd28:=of_decide_eq_false CK
 revert HM;revert a;repeat (first|clear Z|clear HM)
 intro a Z HM
 obtain rfl:n=k:=by omega
 exact Jb Z HM ((JF∘JX∘JG∘JP∘Jp 2∘aT∘Jj∘JZ∘bq) fun HM=>qnf (HM.own (i:=0) rfl) hck (by rw [List.take_of_length_le om]) (by rw [List.take_of_length_le om]) HM.below)
theorem qsy (c:Nat) (hc:c<4294967296) (A:Option Addr) (n cp:Nat) (l:List Nat) (B:Nat) (w:World) (hL:ax B w) (hB:B≤w.heap.size) (hr:Rd w w.heap.size 1 A n (l.map B8)) (hln:l.length=n) (hn:n≤140737488355328) (hl:∀b∈l,b<256):
    Calls Tryz.prog 173 #[vW c,.slice A n cp] w (Is w (vW (zc c l:Int))):=by
 refine (lF Tryz.func173 33) ?_
 refine (JP∘Jp 1∘Jj∘JQ∘JP∘Jp 1∘Jl∘Jp 1∘Jj∘JB) fun a Z HM=>?_
 refine qj (fun mS aS wS=>∃(k:Nat),(k≤n)∧mS=n-k∧Fr aS 33 [] [(9,vI k),(8,vI n),(7,.slice A n cp),(4,vW 0),(0,vW (zc c (l.take k)))]∧Mem w wS []) (m:=n-0) ⟨0,Nat.zero_le _,rfl,Z.sub kr,HM.pk []⟩ ?_
 clear Z HM;rintro mS a w_ ⟨k,hk,rfl,Z,HM⟩
 have hcr:=Mt (l.take k) hc (rU hl k)
 refine Jb Z HM ((JP∘Jp 1∘Jj∘JQ) (Ju (fun j6=>?_) fun j6=>?_))
 ·
  intro a Z HM
  have mq:=of_decide_eq_true j6
  refine Jb Z HM ((JT∘aI∘JQ∘JB∘JP) ?_)
  repeat (first|clear Z|clear HM)
  intro a Z HM
  obtain ⟨gA,oA,rfl,_⟩:=hr.qp (Nat.lt_of_le_of_lt (Nat.zero_le _) (show k<n from by omega)) de
  refine Jb Z HM ((Jy (h:=by exact Yl.ix gA oA k 1 rfl rfl rfl)∘JH (getD_lt hl (k:=k) (by first|omega|(simp;omega)))) fun hx1=>(Jy (h:=by exact Yl.o1 hr k 0 (by first|omega|(simp;omega)) rfl rfl)∘Jp 1∘bK∘Jr∘Jp 2∘Jw .u32∘Jp 1∘Jo (vW ((zc c (l.take k))^^^ (l.getD k 0):Nat)) (by exact Mr (m:=zc c (l.take k)) (n:=(l.getD k 0)) om om)∘Jp 1∘gW∘Jq) fun a Z HM=>?_)
  have hy:=G7 hcr (show l.getD k 0<4294967296 by omega)
  refine Jb Z HM ((JG∘JP∘Jp 2∘Jo (vW (((zc c (l.take k))^^^ (l.getD k 0))/16:Nat)) (by exact yz .u32 ((zc c (l.take k))^^^ (l.getD k 0)) (j:=4) (q:=16) rfl rfl)∘Jp 2∘Jo (vW (((zc c (l.take k))^^^ (l.getD k 0))%16:Nat)) (by exact Wx (n:=15) (j:=4) rfl de om)∘Jy (v:=vP 2 ((((zc c (l.take k))^^^ (l.getD k 0))%16)*1)) (h:=by exact (Yl.GX (ad:=⟨2,0,none⟩) (m:=16) (y:=((zc c (l.take k))^^^ (l.getD k 0))%16) (sz:=1) rfl rfl rfl kr om).as (by rw [Addr.add_mid,Nat.zero_add]))∘Jy (v:=vW (rR.getD (((zc c (l.take k))^^^ (l.getD k 0))%16) 0)) (h:=by exact Yl.ze rfl rfl kr (fun _ h=>WU hL h hB (k:=(((zc c (l.take k))^^^ (l.getD k 0))%16)) om))∘Jp 1∘Jo (vW (o9 (zc c (l.take k)^^^l.getD k 0))) (by have h:=Mr (m:=(zc c (l.take k)^^^l.getD k 0)/16) (n:=rR.getD ((zc c (l.take k)^^^l.getD k 0)%16) 0) om (Qi _ om);exact h)∘Jp 1∘aN∘Jq) fun a Z HM=>?_)
  have hz:=q6r hy
  refine Jb Z HM ((JG∘JR∘Jp 2∘Jo (vW ((o9 (zc c (l.take k)^^^l.getD k 0))/16:Nat)) (by exact yz .u32 (o9 (zc c (l.take k)^^^l.getD k 0)) (j:=4) (q:=16) rfl rfl)∘Jp 2∘Jo (vW ((o9 (zc c (l.take k)^^^l.getD k 0))%16:Nat)) (by exact Wx (n:=15) (j:=4) rfl de om)∘Jy (v:=vP 2 (((o9 (zc c (l.take k)^^^l.getD k 0))%16)*1)) (h:=by exact (Yl.GX (ad:=⟨2,0,none⟩) (m:=16) (y:=(o9 (zc c (l.take k)^^^l.getD k 0))%16) (sz:=1) rfl rfl rfl kr om).as (by rw [Addr.add_mid,Nat.zero_add]))∘Jy (v:=vW (rR.getD ((o9 (zc c (l.take k)^^^l.getD k 0))%16) 0)) (h:=by exact Yl.ze rfl rfl kr (fun _ h=>WU hL h hB (k:=((o9 (zc c (l.take k)^^^l.getD k 0))%16)) om))∘Jp 1∘Jo (vW (zc c (l.take (k+1)))) (by have h:=Mr (m:=o9 (zc c (l.take k)^^^l.getD k 0)/16) (n:=rR.getD (o9 (zc c (l.take k)^^^l.getD k 0)%16) 0) om (Qi _ om);rw [qo5 om];exact h)∘Jp 1∘aN∘Jj∘JR∘dR 1∘Jp 1∘aT∘Jq) fun a Z HM=>?_)
  exact ⟨_,om,k+1,by omega,rfl,Z.sub kr,HM.pk []⟩
 intro a Z HM
 have mq:=of_decide_eq_false j6
 revert HM;revert a;repeat (first|clear Z|clear HM)
 intro a Z HM
 obtain rfl:n=k:=by omega
 exact Jb Z HM ((JF∘JX∘JG∘JP∘Jp 2∘aT∘Jj∘JZ∘bq) fun HM=>by exact ⟨by rw [List.take_of_length_le om],HM.below⟩)
theorem qsz (c:Nat) (hc0:c<4294967296) (A:Option Addr) (n cp:Nat) (l:List Nat) (B:Nat) (w:World) (hL:ax B w) (hB:B≤w.heap.size) (hr:Rd w w.heap.size 1 A n (l.map B8)) (hln:l.length=n) (hn:n≤140737488355328) (hl:∀b∈l,b<256):
    Calls Tryz.prog 140 #[vW c,.slice A n cp] w (Is w (vW ((zc (c^^^4294967295) l^^^4294967295:Nat):Int))):=by
 refine (lF Tryz.func140 10) ?_
 refine (JP∘Jp 1∘Jq) fun a Z HM=>?_
 have hc:=G7 hc0 (show 4294967295<4294967296 by decide)
 have hcr:=Mt l hc hl
 exact Jb Z HM ((JG∘JP∘Jp 1∘Jy (v:=vW (c^^^4294967295:Nat)) (h:=by exact Yl.WB (m:=c) rfl rfl om)∘Jp 1∘JI (h:=by exact fun HM=>qsy _ hc _ _ _ l B _ (hL.mem HM hB) (HM.le hB) (HM.old hr) hln hn hl)) fun w8 hbw=>(Jy (v:=vW ((zc (c^^^4294967295) l)^^^4294967295:Nat)) (h:=by exact Yl.WB (m:=zc (c^^^4294967295) l) rfl rfl om)∘Jp 1∘qR∘Jj∘JZ) qU)
theorem Xj (A:Option Addr) (n cp:Nat) (l:List Nat) (B:Nat) (w:World) (hL:ax B w) (hB:B≤w.heap.size) (hr:Rd w w.heap.size 1 A n (l.map B8)) (hln:l.length=n) (hn:n≤140737488355328) (hl:∀b∈l,b<256):
    Calls Tryz.prog 109 #[.slice A n cp] w (Is w (vW (zi l:Int))):=by
 refine (dM Tryz.func109 5) ?_
 refine (JP∘Jp 1∘Jr∘Jp 1∘JL (h:=by exact fun HM=>qsz 0 de _ _ _ l B _ (hL.mem HM hB) (HM.le hB) (HM.old hr) hln hn hl)) ?_
 rintro HM _ w4 ⟨rfl,hbw⟩
 rw [show (zc (0^^^4294967295) l^^^4294967295:Nat)=zi l from qzm (Mt l de hl)]
 refine ⟨_,rfl,_,HM.call hbw,?_⟩
 exact (Jp 1∘bK∘Jj∘JZ) qU
theorem q3w {w w':World} {l:List Nat} {n c:Nat} {A:Option Addr} (hln:l.length=n) (ho:w'.ownsRow w.heap.size 5 1 (.slice A (0+n+4) c) (0+n+4) ([]++l.map B8++(rT (zi l)).map B8)) (hc:0+n+4≤c) (hb:Below w.heap.size w w'):zp w 0 (bZ l) (.returned (.tuple #[.slice A (0+n+4) c,vI 0])) w':=by
 have e:0+n+4=(bZ l).length:=by rw [qc4];omega
 rw [e] at ho hc⊢
 refine ⟨⟨A,c,rfl,?_,hc⟩,hb⟩
 have e2:([]++l.map B8++(rT (zi l)).map B8)=(bZ l).map B8:=by simp [bZ]
 rw [e2] at ho
 exact ho
theorem QB (A:Option Addr) (n cp:Nat) (l:List Nat) (B:Nat) (w:World) (hL:ax B w) (hB:B≤w.heap.size) (hr:Rd w w.heap.size 1 A n (l.map B8)) (hln:l.length=n) (hn:n≤16777216) (hl:∀b∈l,b<256):
    Calls Tryz.prog 67 #[.slice A n cp] w (zp w 0 (bZ l)):=by
 refine (dM Tryz.func67 31) ?_
 refine (JP∘Jp 2∘Jj∘JQ∘JP∘Jp 1∘Jl∘Jp 1∘bK∘Jj) (Ju (fun ll=>?_) fun ll=>?_)
 ·
  intro a Z HM
  have uG:=of_decide_eq_true ll
  omega
 intro a Z HM
 have uG:=of_decide_eq_false ll
 refine Jb Z HM ((JF∘aI∘JP∘Jp 1∘JI (h:=by exact fun HM=>Xj _ _ _ l B _ (hL.mem HM hB) (HM.le hB) (HM.old hr) (hln) om (hl))) fun uH hbw=>(Jp 1∘bK∘Jq) fun a Z HM=>?_)
 have hcs:=qve l
 refine Jb Z HM ((JG∘JP∘Jp 1∘Jl∘dR 4) fun a Z HM=>?_)
 refine fo Z 3 rfl rfl ?_
 refine q3o Z HM (m:=(n+4)) rfl aM rfl rfl om om rfl de ?_
 clear Z HM;intro a yI g14 Z HM
 exact Jb Z HM ((Jp 1∘JD (l.map B8) 0 (fun _ _=>bg) aM (hr:=by exact fun HM=>HM.old hr) (h1:=by exact Aq _)) fun w16 gG c16 hc16=>(Jp 1∘aN∘Jr∘Jp 2∘Jv 1 [(19,vB (IntKind.u8.wrap (zi l:Int)))]∘Jo (vB ((zi l)%256:Nat)) (by exact EJ (zi l))∘Jp 2∘Jo (vW ((zi l)/256:Nat)) (by exact yz .u32 (zi l) (j:=8) (q:=256) rfl rfl)∘Jv 1 [(22,vB (IntKind.u8.wrap (((zi l)/256:Nat):Int)))]∘Jo (vB (((zi l)/256)%256:Nat)) (by exact EJ ((zi l)/256))∘Jp 2∘Jo (vW ((zi l)/65536:Nat)) (by exact yz .u32 (zi l) (j:=16) (q:=65536) rfl rfl)∘Jv 1 [(25,vB (IntKind.u8.wrap (((zi l)/65536:Nat):Int)))]∘Jo (vB (((zi l)/65536)%256:Nat)) (by exact EJ ((zi l)/65536))∘Jp 2∘Jo (vW ((zi l)/16777216:Nat)) (by exact yz .u32 (zi l) (j:=24) (q:=16777216) rfl rfl)∘Jv 1 [(28,vB (IntKind.u8.wrap (((zi l)/16777216:Nat):Int)))]∘Jo (vB (((zi l)/16777216)%256:Nat)) (by exact EJ ((zi l)/16777216))∘JU aM #[vB ((zi l)%256:Nat),vB (((zi l)/256)%256:Nat),vB (((zi l)/65536)%256:Nat),vB (((zi l)/16777216)%256:Nat)]) fun QC g29=>(JD ((rT (zi l)).map B8) 1 (fun _ _=>fJ) aM (hr:=by exact fun HM=>HM.aZ (i:=0) (n:=4) (size:=1) rfl rfl) (h1:=by exact Aq _)) fun w30 A30 c30 QD=>(Jp 2∘Jj∘JZ∘JM (.f .n)∘dL) fun HM=>q3w hln (HM.own (i:=0) rfl) QD HM.below)
theorem qs0 {l:List Nat} {n:Nat} (hln:l.length=n) (h:4≤n):(((zi (l.take (n-4)):Nat):Int)==((l.getD (n-4) 0+l.getD (n-4+1) 0*256+l.getD (n-4+2) 0*65536+l.getD (n-4+3) 0*16777216:Nat):Int))=zn l:=by
 subst hln
 have hd:∀i,(l.drop (l.length-4)).getD i 0=l.getD (l.length-4+i) 0:=fun i=>by rw [List.getD_eq_getElem?_getD,List.getElem?_drop,←List.getD_eq_getElem?_getD]
 unfold zn fO
 rw [hd,hd,hd,hd,Bool.eq_iff_iff,beq_iff_eq,decide_eq_true_eq]
 simp only [Nat.add_zero]
 constructor
 ·intro h1;exact ⟨h,by omega⟩
 ·intro h1;have:=h1.2;omega
theorem qnj {l:List Nat} {n:Nat} (hln:l.length=n) (h:n<4):zn l=false:=by unfold zn;rw [decide_eq_false];omega
def gX (l:List Nat):Nat→Nat
 |0=>0
 |k+1=>gX l k*256+l.getD (3-k) 0
theorem Xk (l:List Nat):gX l 4=fO l:=by simp [gX,fO];omega
theorem Xl {l:List Nat} (hl:∀b∈l,b<256) (hn:4≤l.length):∀k,k≤4→gX l k<256^k
 |0,_=>by show 0<1;decide
 |k+1,h=>by
  have h1:=Xl hl hn k om
  have h2:=getD_lt hl (k:=3-k) om
  rw [gX,Nat.pow_succ]
  omega
theorem qpb {l:List Nat} (hl:∀b∈l,b<256) (hn:4≤l.length) {k:Nat} (h:k≤4):gX l k<4294967296:=by
 have h1:=Xl hl hn k h
 have h2:(256:Nat)^k≤256^4:=Nat.pow_le_pow_right de h
 omega
theorem QE (A:Option Addr) (n cp:Nat) (l:List Nat) (B:Nat) (w:World) (hL:ax B w) (hB:B≤w.heap.size) (hr:Rd w w.heap.size 1 A n (l.map B8)) (hc:n≤cp) (hln:l.length=n) (hn:n≤140737488355328) (hl:∀b∈l,b<256):
    Calls Tryz.prog 63 #[.slice A n cp] w (Is w (.bool (zn l))):=by
 refine (dM Tryz.func63 43) ?_
 refine (JP∘Jp 1∘Jr∘Jp 1∘Jl∘Jp 1∘Jo (vI ((n:Int)-4)) (by exact EL ⟨by omega,by omega⟩)∘Jp 1∘fC∘Jj∘JQ∘JP∘Jp 2∘aT∘Jj) (Ju (fun ll=>?_) fun ll=>?_)
 ·
  intro a Z HM
  have uG:=of_decide_eq_true ll
  exact Jb Z HM ((JT∘JP∘Jp 1∘Jj∘JZ∘bq) fun HM=>by exact ⟨by rw [qnj hln om],HM.below⟩)
 intro a Z HM
 have uG:=of_decide_eq_false ll
 replace Z:=Z.sp 3 (vI ((n-4:Nat):Int)) rfl (by congr 1;omega)
 refine Jb Z HM ((JF∘aI) fun a Z HM=>?_)
 refine wp_seq ?_
 refine Jb Z HM ((Vs .n []) fun wd4=>(Vp [0,1,4,5,9,10,17,18,25,26]∘Vy 2 (h:=by exact Yl.yA aM (j:=n-4) rfl rfl rfl om)) ?_)
 repeat (first|clear Z|clear HM|clear HS)
 intro a Z HM HS
 obtain ⟨gA,oA,rfl,_⟩:=hr.qp (Nat.lt_of_le_of_lt (Nat.zero_le _) (show n-4<n from by omega)) de
 exact Vb Z HM HS ((Vy 6 (h:=by exact Yl.ix gA oA (n-4) 1 rfl rfl rfl)∘VH (getD_lt hl (k:=(n-4)) (by first|omega|(simp;omega)))) fun afe=>(Vy 7 (h:=by exact Yl.o1 hr (n-4) 0 (by first|omega|(simp;omega)) rfl rfl)∘Vw 8 .u32∘EU 11 1∘Vy 12 (h:=by exact Yl.ix gA oA ((n-4)+1) 1 rfl rfl rfl)∘VH (getD_lt hl (k:=((n-4)+1)) (by first|omega|(simp;omega)))) fun aff=>(Vy 13 (h:=by exact Yl.o1 hr ((n-4)+1) 0 (by first|omega|(simp;omega)) rfl rfl)∘Vw 14 .u32∘Vp [15]∘Vo (vW ((l.getD ((n-4)+1) 0)*256:Nat)) (by exact Mq (by rw [show (2:Int)^ (min (8:Int).toNat (IntKind.u32).bits)=256 from rfl];omega) om)∘Vp [16]∘Vo (vW (l.getD (n-4) 0+l.getD (n-4+1) 0*256:Nat)) (by exact Qd (m:=l.getD (n-4) 0) (n:=l.getD (n-4+1) 0) (j:=8) (p:=256) rfl om om)∘EU 19 2∘Vy 20 (h:=by exact Yl.ix gA oA ((n-4)+2) 1 rfl rfl rfl)∘VH (getD_lt hl (k:=((n-4)+2)) (by first|omega|(simp;omega)))) fun afg=>(Vy 21 (h:=by exact Yl.o1 hr ((n-4)+2) 0 (by first|omega|(simp;omega)) rfl rfl)∘Vw 22 .u32∘Vp [23]∘Vo (vW ((l.getD ((n-4)+2) 0)*65536:Nat)) (by exact Mq (by rw [show (2:Int)^ (min (16:Int).toNat (IntKind.u32).bits)=65536 from rfl];omega) om)∘Vp [24]∘Vo (vW (l.getD (n-4) 0+l.getD (n-4+1) 0*256+l.getD (n-4+2) 0*65536:Nat)) (by exact Qd (m:=l.getD (n-4) 0+l.getD (n-4+1) 0*256) (n:=l.getD (n-4+2) 0) (j:=16) (p:=65536) rfl om om)∘EU 27 3∘Vy 28 (h:=by exact Yl.ix gA oA ((n-4)+3) 1 rfl rfl rfl)∘VH (getD_lt hl (k:=((n-4)+3)) (by first|omega|(simp;omega)))) fun QF=>(Vy 29 (h:=by exact Yl.o1 hr ((n-4)+3) 0 (by first|omega|(simp;omega)) rfl rfl)∘Vw 30 .u32∘Vp [31]∘Vo (vW ((l.getD ((n-4)+3) 0)*16777216:Nat)) (by exact Mq (by rw [show (2:Int)^ (min (24:Int).toNat (IntKind.u32).bits)=16777216 from rfl];omega) om)∘Vp [32]∘Vo (vW (l.getD (n-4) 0+l.getD (n-4+1) 0*256+l.getD (n-4+2) 0*65536+l.getD (n-4+3) 0*16777216:Nat)) (by exact Qd (m:=l.getD (n-4) 0+l.getD (n-4+1) 0*256+l.getD (n-4+2) 0*65536) (n:=l.getD (n-4+3) 0) (j:=24) (p:=16777216) rfl om om)∘VI 3 .n (h:=by exact fun HM=>Xj _ _ _ (l.take (n-4)) B _ (hL.mem HM hB) (HM.le hB) ((HM.old hr).Cr om) (by rw [List.length_take];omega) om (rU hl _))) fun EW hbw=>(Vp [33,34]∘Vd∘aN∘JZ∘bq) fun HM=>by exact ⟨by rw [qs0 hln om],HM.below⟩)
theorem HY {w w':World} {l:List Nat} {n e:Nat} (h:aG l=(n,e)) (hb:Below w.heap.size w w'):Is w (.tuple #[vI ((aG l).1:Int),vI ((aG l).2:Int)]) (.returned (.tuple #[vI n,vI e])) w':=by rw [h];exact ⟨rfl,hb⟩
theorem qs1 (A:Option Addr) (n cp:Nat) (l:List Nat) (w:World) (hr:Rd w w.heap.size 1 A n (l.map B8)) (hln:l.length=n) (hn:n≤9223372036854775807) (hl:∀b∈l,b<256):
    Calls Tryz.prog 134 #[.slice A n cp] w (Is w (.tuple #[vI ((aG l).1:Int),vI ((aG l).2:Int)])):=by
 refine (dM Tryz.func134 34) ?_
 refine (JP∘Jp 2∘Jj∘JQ∘JP∘Jp 1∘Jl∘Jp 1∘bK∘Jj) (Ji (fun uG=>?_) fun uG=>?_)
 ·
  exact (JT∘JP∘Jp 2∘Jj∘JZ∘dL) fun HM=>HY (by unfold aG;rw [if_pos om]) HM.below
 refine (JF∘aI∘JP∘Jp 1∘Jj∘JQ∘JP∘Jp 1∘Jj∘JB) fun a Z HM=>?_
 refine qj (fun mS aS wS=>∃(k:Nat),(k≤4)∧mS=4-k∧Fr aS 34 [] [(5,vI (3- (k:Int))),(4,vI (gX l k)),(8,.bool false),(3,vI 0),(2,vI 0),(0,.slice A n cp)]∧Mem w wS []) (m:=4-0) ⟨0,Nat.zero_le _,rfl,Z.sub kr,HM.pk []⟩ ?_
 clear Z HM;rintro mS a w_ ⟨k,hk,rfl,Z,HM⟩
 have hu:=qpb hl om hk
 refine Jb Z HM ((JQ∘JP∘Jp 2∘aT∘Jj) (Ju (fun j6=>?_) fun j6=>?_))
 ·
  intro a Z HM
  have mq:=of_decide_eq_true j6
  have hk3:k≤3:=by omega
  refine Jb Z HM ((JT∘aI∘JQ∘JB∘JR∘Jp 2∘Jo (vI ((gX l k)*256:Nat)) (by exact uz (by rw [show (2:Int)^ (min (8:Int).toNat (IntKind.i64).bits)=256 from rfl];omega) om)∘Jp 2∘Jo (vI (3-k:Nat)) (by congr 1;omega)) ?_)
  repeat (first|clear Z|clear HM)
  intro a Z HM
  obtain ⟨gA,oA,rfl,_⟩:=hr.qp (Nat.lt_of_le_of_lt (Nat.zero_le _) (show 3-k<n from by omega)) de
  refine Jb Z HM ((Jy (h:=by exact Yl.ix gA oA (3-k) 1 rfl rfl rfl)∘JH (getD_lt hl (k:=(3-k)) (by first|omega|(simp;omega)))) fun hx1=>(Jy (h:=by exact Yl.o1 hr (3-k) 0 (by first|omega|(simp;omega)) rfl rfl)∘Jw .i64∘Jp 1∘Jo (vI (gX l (k+1))) (by have h:=qzg (m:=gX l k) (n:=l.getD (3-k) 0) (j:=8) (p:=256) rfl om om;exact h)∘Jp 1∘aN∘Jj∘JR∘Jp 2∘Jo (vI (3- ((k+1:Nat):Int))) (by rw [IntWalk.i64_in _ om];congr 1;omega)∘Jp 1∘bK∘Jq) fun a Z HM=>?_)
  exact ⟨_,om,k+1,by omega,rfl,Z.sub kr,HM.pk []⟩
 intro a Z HM
 have mq:=of_decide_eq_false j6
 revert HM;revert a;repeat (first|clear Z|clear HM)
 intro a Z HM
 obtain rfl:k=4:=by omega
 replace Z:=Z.sp 4 (vI (fO l:Int)) rfl (by rw [Xk])
 rw [Xk] at hu
 refine Jb Z HM ((JF∘JX∘JG∘JQ∘JB∘JP∘Jp 3) (Ji (fun hd24=>?_) fun hd24=>?_))
 ·
  exact (Jp 4∘aN∘Jj∘JT∘JP∘Jp 2∘Jj∘JZ∘dL) fun HM=>HY (by unfold aG;rw [if_neg om,if_pos om]) HM.below
 refine (Jp 4∘aN∘Jj) (Ji (fun kN=>?_) fun kN=>?_)
 ·
  exact (JT∘JP∘Jp 2∘Jj∘JZ∘dL) fun HM=>HY (by unfold aG;rw [if_neg om,if_pos om]) HM.below
 refine (JF∘JP∘Jp 2∘Jl∘Jp 2∘gW∘Jj) (Ji (fun hd28=>?_) fun hd28=>?_)
 ·
  exact (JT∘JP∘Jp 2∘Jj∘JZ∘dL) fun HM=>HY (by unfold aG;rw [if_neg om,if_neg om,if_pos om]) HM.below
 exact (JF∘aI∘JP∘Jp 3∘Jj∘JZ∘dL) fun HM=>HY (by unfold aG;rw [if_neg om,if_neg om,if_neg om]) HM.below
theorem qvn (g:Nat) (b:Bk) (hok:b.Ok) (A:Option Addr) (c B:Nat) (w:World) (hL:ax B w) (hB:B≤w.heap.size) (hr:Rd w w.heap.size 11 A b.evs.length (b.evs.flatMap cZ)) (hn:b.evs.length≤1000000) (hb:w.heap[g]?=some (.cells (b.cells A c) 59 (0,0))):
    Calls Tryz.prog 154 #[vP g 0] w (Is w (.bool b.oL)):=by
 refine (dM Tryz.func154 47) ?_
 refine (JP∘Jp 1∘Jj∘JQ∘JP∘Jf 4∘Jy (v:= .slice A b.evs.length c) (h:=by exact Yl.ze rfl rfl kr (fun _ h=>h.mg hb rfl))∘JL (h:=by exact fun HM=>q6q A b.evs.length c b.evs hok.evs B _ (hL.mem HM hB).laid (HM.le hB) (HM.old hr) om (i:=(bH b.evs).1) (er:=(bH b.evs).2) rfl)) ?_
 rintro HM _ w7 ⟨rfl,hbw⟩
 refine ⟨_,rfl,_,HM.call hbw,?_⟩
 refine (Jp 1∘Jx∘Jx∘Jp 2∘aN∘Jr∘Jp 3) (Jh (fun j4=>?_) fun j4=>?_)
 ·
  exact (Jv 19 [(31,.bool true)]∘qR∘Jj∘JT∘JP∘Jp 1∘Jj∘JZ∘bq) fun HM=>by exact ⟨by rw [show b.oL=false from decide_eq_false om],HM.below⟩
 refine (Jf 1∘Jy (v:=vB b.cpu) (h:=by exact Yl.ze rfl rfl kr (fun _ h=>h.mg hb rfl))∘Jp 3) (Ji (fun mr=>?_) fun mr=>?_)
 ·
  exact (Jv 14 [(31,.bool true)]∘aN∘Jj∘JT∘JP∘Jp 1∘Jj∘JZ∘bq) fun HM=>by exact ⟨by rw [show b.oL=false from decide_eq_false om],HM.below⟩
 refine (Jf 2∘Jy (v:=vI b.lost) (h:=by exact Yl.ze rfl rfl kr (fun _ h=>h.mg hb rfl))∘Jp 3) (Ji (fun pE=>?_) fun pE=>?_)
 ·
  exact (Jv 9 [(31,.bool true)]∘aN∘Jj∘JT∘JP∘Jp 1∘Jj∘JZ∘bq) fun HM=>by exact ⟨by rw [show b.oL=false from decide_eq_false om],HM.below⟩
 refine (Jf 2∘Jy (v:=vI b.lost) (h:=by exact Yl.ze rfl rfl kr (fun _ h=>h.mg hb rfl))∘Jp 3) (Ji (fun hd27=>?_) fun hd27=>?_)
 ·
  exact (Jp 4∘aN∘Jj∘JT∘JP∘Jp 1∘Jj∘JZ∘bq) fun HM=>by exact ⟨by rw [show b.oL=false from decide_eq_false om],HM.below⟩
 refine (Jf 3∘Jy (v:=vI b.next) (h:=by exact Yl.ze rfl rfl kr (fun _ h=>h.mg hb rfl))∘Jp 2∘aN∘Jj) (Jh (fun hd31=>?_) fun hd31=>?_)
 ·
  exact (JT∘JP∘Jp 1∘Jj∘JZ∘bq) fun HM=>by exact ⟨by rw [show b.oL=false from decide_eq_false om],HM.below⟩
 refine (JF∘aI∘JQ∘JP∘Jf 4∘Jy (v:= .slice A b.evs.length c) (h:=by exact Yl.ze rfl rfl kr (fun _ h=>h.mg hb rfl))∘Jl∘Jp 1∘fC∘Jj) (Je (fun CL=>?_) fun CL=>?_)
 ·
  exact (JT∘JP∘Jf 2∘Jy (v:=vI b.lost) (h:=by exact Yl.ze rfl rfl kr (fun _ h=>h.mg hb rfl))∘Jp 2∘fC∘Jj∘JZ∘bq) fun HM=>by exact ⟨by rw [Bool.eq_iff_iff.2 (show (decide ((b.lost:Int)>(0:Int)))=true↔b.oL=true by unfold Bk.oL;rw [qsw om];simp only [decide_eq_true_eq,beq_iff_eq];omega)],HM.below⟩
 refine (JF∘aI) fun a Z HM=>?_
 refine wp_seq ?_
 refine Jb Z HM ((Vs .n []) fun wd6=>(Vf 0 4∘Vf 5 1∘Vy 1 (v:= .slice A b.evs.length c) (h:=by exact Yl.ze rfl rfl kr (fun _ h=>h.mg hb rfl))) ?_)
 repeat (first|clear Z|clear HM|clear HS)
 intro a Z HM HS
 obtain ⟨gA,oA,rfl,_⟩:=hr.qp (Nat.lt_of_le_of_lt (Nat.zero_le _) (show 0<b.evs.length from by omega)) de
 exact Vb Z HM HS ((Vy 2 (v:=vP gA oA) (h:=by exact Yl.indexAddr (ad:=⟨gA,oA,none⟩) (y:=0) (sz:=11) rfl rfl rfl om kr)∘Vf 3 2∘Vy 4 (v:=vB ((b.evs.getD 0 Ev.zero).cpu)) (h:=by exact Yl.ze rfl rfl kr (fun _ h=>(h.old hr).partAt nu (k:=0) (j:=2) (x:=(b.evs.getD 0 Ev.zero)) ((getD_at Ev.zero (k:=0) (by first|omega|(simp;omega)))) rfl))∘Vy 6 (v:=vB b.cpu) (h:=by exact Yl.ze rfl rfl kr (fun _ h=>h.mg hb rfl))∘Vp [7,8]∘Vd∘aN∘JZ∘bq) fun HM=>by exact ⟨by rw [Bool.eq_iff_iff.2 (show (((b.evs.getD 0 Ev.zero).cpu:Int)==(b.cpu:Int))=true↔b.oL=true by unfold Bk.oL;rw [qo7 om];simp only [decide_eq_true_eq,beq_iff_eq];omega)],HM.below⟩)
theorem qvo (g:Nat) (b:Bk) (A:Option Addr) (c:Nat) (w:World) (hb:w.heap[g]?=some (.cells (b.cells A c) 59 (0,0))):
    Calls Tryz.prog 155 #[vP g 0] w (Is w (.bool b.xx)):=by
 refine (dM Tryz.func155 26) ?_
 refine (JP∘Jp 1∘Jr∘Jf 3∘Jy (v:=vI b.next) (h:=by exact Yl.ze rfl rfl kr (fun _ h=>h.mg hb rfl))∘Jp 2) (Ji (fun hd5=>?_) fun hd5=>?_)
 ·
  refine (Jf 3∘Jy (v:=vI b.next) (h:=by exact Yl.ze rfl rfl kr (fun _ h=>h.mg hb rfl))∘Jp 3) (Ji (fun mq=>?_) fun mq=>?_)
  ·
   refine (Jf 1∘Jy (v:=vB b.cpu) (h:=by exact Yl.ze rfl rfl kr (fun _ h=>h.mg hb rfl))∘Jp 3) (Je (fun mD=>?_) fun mD=>?_)
   ·
    refine (Jf 2∘Jy (v:=vI b.lost) (h:=by exact Yl.ze rfl rfl kr (fun _ h=>h.mg hb rfl))∘Jp 3) (Je (fun mo=>?_) fun mo=>?_)
    ·
     exact (Jf 4∘Jy (v:= .slice A b.evs.length c) (h:=by exact Yl.ze rfl rfl kr (fun _ h=>h.mg hb rfl))∘Jl∘Jp 3∘aN∘Jj∘JZ∘bq) fun HM=>by exact ⟨by rw [Bool.eq_iff_iff.2 (show ((b.evs.length:Int)==(0:Int))=true↔b.xx=true by unfold Bk.xx;simp only [decide_eq_true_eq,beq_iff_eq];omega)],HM.below⟩
    exact (Jp 6∘aN∘Jj∘JZ∘bq) fun HM=>by exact ⟨by rw [show b.xx=false from decide_eq_false om],HM.below⟩
   exact (Jv 11 [(1,.bool false)]∘aN∘Jj∘JZ∘bq) fun HM=>by exact ⟨by rw [show b.xx=false from decide_eq_false om],HM.below⟩
  exact (Jv 16 [(1,.bool false)]∘aN∘Jj∘JZ∘bq) fun HM=>by exact ⟨by rw [show b.xx=false from decide_eq_false om],HM.below⟩
 exact (Jv 21 [(1,.bool false)]∘gW∘Jj∘JZ∘bq) fun HM=>by exact ⟨by rw [show b.xx=false from decide_eq_false om],HM.below⟩
theorem H6 (b:Bk) (hok:b.Ok) (A:Option Addr) (c B:Nat) (w:World) (hL:ax B w) (hB:B≤w.heap.size) (hr:Rd w w.heap.size 11 A b.evs.length (b.evs.flatMap cZ)) (hn:b.evs.length≤1000000):
    Calls Tryz.prog 124 #[.agg (b.cells A c)] w (Is w (.bool b.fits)):=by
 refine (dM Tryz.func124 19) ?_
 refine (JP∘JE) fun w1 g1=>(Jp 1∘Jr) fun a Z HM=>?_
 refine fo Z 0 rfl rfl ?_
 refine qu2 Z HM rfl rfl de ?_
 clear Z HM;intro a w5 g5 Z HM
 refine Jb Z HM ((Jy (h:=by exact Yl.makeFunc (fst:=[]) (aJ:=[vP g1 0]) rfl rfl rfl)) fun a Z HM=>?_)
 refine fo Z 2 rfl rfl ?_
 refine Ws Z HM (i:=0) (kt:=5) (et:=42) (kd:= .int .u8) (Or.inr rfl) rfl kr kr rfl rfl rfl rfl (by first|trivial|rfl) (rfl) fun afl HM=>?_
 refine Jb Z HM ((Jy (h:=by exact Yl.makeFunc (fst:=[]) (aJ:=[vP g1 0]) rfl rfl rfl)) fun a Z HM=>?_)
 refine fo Z 4 rfl rfl ?_
 refine Ws Z HM (i:=0) (kt:=5) (et:=42) (kd:= .int .u8) (Or.inr rfl) rfl kr kr rfl rfl rfl rfl (by first|trivial|rfl) (rfl) fun CO HM=>?_
 refine Jb Z HM ((Jp 2∘gW∘Jq) fun a Z HM=>?_)
 rcases q6t b.kind with hk|hk|⟨hk,hk2⟩
 ·
  refine Jb Z HM ((JG∘JP∘Jp 1∘Jg 0 O1∘Jy (v:= .func (.func 154) #[] #[vP g1 0]) (h:=by exact Yl.Wt (kt:=5) (et:=42) (kd:= .int .u8) (j:=0) (es:=(#[].push {key:=vB 1,val:= .func (.func 154) #[] #[vP g1 0],born:=0}).push {key:=vB 2,val:= .func (.func 155) #[] #[vP g1 0],born:=0+1}) (clock:=0+1+1) rfl kr kr rfl rfl (fun _ h=>h.fI (i:=0) rfl) (by first|trivial|rfl) (by rw [hk];rfl))∘Jp 1∘gW∘Jr∘Jp 1∘Jy (v:= .bool true) (h:=by exact Yl.WA rfl rfl rfl kr)∘Jp 2) fun a Z HM=>?_)
  refine fo Z 4 rfl rfl ?_
  refine zg Z (f:=154) (vs:=[]) (fst:=[]) (aJ:=[vP g1 0]) rfl rfl rfl kr rfl de (qvn _ b hok A c B _ (hL.mem HM hB) (HM.le hB) (HM.old hr) hn (HM.blk (i:=1) rfl)) ?_
  rintro _ H7 ⟨rfl,hbw⟩
  refine ⟨_,rfl,?_⟩
  replace HM:=HM.call hbw
  clear Z;intro a Z
  exact Jb Z HM ((Jp 2∘aN∘Jj∘JZ∘JM (.f .n)∘bq) fun HM=>by exact ⟨by unfold Bk.fits;rw [if_pos hk],HM.below⟩)
 ·
  refine Jb Z HM ((JG∘JP∘Jp 1∘Jg 0 O1∘Jy (v:= .func (.func 155) #[] #[vP g1 0]) (h:=by exact Yl.Wt (kt:=5) (et:=42) (kd:= .int .u8) (j:=1) (es:=(#[].push {key:=vB 1,val:= .func (.func 154) #[] #[vP g1 0],born:=0}).push {key:=vB 2,val:= .func (.func 155) #[] #[vP g1 0],born:=0+1}) (clock:=0+1+1) rfl kr kr rfl rfl (fun _ h=>h.fI (i:=0) rfl) (by first|trivial|rfl) (by rw [hk];rfl))∘Jp 1∘gW∘Jr∘Jp 1∘Jy (v:= .bool true) (h:=by exact Yl.WA rfl rfl rfl kr)∘Jp 2) fun a Z HM=>?_)
  refine fo Z 4 rfl rfl ?_
  refine zg Z (f:=155) (vs:=[]) (fst:=[]) (aJ:=[vP g1 0]) rfl rfl rfl kr rfl de (qvo _ b A c _ (HM.blk (i:=1) rfl)) ?_
  rintro _ H7 ⟨rfl,hbw⟩
  refine ⟨_,rfl,?_⟩
  replace HM:=HM.call hbw
  clear Z;intro a Z
  exact Jb Z HM ((Jp 2∘aN∘Jj∘JZ∘JM (.f .n)∘bq) fun HM=>by exact ⟨by unfold Bk.fits;rw [if_neg om,if_pos hk],HM.below⟩)
 ·
  exact Jb Z HM ((JG∘JP∘Jp 1∘Jg 0 O1∘Jy (v:= .nilFunc) (h:=by exact Yl.qt5 (kt:=5) (et:=42) (kd:= .int .u8) (es:=(#[].push {key:=vB 1,val:= .func (.func 154) #[] #[vP g1 0],born:=0}).push {key:=vB 2,val:= .func (.func 155) #[] #[vP g1 0],born:=0+1}) (clock:=0+1+1) rfl kr kr rfl rfl (fun _ h=>h.fI (i:=0) rfl) (by first|trivial|rfl) (by have e1:((b.kind:Int)==1)=false:=(by rw [beq_eq_false_iff_ne];omega);have e2:((b.kind:Int)==2)=false:=(by rw [beq_eq_false_iff_ne];omega);simp [Instr.findNow,Instr.sameNow,e1,e2]) kr)∘Jp 1∘gW∘Jr∘Jp 1∘Jy (v:= .bool false) (h:=by exact Yl.q77 rfl rfl rfl kr)∘Jp 5∘aN∘Jj∘JZ∘JM (.f .n)∘bq) fun HM=>by exact ⟨by unfold Bk.fits;rw [if_neg hk,if_neg hk2],HM.below⟩)
theorem qzt (b:Bk) (A:Option Addr) (c:Nat) (w:World) (hr:Rd w w.heap.size 11 A b.evs.length (b.evs.flatMap cZ)) (h0:b.evs.length≠0):
    Calls Tryz.prog 125 #[.agg (b.cells A c)] w (Is w (.agg b.base.cells)):=by
 refine (dM Tryz.func125 14) ?_
 refine (JP∘JE) fun w1 g1=>(JA #[vI 0,vI 0]) fun w2 g2=>(Jj) fun a Z HM=>?_
 refine wp_seq ?_
 refine Jb Z HM ((Vs .n [11]) fun wd1=>(Vf 0 4∘Vf 5 4∘Vc 1 O1) ?_)
 repeat (first|clear Z|clear HM|clear HS)
 intro a Z HM HS
 obtain ⟨gA,oA,rfl,_⟩:=hr.qp (Nat.lt_of_le_of_lt (Nat.zero_le _) (show 0<b.evs.length from by omega)) de
 refine Vb Z HM HS ((Vy 2 (v:=vP gA oA) (h:=by exact Yl.indexAddr (ad:=⟨gA,oA,none⟩) (y:=0) (sz:=11) rfl rfl rfl om kr)∘Vf 3 0∘Vy 4 (v:=vI ((b.evs.getD 0 Ev.zero).seq)) (h:=by exact Yl.ze rfl rfl kr (fun _ h=>(by have:=(h.old hr).partAt nu (k:=0) (j:=0) (x:=(b.evs.getD 0 Ev.zero)) ((getD_at Ev.zero (k:=0) (by first|omega|(simp;omega)))) rfl;simpa using this)))∘Vc 6 O1∘Vy 7 (v:=vP gA oA) (h:=by exact Yl.indexAddr (ad:=⟨gA,oA,none⟩) (y:=0) (sz:=11) rfl rfl rfl om kr)∘Vf 8 1∘Vy 9 (v:=vI ((b.evs.getD 0 Ev.zero).time)) (h:=by exact Yl.ze rfl rfl kr (fun _ h=>(h.old hr).partAt nu (k:=0) (j:=1) (x:=(b.evs.getD 0 Ev.zero)) ((getD_at Ev.zero (k:=0) (by first|omega|(simp;omega)))) rfl))∘Vy 10 (v:= .agg #[vI ((b.evs.getD 0 Ev.zero).seq),vI ((b.evs.getD 0 Ev.zero).time)]) (h:=by exact Yl.build (vs:=[(0,vI ((b.evs.getD 0 Ev.zero).seq)),(1,vI ((b.evs.getD 0 Ev.zero).time))]) rfl kr kr)) fun a Z HM HS=>?_)
 refine s_on Z 11 rfl (eP Z HM 0 rfl rfl rfl rfl rfl ⟨kr,kr⟩ rfl rfl (by simp [Value.oneCell']) fun Xm HM=>?_)
 refine jZ kr ?_
 refine qh kr ?_
 refine Jb Z HM ((JM (.t (.f .n))∘JZ) fun a Z HM=>?_)
 exact uy rfl Z (.cellS (i:=0) Z HM rfl rfl ⟨kr,kr⟩ rfl) (⟨by rw [qvg];rfl,HM.below⟩)
theorem QG (x:Nat) (hx:x<18446744073709551616) (w:World):
    Calls Tryz.prog 163 #[vQ x] w (sP w (ah x)):=by
 refine (dM Tryz.func163 5) ?_
 exact (JP∘Jp 1∘Jr∘Jp 1∘JK (h:=by exact fun HM=>qst hx)) fun A4 c4 w4 hc4=>(Jp 1∘bK∘Jj∘JZ∘bq) fun HM=>by exact ⟨⟨_,_,rfl,HM.own (i:=0) rfl,hc4⟩,HM.below⟩
theorem QH {w:World} {a b c d:Part} (ha:Rd w w.heap.size 1 a.A a.l.length (a.l.map B8)) (hb:Rd w w.heap.size 1 b.A b.l.length (b.l.map B8)) (hc:Rd w w.heap.size 1 c.A c.l.length (c.l.map B8)) (hd:Rd w w.heap.size 1 d.A d.l.length (d.l.map B8)):∀p∈[a,b,c,d],Rd w w.heap.size 1 p.A p.l.length (p.l.map B8):=by
 intro p hp
 simp only [List.mem_cons,List.not_mem_nil,or_false] at hp
 rcases hp with rfl|rfl|rfl|rfl
 ·exact ha
 ·exact hb
 ·exact hc
 ·exact hd
theorem qzu (b:Bk) (hok:b.Ok) (A:Option Addr) (c B:Nat) (w:World) (hL:ax B w) (hB:B≤w.heap.size) (hr:Rd w w.heap.size 11 A b.evs.length (b.evs.flatMap cZ)) (hn:b.evs.length≤1000000) (hf:b.fits=true):
    Calls Tryz.prog 136 #[.agg (b.cells A c)] w (sP w b.body):=by
 have eO:=hok.cpu
 refine (dM Tryz.func136 52) ?_
 refine (JP∘JE) fun w1 g1=>(Jp 1∘Jj∘JQ∘JP∘Jg 0 O0∘Jp 1∘aT∘Jj) (Ju (fun dO=>?_) fun dO=>?_)
 ·
  intro a Z HM
  have yJ:=eq_of_beq dO
  have hk:b.kind=2:=by omega
  obtain ⟨n1,n2,n3,n4,n5⟩:=qvi hf hk
  exact Jb Z HM ((JT∘JP∘Jg 3 O0∘Jv 1 [(12,vQ (IntKind.u64.wrap b.next))]∘Jo (vQ b.next.toNat) (by exact GV om om)∘JK (h:=by exact fun HM=>QG b.next.toNat om _)) fun QI c13 xC ug=>(Jp 1∘fC∘Jj∘JZ∘bq) fun HM=>by exact sP.as ⟨⟨_,_,rfl,HM.own (i:=0) rfl,ug⟩,HM.below⟩ (by unfold Bk.body;rw [if_pos hk]))
 intro a Z HM
 have yJ:=ne_of_beq_false dO
 have hk:b.kind≠2:=by omega
 obtain ⟨m0,m1,m2,m3,m4⟩:=qvh hf hk
 refine Jb Z HM ((JF∘aI∘JP∘Jg 1 O0∘Jw .u64∘Jg 2 O0∘Jv 1 [(19,vQ (IntKind.u64.wrap b.lost))]∘Jo (vQ b.lost.toNat) (by exact GV om om)∘Jg 4 O0∘Jl∘Jw .u64∘JU zz #[vQ b.cpu,vQ b.lost.toNat,vQ b.evs.length]) fun Xi g24=>(JK (h:=by exact fun HM=>Qj _ 3 _ [b.cpu,b.lost.toNat,b.evs.length] _ (HM.aZ (i:=0) (n:=3) (size:=1) rfl rfl) (by intro x hx;simp only [List.mem_cons,List.not_mem_nil,or_false] at hx;omega) om)) fun ME MF w25 hc25=>(Jp 1∘aN∘Jj∘JQ∘JP∘Jg 4 O2∘Jl∘Jp 1∘bK∘Jj) (Ju (fun pF=>?_) fun pF=>?_))
 ·
  intro a Z HM
  have hd29:=eq_of_beq pF
  exact Jb Z HM ((JT∘JP∘Jp 2∘aT∘Jj∘JZ∘JM (.t (.f .n))∘bq) fun HM=>by exact sP.as ⟨⟨_,_,rfl,HM.own (i:=0) rfl,hc25⟩,HM.below⟩ (by unfold Bk.body;rw [if_neg hk,if_pos om];simp))
 intro a Z HM
 have hd29:=ne_of_beq_false pF
 have hw:=qsu hok (Ql hf hk).2 om
 obtain ⟨q1,q2,q3,q4⟩:=qzq hok hf hk om
 refine Jb Z HM ((JF∘aI∘JP∘Jy (v:= .agg (b.cells A c)) (h:=by exact Yl.qm rfl rfl ak rfl (fun _ h=>qc (h.blk (i:=2) rfl)))∘JI (h:=by exact fun HM=>qzt b A c _ (HM.old hr) om)) fun w32 hbw=>(JA #[vI 0,vI 0]) fun w4 g4=>(JV ⟨kr,kr⟩ bg (h1:=by exact q6j b.base)) fun afq=>(bK∘Jr∘Jy (v:= .agg b.base.cells) (h:=by exact Yl.qm rfl rfl ⟨kr,kr⟩ rfl (fun _ h=>qc (h.blk (i:=0) rfl)))∘Jg 4 O3∘JK (h:=by exact fun HM=>qzf b.base A b.evs.length c b.evs hok.evs B _ (hL.mem HM hB).laid (HM.le hB) (HM.old hr) om hw.1 hw.2)) fun jO c37 yK iP=>(Jp 1∘Jx∘Jx∘Jp 2∘xA∘Jj) fun a Z HM=>?_)
 refine wp_seq ?_
 refine Jb Z HM ((Vs .n []) fun wd8=>(Vp [0]∘Vf 1 0∘Vf 5 1∘Vp [9]∘Vc 2 O1∘Vq [3] [(43,vQ (IntKind.u64.wrap b.base.seq))]∘Vo (vQ b.base.seq.toNat) (by exact GV om om)∘Vc 6 O1∘Vq [7] [(47,vQ (IntKind.u64.wrap b.base.time))]∘Vo (vQ b.base.time.toNat) (by exact GV om om)∘VK 4 .n (h:=by exact fun HM=>QG b.base.seq.toNat om _)) fun xD xE Xn yL=>(VK 8 (.f .n) (h:=by exact fun HM=>QG b.base.time.toNat om _)) fun xG xH MG rZ=>fun a Z HM HS=>?_)
 refine s_on Z 10 rfl (mh Z HM Ha [(0,.slice ME (([b.cpu,b.lost.toNat,b.evs.length].flatMap ah).length) MF),(1,.slice xD ((ah b.base.seq.toNat).length) xE),(2,.slice xG ((ah b.base.time.toNat).length) xH),(3,.slice jO ((recs b.base b.evs).length) c37)] #[.slice ME (([b.cpu,b.lost.toNat,b.evs.length].flatMap ah).length) MF,.slice xD ((ah b.base.seq.toNat).length) xE,.slice xG ((ah b.base.time.toNat).length) xH,.slice jO ((recs b.base b.evs).length) c37] ?_)
 clear Z HM;intro a MH g50 Z HM
 refine aD (HM.pk [3,4,5,6,7]) (fun HS=>?_)
 have hps:=QH (a:=⟨ME,MF,[b.cpu,b.lost.toNat,b.evs.length].flatMap ah⟩) (b:=⟨xD,xE,ah b.base.seq.toNat⟩) (c:=⟨xG,xH,ah b.base.time.toNat⟩) (d:=⟨jO,c37,recs b.base b.evs⟩) (HM.rd (i:=5) rfl) (HM.rd (i:=2) rfl) (HM.rd (i:=1) rfl) (HM.rd (i:=3) rfl)
 exact Vb Z HM HS ((VK 11 (.f (.f (.f .n))) (h:=by exact fun HM=>(qsx _ 4 _ [⟨ME,MF,[b.cpu,b.lost.toNat,b.evs.length].flatMap ah⟩,⟨xD,xE,ah b.base.seq.toNat⟩,⟨xG,xH,ah b.base.time.toNat⟩,⟨jO,c37,recs b.base b.evs⟩] _ (HM.aZ (i:=0) (n:=4) (size:=1) rfl rfl) rfl om hps (by have h1:=zu [b.cpu,b.lost.toNat,b.evs.length];have h2:=qz b.base.seq.toNat;have h3:=qz b.base.time.toNat;have h4:=Qm b.evs b.base;simp only [List.flatMap_cons,List.flatMap_nil,List.length_append,List.append_nil,List.length_cons,List.length_nil] at h1⊢;omega)).mono (fun _ _ h=>h.as (R':=ah b.cpu++ah b.lost.toNat++ah b.evs.length++(ah b.base.seq.toNat++ah b.base.time.toNat++recs b.base b.evs)) (by simp)))) fun A51 c51 w51 QJ=>(Vp [12]∘Vd∘aN∘JM (.t (.f (.f (.f (.f (.t (.t (.f .n))))))))∘JZ∘bq) fun HM=>by exact sP.as ⟨⟨_,_,rfl,HM.own (i:=0) rfl,QJ⟩,HM.below⟩ (by unfold Bk.body;rw [if_neg hk,if_neg om]))
instance Xo:DecidableEq Bk:=fun ⟨a0,a1,a2,a3,a4⟩ ⟨b0,b1,b2,b3,b4⟩=>
 decidable_of_iff (a0=b0∧a1=b1∧a2=b2∧a3=b3∧a4=b4) (by simp)
theorem qvp {b:Bk} (h:8+b.body.length+4≤4096):(#[Value.int .u8 (((8+b.body.length+4)%256:Nat):Int),.int .u8 (((8+b.body.length+4)/256%256:Nat):Int),.int .u8 0,.int .u8 0,.int .u8 113,.int .u8 116,.int .u8 1,.int .u8 (b.kind:Int)]:Array Value).toList++b.body.map B8=b.raw.map B8:=by
 have e0:8+b.body.length+4=12+b.body.length:=by omega
 have e1:(12+b.body.length)/65536%256=0:=by omega
 have e2:(12+b.body.length)/16777216%256=0:=by omega
 unfold Bk.raw rT
 rw [e0,e1,e2]
 simp [B8]
theorem qpc {b:Bs} {e:Ev} (h:e.kind<256):∀x∈qI b e,x<256:=by
 intro x hx
 unfold qI at hx
 rcases List.mem_cons.1 hx with rfl|hx
 ·exact h
 ·obtain ⟨y,_,hy⟩:=List.mem_flatMap.1 hx
  exact yC y x hy
theorem Xp:∀(l:List Ev) (b:Bs),(∀e∈l,e.Ok)→∀x∈recs b l,x<256
 |[],_,_,x,hx=>by simp [recs] at hx
 |e::r,b,hok,x,hx=>by
  rw [recs] at hx
  rcases List.mem_append.1 hx with h|h
  ·exact qpc (hok e (by simp)).kind x h
  ·exact Xp r e.at (fun y hy=>hok y (by simp [hy])) x h
theorem q3x {b:Bk} (hok:b.Ok):∀x∈b.body,x<256:=by
 intro x hx
 unfold Bk.body at hx
 split at hx
 ·exact yC _ x hx
 ·rcases List.mem_append.1 hx with h|h
  ·rcases List.mem_append.1 h with h|h
   ·rcases List.mem_append.1 h with h|h
    ·exact yC _ x h
    ·exact yC _ x h
   ·exact yC _ x h
  ·split at h
   ·cases h
   ·rcases List.mem_append.1 h with h|h
    ·rcases List.mem_append.1 h with h|h
     ·exact yC _ x h
     ·exact yC _ x h
    ·exact Xp _ _ hok.evs x h
theorem q6u {b:Bk} (hok:b.Ok):∀x∈b.raw,x<256:=by
 intro x hx
 unfold Bk.raw at hx
 rcases List.mem_append.1 hx with h|h
 ·rcases List.mem_append.1 h with h|h
  ·exact q6s _ x h
  ·simp only [List.mem_cons,List.not_mem_nil,or_false] at h
   have:=hok.kind
   omega
 ·exact q3x hok x h
theorem QK (b:Bk):b.raw.length=8+b.body.length:=by unfold Bk.raw rT;simp;omega
theorem qpd (b:Bk):b.body.length≤50+61*b.evs.length:=by
 unfold Bk.body
 split
 ·have:=qz b.next.toNat;omega
 ·have h1:=qz b.cpu
  have h2:=qz b.lost.toNat
  have h3:=qz b.evs.length
  have h4:=qz b.base.seq.toNat
  have h5:=qz b.base.time.toNat
  have h6:=Qm b.evs b.base
  split<;>simp only [List.length_append,List.length_nil]<;>omega
theorem q16 {w w':World} {b:Bk} {er:Nat} (h:b.err=er) (he:er≠0) (hb:Below w.heap.size w w'):zp w b.err b.out (.returned (.tuple #[.slice none 0 0,.int .i64 (er:Int)])) w':=by
 have h2:b.out=[]:=by unfold Bk.out;rw [if_neg om]
 rw [h,h2]
 exact ⟨⟨none,0,rfl,World.ownsRow_nil _ _ _ _,Nat.le_refl _⟩,hb⟩
theorem QL {b:Bk} (h:b.err=0):b.out=bZ b.raw:=by unfold Bk.out;rw [if_pos h]
theorem Xr (b:Bk):b.out.length≤4096:=by
 unfold Bk.out
 split
 ·rename_i h
  unfold Bk.err at h
  split at h
  ·cases h
  ·split at h
   ·cases h
   ·rw [qc4,QK];omega
 ·simp
theorem tq (most:Nat) (l:List Nat):af most l≤most:=by unfold af;split<;>omega
theorem EX (most:Nat) (l:List Nat):(if ((most:Nat):Int)<(((ae l).1:Nat):Int) then ((most:Nat):Int) else (((ae l).1:Nat):Int))=((af most l:Nat):Int):=by unfold af;split<;>split<;>omega
theorem MI (l:List Nat):(qb l).length=l.length- (ae l).2.1:=by unfold qb;rw [List.length_drop]
theorem EY (l:List Nat):(qb l).length≤l.length:=by rw [MI];omega
theorem Xt {most:Nat} {l:List Nat} (h:(ae l).2.2≠0):aF most l=false:=by unfold aF;rw [decide_eq_false];omega
def Xu (W:World) (gb gk:Nat) (l:List Nat) (jM:Bool) (most:Nat) (fr:List ag) (r:Ending) (w':World):Prop:=
 r= .returned (.int .i64 ((af most l:Nat):Int))∧∃A' c',Rd W W.heap.size 1 A' (qb l).length ((qb l).map B8)∧(qb l).length≤c'∧
  Mem W w' (.blk gb #[.slice A' (qb l).length c'] 35:: .blk gk #[.bool (jM&&aF most l)] 4::fr)
theorem QM {W w':World} {gb gk n c most:Nat} {l:List Nat} {jM H8:Bool} {A:Option Addr} {fr:List ag} (hr:Rd W W.heap.size 1 A l.length (l.map B8)) (hc:l.length≤c) (h2:(jM&&aF most l)=H8) (hn:n=l.length)
  (HM:Mem W w' (.blk gb #[.slice (if c=(ae l).2.1 then A else A.map (·.add ((ae l).2.1*1))) (n- (ae l).2.1) (c- (ae l).2.1)] 35:: .blk gk #[.bool H8] 4::fr)):
  Xu W gb gk l jM most fr (.returned (.int .i64 ((af most l:Nat):Int))) w':=by
 subst h2;subst hn
 refine ⟨rfl,(if c=(ae l).2.1 then A else A.map (·.add ((ae l).2.1*1))),c- (ae l).2.1,?_,?_,?_⟩
 ·rw [MI]
  exact hr.P9 (wY l) hc
 ·rw [MI];omega
 ·rw [MI];exact HM
def CP (w:World) (q:Option Bk) (r:Ending) (w':World):Prop:=
 (∃ cs : Array Value, r = .returned (.tuple #[.agg cs, .bool q.isSome]) ∧ cs.size = 5 ∧ (∀ v ∈ cs.toList, v.oneCell' = true) ∧
  (∀b,q=some b→∃A c,cs=b.cells A c∧w'.ownsRow w.heap.size 32 11 (.slice A b.evs.length c) b.evs.length (b.evs.flatMap cZ)∧b.evs.length≤c))∧Below w.heap.size w w'
theorem H9 {w w':World} {q:Option Bk} {cs:Array Value} (h:q=none) (hs:cs.size=5) (h1:∀v∈cs.toList,v.oneCell'=true) (hb:Below w.heap.size w w'):CP w q (.returned (.tuple #[.agg cs,.bool false])) w':=by
 subst h
 exact ⟨⟨cs,rfl,hs,h1,fun b h=>by cases h⟩,hb⟩
theorem qc6 {w w':World} {q:Option Bk} {b:Bk} {A:Option Addr} {c:Nat} (h:q=some b) (ho:w'.ownsRow w.heap.size 32 11 (.slice A b.evs.length c) b.evs.length (b.evs.flatMap cZ)) (hc:b.evs.length≤c) (hb:Below w.heap.size w w'):CP w q (.returned (.tuple #[.agg (b.cells A c),.bool true])) w':=by
 subst h
 exact ⟨⟨_,rfl,rfl,uE _ _ _,fun b' h=>by injection h with h;subst h;exact ⟨A,c,rfl,ho,hc⟩⟩,hb⟩
theorem AJ {l:List Nat}:(((true&&aF 63 l)&&aF 281474976710656 (qb l))&&aF 4096 (qb (qb l)))=rV l:=by unfold rV;simp
theorem Xv (l:List Nat):xy 2 l=sQ l:=by unfold xy;rw [if_pos rfl]
theorem CQ (l:List Nat):xy 1 l=zb l:=by unfold xy;rw [if_neg om]
theorem Ia {x:Nat} (h:x≤281474976710657):Bk.Ok ⟨2,0,0,(x:Int),[]⟩:=⟨by show 2<256;decide,by show 0<256;decide,by unfold bC;simp,G8 h,by simp⟩
theorem uI {cpu lost:Nat} {es:List Ev} (h:cpu<256) (hl:lost≤281474976710656) (he:∀e∈es,e.Ok):Bk.Ok ⟨1,cpu,(lost:Int),0,es⟩:=⟨by show 1<256;decide,h,G8 (by show lost≤_;omega),by unfold bC;simp,he⟩
theorem Xw {l:List Nat} {q:List Ev×Nat×Nat} (h3:rV l=true) (h0:0<af 4096 (qb (qb l)))
  (hq:gQ ⟨(af 281474976710656 (qb (qb (qb l))):Int),(af 281474976710656 (qb (qb (qb (qb l)))):Int)⟩ (af 63 l) (af 4096 (qb (qb l)):Int) (qb (qb (qb (qb (qb l)))))=q):
  zb l=sS (af 63 l) (af 281474976710656 (qb l)) (qb (qb (qb l))) q:=by
 unfold zb
 rw [if_pos ⟨h3,h0⟩,hq]
theorem Xx {cpu lost:Nat} {l:List Nat} {q:List Ev×Nat×Nat} (h:¬(q.2.2=0∧(q.1.getD 0 Ev.zero).seq=(af 281474976710656 l:Int)∧(q.1.getD 0 Ev.zero).time=(af 281474976710656 (qb l):Int)∧aF 281474976710656 l=true∧aF 281474976710656 (qb l)=true∧(qb (qb l)).length-q.2.1=0∧Bk.fits ⟨1,cpu,lost,0,q.1⟩=true)):sS cpu lost l q=none:=by
 unfold sS
 rw [if_neg]
 intro hh
 obtain ⟨h1,h2,h3,h4,h5,h6,h7⟩:=hh
 rw [List.length_drop] at h6
 have e:q.1.headD Ev.zero=q.1.getD 0 Ev.zero:=by cases q.1<;>rfl
 rw [e] at h2 h3
 exact h ⟨h1,h2,h3,h4,h5,h6,h7⟩
theorem qjx {cpu lost:Nat} {l:List Nat} {q:List Ev×Nat×Nat} (h:q.2.2=0∧(q.1.getD 0 Ev.zero).seq=(af 281474976710656 l:Int)∧(q.1.getD 0 Ev.zero).time=(af 281474976710656 (qb l):Int)∧aF 281474976710656 l=true∧aF 281474976710656 (qb l)=true∧(qb (qb l)).length-q.2.1=0∧Bk.fits ⟨1,cpu,lost,0,q.1⟩=true):sS cpu lost l q=some ⟨1,cpu,lost,0,q.1⟩:=by
 unfold sS
 rw [if_pos]
 obtain ⟨h1,h2,h3,h4,h5,h6,h7⟩:=h
 have e:q.1.headD Ev.zero=q.1.getD 0 Ev.zero:=by cases q.1<;>rfl
 rw [e,List.length_drop]
 exact ⟨h1,h2,h3,h4,h5,h6,h7⟩
theorem QN (l:List Nat):(sQ l).isSome=(aF 281474976710657 l&& (decide ((qb l).length=0)&&Bk.fits ⟨2,0,0,(af 281474976710657 l:Int),[]⟩)):=by
 unfold sQ
 split
 ·rename_i h;rw [h.1,decide_eq_true h.2.1,h.2.2];rfl
 ·rename_i h
  show false=_
  rw [eq_comm,Bool.eq_false_iff]
  intro hh
  simp only [Bool.and_eq_true,decide_eq_true_eq] at hh
  exact h ⟨hh.1,hh.2.1,hh.2.2⟩
theorem qnm {l:List Nat} (h:(sQ l).isSome=true):sQ l=some ⟨2,0,0,(af 281474976710657 l:Int),[]⟩:=by
 unfold sQ at h⊢
 split
 ·rfl
 ·rename_i h2;rw [if_neg h2] at h;cases h
theorem MJ {l:List Nat} (h:¬(rV l=true∧0<af 4096 (qb (qb l)))):(zb l).isSome=(rV l&& (decide ((qb (qb (qb l))).length=0)&&Bk.fits ⟨1,af 63 l,(af 281474976710656 (qb l):Int),0,[]⟩)):=by
 unfold zb
 rw [if_neg h]
 split
 ·rename_i h;rw [h.1,decide_eq_true h.2.1,h.2.2];rfl
 ·rename_i h
  show false=_
  rw [eq_comm,Bool.eq_false_iff]
  intro hh
  simp only [Bool.and_eq_true,decide_eq_true_eq] at hh
  exact h ⟨hh.1,hh.2.1,hh.2.2⟩
theorem Xy {l:List Nat} (h:¬(rV l=true∧0<af 4096 (qb (qb l)))) (hs:(zb l).isSome=true):zb l=some ⟨1,af 63 l,(af 281474976710656 (qb l):Int),0,[]⟩:=by
 unfold zb at hs⊢
 rw [if_neg h] at hs⊢
 split
 ·rfl
 ·rename_i h2;rw [if_neg h2] at hs;cases hs
theorem QO {cpu lost L:Nat} {l:List Nat} {es:List Ev} (h:(es.getD 0 Ev.zero).seq=(af 281474976710656 l:Int)∧(es.getD 0 Ev.zero).time=(af 281474976710656 (qb l):Int)):(sS cpu lost l (es,L,0)).isSome=((aF 281474976710656 l&&aF 281474976710656 (qb l))&& (decide ((qb (qb l)).length-L=0)&&Bk.fits ⟨1,cpu,(lost:Int),0,es⟩)):=by
 cases hc:((aF 281474976710656 l&&aF 281474976710656 (qb l))&& (decide ((qb (qb l)).length-L=0)&&Bk.fits ⟨1,cpu,(lost:Int),0,es⟩)) with
 |true=>
  simp only [Bool.and_eq_true,decide_eq_true_eq] at hc
  rw [qjx ⟨rfl,h.1,h.2,hc.1.1,hc.1.2,hc.2.1,hc.2.2⟩]
  rfl
 | false =>
  rw [Xx]
  ·rfl
  ·intro hh
   obtain ⟨h1,h2,h3,h4,h5,h6,h7⟩:=hh
   rw [h4,h5,h7,decide_eq_true h6] at hc
   cases hc
theorem qzv {cpu lost:Nat} {l:List Nat} {q:List Ev×Nat×Nat} (h:(sS cpu lost l q).isSome=true):sS cpu lost l q=some ⟨1,cpu,(lost:Int),0,q.1⟩:=by
 unfold sS at h⊢
 split
 ·rfl
 ·rename_i h2;rw [if_neg h2] at h;cases h
theorem CP.none {w w':World} {q:Option Bk} {r:Ending} (h:CP w q r w') (hq:q=none):(∃cs:Array Value,r= .returned (.tuple #[.agg cs,.bool false])∧cs.size=5∧(∀v∈cs.toList,v.oneCell'=true))∧Below w.heap.size w w':=by
 subst hq
 obtain ⟨⟨cs,h1,h2,h3,_⟩,h4⟩:=h
 exact ⟨⟨cs,h1,h2,h3⟩,h4⟩
theorem CP.some {w w':World} {q:Option Bk} {b:Bk} {r:Ending} (h:CP w q r w') (hq:q=some b):(∃A c,r= .returned (.tuple #[.agg (b.cells A c),.bool true])∧w'.ownsRow w.heap.size 32 11 (.slice A b.evs.length c) b.evs.length (b.evs.flatMap cZ)∧b.evs.length≤c)∧Below w.heap.size w w':=by
 subst hq
 obtain ⟨⟨cs,h1,h2,h3,h5⟩,h4⟩:=h
 obtain ⟨A,c,rfl,h6,h7⟩:=h5 b rfl
 exact ⟨⟨A,c,h1,h6,h7⟩,h4⟩
def QP (T:TypeId) (w:World) (q:Bk×Nat×Nat) (r:Ending) (w':World):Prop:=
 (∃A c,r= .returned (.tuple #[.agg (q.1.cells A c),.int .i64 (q.2.1:Int),.int .i64 (q.2.2:Int)])∧w'.ownsRow w.heap.size T 11 (.slice A q.1.evs.length c) q.1.evs.length (q.1.evs.flatMap cZ)∧q.1.evs.length≤c)∧Below w.heap.size w w'
theorem AL {T:TypeId} {w w':World} {q:Bk×Nat×Nat} {er:Nat} (h:q=(Bk.zero,0,er)) (hb:Below w.heap.size w w'):QP T w q (.returned (.tuple #[.agg #[.int .u8 0,.int .u8 0,.int .i64 0,.int .i64 0,.slice none 0 0],.int .i64 0,.int .i64 (er:Int)])) w':=by
 subst h
 exact ⟨⟨none,0,rfl,World.ownsRow_nil _ _ _ _,Nat.le_refl _⟩,hb⟩
theorem Xz {T:TypeId} {w w':World} {q:Bk×Nat×Nat} {b:Bk} {m c:Nat} {A:Option Addr} (h:q=(b,m,0)) (ho:w'.ownsRow w.heap.size T 11 (.slice A b.evs.length c) b.evs.length (b.evs.flatMap cZ)) (hc:b.evs.length≤c) (hb:Below w.heap.size w w'):QP T w q (.returned (.tuple #[.agg (b.cells A c),.int .i64 (m:Int),.int .i64 0])) w':=by
 subst h
 exact ⟨⟨A,c,rfl,ho,hc⟩,hb⟩
theorem qvu {l:List Nat} (h:(aG l).2≠0):bO l=(Bk.zero,0,(aG l).2):=by unfold bO;rw [if_pos h]
theorem CR {l L:List Nat} {e:Nat} (h:(aG l).2=0) (hL:L=l.take (aG l).1) (hb:dQ L=(none,e)):bO l=(Bk.zero,0,e):=by unfold bO;rw [if_neg om,←hL,hb]
theorem XA {l L:List Nat} {b:Bk} {e:Nat} (h:(aG l).2=0) (hL:L=l.take (aG l).1) (hb:dQ L=(some b,e)):bO l=(b,(aG l).1,0):=by unfold bO;rw [if_neg om,←hL,hb]
theorem XB {l:List Nat} {m1 m2 m3 m4 m5:Nat} {a b c d e:List Nat}:(((((true&&aF m1 a)&&aF m2 b)&&aF m3 c)&&aF m4 d)&&aF m5 e)=((((true&&aF m1 a)&&aF m2 b)&&aF m3 c)&& (aF m4 d&&aF m5 e)):=by
 have _:=l
 rw [Bool.and_assoc]
theorem qvz {l:List Nat} (h:(dQ l).1=none):(dQ l).2≠0:=by
 unfold dQ at h⊢
 split
 ·decide
 ·rename_i h1
  rw [if_neg h1] at h
  split
  ·decide
  ·rename_i h2
   rw [if_neg h2] at h
   split
   ·decide
   ·rename_i h3
    rw [if_neg h3] at h
    split
    ·decide
    ·rename_i h4
     rw [if_neg h4] at h
     split
     ·decide
     ·rename_i b hb
      rw [hb] at h
      cases h
structure yR (l:List Nat) (b:Bk) (m:Nat):Prop where
 ok:b.Ok
 fits:b.fits=true
 err:b.err=0
 out:b.out=l.take m
 len:m≤l.length
 evs:b.evs.length≤4096
 least:13≤m
 most:m≤4096
theorem Q4 {l : List Nat} {b : Bk} {m : Nat} (hl : ∀ x ∈ l, x < 256) (h : bO l = (b, m, 0)) : yR l b m := by
 unfold bO at h
 split at h
 ·rename_i h0;simp only [Prod.mk.injEq] at h;exact absurd h.2.2 h0
 ·rename_i h0
  obtain ⟨h1,h2,h3,h4⟩:=XN (show (aG l).2=0 by omega)
  split at h
  ·rename_i b' hb
   simp only [Prod.mk.injEq] at h
   obtain ⟨rfl,rfl,_⟩:=h
   generalize (aG l).1=n at h1 h2 h3 h4 hb
   have hL:∀x∈l.take n,x<256:=rU hl n
   have hlen:(l.take n).length=n:=by rw [List.length_take];omega
   have xR:fO (l.take n)=n:=by rw [qvx om];exact h1
   obtain ⟨L,XP⟩:∃L,L=l.take n:=⟨_,rfl⟩
   rw [←XP] at hb hL hlen xR
   unfold dQ at hb
   split at hb
   ·cases hb
   ·rename_i s1
    split at hb
    ·cases hb
    ·rename_i s2
     split at hb
     ·cases hb
     ·rename_i s3
      split at hb
      ·cases hb
      ·rename_i s4
       split at hb
       ·cases hb
       ·rename_i b'' hp
        injection hb with hb
        subst hb
        have hk:L.getD 7 0=1∨L.getD 7 0=2:=by omega
        have s2:L.getD 4 0=113∧L.getD 5 0=116:=Decidable.of_not_not s2
        obtain ⟨q1,q2,q3,q4,q5⟩:=qsv hk (uD (rU hL _) _) hp
        have sj:b''.err=0:=by
         unfold Bk.err
         rw [if_neg (by simp [q3]),if_neg (by rw [q4,List.length_drop,List.length_take];omega)]
        refine ⟨q2,q3,sj,?_,h4,q5,h2,h3⟩
        rw [←XP,QL sj,qzz hL om om s2.1 s2.2 om q1.symm q4]
        exact Qk hL (by simpa using s1)
  ·rename_i hb
   simp only [Prod.mk.injEq] at h
   exact absurd h.2.2 (qvz hb)
theorem MR (x:Nat):1≤(ah x).length:=by
 unfold ah
 rw [List.length_map]
 rcases Nat.lt_or_ge x 128 with h|h
 ·rw [Et 9 x h];simp
 ·rw [Eu 9 x h];simp
theorem qz0 (b:Bk):1≤b.body.length:=by
 unfold Bk.body
 split
 ·exact MR _
 ·have:=MR b.cpu
  simp only [List.length_append]
  omega
theorem qs3 {b:Bk} (h:b.err=0):b.out.length=12+b.body.length:=by rw [QL h,qc4,QK];omega
theorem Bf {x:eu} (h:ShAt x):∀i,i<x.ts.length→(i:Int)+1≤(x.ts.getD i Tk.zero).id
 |0,hi=>(qX (h.tk 0 hi)).1
 |i+1,hi=>by
  have h1:=Bf h i om
  have h2:=(M5 (h.tk (i+1) hi)).1
  rw [Nat.add_sub_cancel] at h2
  omega
theorem q7a {x:eu} (h:ShAt x):x.ts.length≤65535:=by
 rcases Nat.lt_or_ge 65535 x.ts.length with h1|h1
 ·have h2:=Bf h 65535 h1
  have h3:=(qX (h.tk 65535 h1)).2
  omega
 ·exact h1
theorem q4m (g:Nat) (z:Sp):(uQ g z).length≤3:=by unfold uQ;split<;>simp
theorem q4n (g:Nat) (l:List Sp):(yU g l).length≤3*l.length:=M9 (fun c=>q4m g (l.getD c Sp.zero)) _
theorem q0g {s:bT} (h:ShAt s.st):(ay s 0).length=1∧(ay s 1).length=3∧(ay s 2).length≤512∧(ay s 3).length≤64∧(ay s 4).length≤64∧(ay s 5).length≤524281∧(ay s 6).length≤49152:=by
 obtain ⟨hc1,hc2,_,hg⟩:=Dc h.Fa
 obtain ⟨hg1,hg2,_,_⟩:=MV hg
 have hcl:=h.cl
 have hcu:=h.cu
 have hrs:=h.rs
 have ht:=q7a h
 refine ⟨rfl,rfl,?_,?_,?_,?_,?_⟩
 ·have:=M9 (f:=yT s.st.gs) (m:=2) (fun i=>Nat.le_refl 2) (s.st.gs.length-1)
  show (dF (s.st.gs.length-1) (yT s.st.gs)).length≤512
  omega
 ·show (s.st.cl.map aA).length≤64
  rw [List.length_map];omega
 ·show (s.st.cu.map aA).length≤64
  rw [List.length_map];omega
 ·have:=M9 (f:=fun i=>su (qv s.st.ts i) (s.st.ts.getD i Tk.zero)) (m:=8) (fun i=>Nat.le_refl 8) s.st.ts.length
  show (dF s.st.ts.length fun i=>su (qv s.st.ts i) (s.st.ts.getD i Tk.zero)).length+1≤524281
  omega
 ·have:=Yy (f:=fun g=>yU g (s.st.rs.getD g Rw.zero).l) (m:=192) s.st.rs.length (fun g hg=>by
   have h1:=q4n g (s.st.rs.getD g Rw.zero).l
   have h2:=(M4 hg (h.row g hg)).1
   omega)
  show (dF s.st.rs.length fun g=>yU g (s.st.rs.getD g Rw.zero).l).length≤49152
  omega
theorem YN (s:bT):fw s=ay s 0++ay s 1++ay s 2++ay s 3++ay s 4++ay s 5++ay s 6:=by
 unfold fw
 rw [ql,ql,ql,ql,ql,ql,ql,IA,List.nil_append]
theorem q0h {α:Type} {f:Nat→List α} {i k:Nat} (h:i≤k):(dF i f).length≤(dF k f).length:=by
 induction k with
 |zero=>
  obtain rfl:i=0:=by omega
  exact Nat.le_refl _
 | succ k ih =>
  rcases Nat.lt_or_ge k i with h1|h1
  ·obtain rfl:i=k+1:=by omega
   exact Nat.le_refl _
  ·have:=ih h1
   rw [ql,List.length_append];omega
theorem RS {s:bT} (h:ShAt s.st):(fw s).length≤600000:=by
 obtain ⟨h0,h1,h2,h3,h4,h5,h6⟩:=q0g h
 rw [YN]
 simp only [List.length_append]
 omega
theorem YO {s:bT} (h:ShAt s.st) {i:Nat} (hi:i≤7):(dF i (ay s)).length≤600000:=Nat.le_trans (q0h hi) (RS h)
theorem q0i {s:bT} (h:ShAt s.st) {i:Nat} (hi:i<7):(ay s i).length≤600000:=by
 have:=YO h (show i+1≤7 by omega)
 rw [ql,List.length_append] at this
 omega
theorem q7b {p:Int} {t:Tk} (ht:t.Ok):∀x∈su p t,x<18446744073709551616:=by
 intro x hx
 have h1:=ht.mask
 have h2:=ht.v
 have h3:=ht.r
 simp only [su,List.mem_cons,List.not_mem_nil,or_false] at hx
 rcases hx with rfl|rfl|rfl|rfl|rfl|rfl|rfl|rfl
 ·exact uP _
 ·exact uP _
 ·exact uP _
 ·exact uP _
 ·exact h1
 ·exact q0e _
 ·exact h2
 ·omega
theorem q7c {g:Nat} {z:Sp} (hz:z.Ok):∀x∈uQ g z,x<18446744073709551616:=by
 intro x hx
 have h1:=hz.v
 have h2:=hz.r
 have h3:=hz.floor
 unfold uQ at hx
 split at hx
 ·simp only [List.cons_append,List.nil_append,List.mem_cons,List.not_mem_nil,or_false] at hx
  omega
 ·simp only [List.nil_append,List.mem_cons,List.not_mem_nil,or_false] at hx
  omega
theorem q4o {s:bT} (hok:s.st.aB.Ok) (hf:bX s.st):∀i,∀x∈ay s i,x<18446744073709551616:=by
 have hgl:=hf.g
 have htl:=hf.t
 have hcr:=hok.au
 intro i
 match i with
 |0=>intro x hx;simp only [ay,List.mem_cons,List.not_mem_nil,or_false] at hx;subst hx;exact uP _
 |1=>
  intro x hx
  simp only [ay,List.mem_cons,List.not_mem_nil,or_false] at hx
  rcases hx with rfl|rfl|rfl
  ·exact uP _
  ·exact hcr
  ·omega
 |2=>
  refine Fb _ fun i _ x hx=>?_
  simp only [yT,List.mem_cons,List.not_mem_nil,or_false] at hx
  rcases hx with rfl|rfl
  ·exact uP _
  ·exact uP _
 |3=>intro x hx;obtain ⟨y,_,rfl⟩:=List.mem_map.1 hx;exact uP _
 |4=>intro x hx;obtain ⟨y,_,rfl⟩:=List.mem_map.1 hx;exact uP _
 |5=>
  intro x hx
  rcases List.mem_cons.1 hx with rfl|hx
  ·omega
  ·exact Fb (p:=fun x=>x<18446744073709551616) _ (fun i hi=>q7b (hok.ts _ (qs Tk.zero hi))) x hx
 |6=>
  refine Fb _ fun g hg=>Fb _ fun c hc=>q7c ?_
  refine hok.sp _ (qs [] (show g<s.st.aB.sp.length from by rw [tC];exact hg)) _ ?_
  rw [jw hg]
  exact qs Sp.zero hc
 |k+7=>intro x hx;cases hx
theorem YP {s:bT} (hok:s.st.aB.Ok) (hf:bX s.st):∀x∈fw s,x<18446744073709551616:=Fb 7 fun i _=>q4o hok hf i
theorem q4p {l:List Nat}:∀b∈l.flatMap ah,b<256:=by
 intro b hb
 obtain ⟨x,_,hx⟩:=List.mem_flatMap.1 hb
 exact yC x b hx
theorem q0j (s:bT):∀b∈dB s,b<256:=by
 intro b hb
 rcases List.mem_append.1 hb with hb|hb
 ·simp only [List.mem_cons,List.not_mem_nil,or_false] at hb
  omega
 ·exact q4p b hb
theorem YQ (s:bT):(dB s).length=3+((fw s).flatMap ah).length:=by unfold dB;rw [List.length_append];rfl
theorem YR {s:bT} (h:s.next<1∨281474976710657<s.next):bL s=330:=if_pos h
theorem qwy {s:bT} (h:¬(s.next<1∨281474976710657<s.next)) (hr:oN s.st.aB=false):bL s=331:=by unfold bL;rw [if_neg h,if_pos hr]
theorem qwz {s:bT} (h:¬(s.next<1∨281474976710657<s.next)) (hr:oN s.st.aB=true):bL s=0:=by unfold bL;rw [if_neg h,if_neg (by rw [hr];decide)]
theorem Nf {s:bT} (h:bL s=0):(1≤s.next∧s.next≤281474976710657)∧oN s.st.aB=true:=by
 unfold bL at h
 split at h
 ·cases h
 ·split at h
  ·cases h
  ·rename_i h1 h2
   refine ⟨by omega,?_⟩
   cases hr:oN s.st.aB with
   |true=>rfl
   |false=>exact absurd hr h2
theorem Ng {s:bT} (h:bL s=0):ShAt s.st:=by
 have:=(Nf h).2
 unfold oN at this
 rw [Bool.and_eq_true] at this
 exact Ba this.1
def gY (s:bT):List Nat:=if bL s=0 then fw s else []
theorem Ff {s:bT} (h:bL s=0):gY s=fw s:=if_pos h
theorem q0k {s:bT} (h:bL s≠0):gY s=[]:=if_neg h
theorem Nh {s:bT} (h:bL s=0):dC s=bZ (dB s):=if_pos h
theorem YS {s:bT} (h:bL s≠0):dC s=[]:=if_neg h
theorem YT {s:bT} (h:ShAt s.st):(bZ (dB s)).length≤6000007:=by
 rw [qc4,YQ]
 have:=zu (fw s)
 have:=RS h
 omega
def RU (w:World) (er:Nat) (R:List Nat) (r:Ending) (w':World):Prop:=
 (∃A c,r= .returned (.tuple #[.slice A R.length c,.int .i64 (er:Int)])∧w'.ownsRow w.heap.size 30 1 (.slice A R.length c) R.length (R.map aK)∧R.length≤c)∧Below w.heap.size w w'
theorem qth {w w':World} {er rQ:Nat} {q R:List Nat} {A:Option Addr} {c:Nat} (he:rQ=er) (h:q=R) (ho:w'.ownsRow w.heap.size 30 1 (.slice A q.length c) q.length (q.map aK)) (hc:q.length≤c) (hb:Below w.heap.size w w'):RU w er R (.returned (.tuple #[.slice A q.length c,.int .i64 (rQ:Int)])) w':=by
 subst h;subst he
 exact ⟨⟨A,c,rfl,ho,hc⟩,hb⟩
theorem qti {w w':World} {er:Nat} {R:List Nat} (e:Int) (he:e=er) (h:R=[]) (hb:Below w.heap.size w w'):RU w er R (.returned (.tuple #[.slice none 0 0,.int .i64 e])) w':=by
 subst h;subst he
 exact ⟨⟨none,0,rfl,World.ownsRow_nil _ _ _ _,Nat.le_refl _⟩,hb⟩
theorem qtj {w w':World} {er:Nat} {R:List Nat} (e:Int) (he:e=er) (h:R=[]) (hb:Below w.heap.size w w'):zp w er R (.returned (.tuple #[.slice none 0 0,.int .i64 e])) w':=by
 subst h;subst he
 exact ⟨⟨none,0,rfl,World.ownsRow_nil _ _ _ _,Nat.le_refl _⟩,hb⟩
theorem q0l (s:bT):0<((fw s).flatMap ah).length:=by
 rw [YN,List.flatMap_append,List.flatMap_append,List.flatMap_append,List.flatMap_append,List.flatMap_append,List.flatMap_append]
 simp only [List.length_append]
 have:=MR (aA s.next)
 rw [show ay s 0=[aA s.next] from rfl,List.flatMap_cons,List.length_append]
 omega
theorem qtk {s:bT} (h:bL s=0):([113,115,1]:List Nat).map B8++((gY s).flatMap ah).map B8=(dB s).map B8:=by
 rw [Ff h];exact List.map_append.symm
theorem q7d {s:bT} (h:bL s=0):3+((gY s).flatMap ah).length=(dB s).length:=by rw [YQ,Ff h]
theorem q0m {s:bT} (h:ShAt s.st):(dB s).length≤6000003:=by
 have h1:=YT h
 rw [qc4] at h1
 omega
theorem qtl {w w':World} {er rQ:Nat} {q R:List Nat} {A:Option Addr} {c:Nat} (he:rQ=er) (h:q=R) (ho:w'.ownsRow w.heap.size 5 1 (.slice A q.length c) q.length (q.map B8)) (hc:q.length≤c) (hb:Below w.heap.size w w'):zp w er R (.returned (.tuple #[.slice A q.length c,.int .i64 (rQ:Int)])) w':=by
 subst h;subst he
 exact ⟨⟨A,c,rfl,ho,hc⟩,hb⟩
theorem YU (l:List fT):∀u∈l.flatMap dW,u.oneCell'=true:=by
 intro u hu
 obtain ⟨x,_,hx⟩:=List.mem_flatMap.1 hu
 simp only [dW,List.mem_cons,List.not_mem_nil,or_false] at hx
 rcases hx with rfl|rfl|rfl<;>rfl
def qd:fT:=⟨⟨#[104,101,97,100]⟩,0,3⟩
structure Hb where
 b:Bk
 A:Option Addr
 c:Nat
def Hb.zero:Hb:=⟨Bk.zero,none,0⟩
def hbL (h:Hb):List Value:=(h.b.cells h.A h.c).toList
theorem QQ (h:Hb):(hbL h).length=5:=rfl
def Hb.own (h:Hb):Own:=⟨h.A,h.b.evs.length,h.c,h.b.evs.flatMap cZ⟩
def fD (t:TypeId) (q:List Hb):List ag:=jr t 11 (q.map Hb.own)
def mE (w:World) (q:List Hb):Prop:=∀h∈q,Rd w w.heap.size 11 h.A h.b.evs.length (h.b.evs.flatMap cZ)
section
variable {W w w':World} {fs gs a b:List ag} {t bt:TypeId} {q:List Hb}
theorem qzw (h:Hb):fD t (q++[h])=fD t q++[.row (.slice h.A h.b.evs.length h.c) h.b.evs.length (h.b.evs.flatMap cZ) t 11]:=by
 unfold fD jr
 rw [List.map_append,List.map_append]
 rfl
theorem q3y {h:Hb} (hq:h∈q):ag.row (.slice h.A h.b.evs.length h.c) h.b.evs.length (h.b.evs.flatMap cZ) t 11∈fD t q:=List.mem_map_of_mem (List.mem_map_of_mem hq)
theorem Mem.QR (h:Mem W w fs) (hs:∀f∈fD t q,f∈fs):mE w q:=fun _ hx=>h.Ay (hs _ (q3y hx))
theorem mE.old (h:mE W q) (HM:Mem W w fs):mE w q:=fun x hx=>HM.old (h x hx)
theorem mE.at {k:Nat} (h:mE w q) (hk:k<q.length):Rd w w.heap.size 11 (q.getD k Hb.zero).A (q.getD k Hb.zero).b.evs.length ((q.getD k Hb.zero).b.evs.flatMap cZ):=by
 refine h _ ?_
 rw [List.getD_eq_getElem?_getD,List.getElem?_eq_getElem hk]
 exact List.getElem_mem hk
theorem Mem.QT {x:Bk} {A:Option Addr} {c:Nat} (h:Mem W w (.row (.slice A x.evs.length c) x.evs.length (x.evs.flatMap cZ) t 11::(a++(fD t q++b)))):Mem W w (a++(fD t (q++[⟨x,A,c⟩])++b)):=by
 refine h.perm ?_
 rw [qzw]
 have h1:(ag.row (.slice A x.evs.length c) x.evs.length (x.evs.flatMap cZ) t 11::(a++(fD t q++b))).Perm (a++ag.row (.slice A x.evs.length c) x.evs.length (x.evs.flatMap cZ) t 11::(fD t q++b)):=(List.perm_middle).symm
 refine h1.trans (List.Perm.append_left a ?_)
 rw [List.append_assoc]
 exact (List.perm_middle (l₁:=fD t q) (l₂:=b)).symm
theorem Mem.XC {f:ag} (h:Mem W w (a++b)) (k:Mem w w' (f::fD t q)):Mem W w' (f::(a++(fD t q++b))):=by
 refine (h.join k).perm (List.Perm.cons f ?_)
 show (fD t q++(a++b)).Perm _
 rw [←List.append_assoc,←List.append_assoc]
 exact List.Perm.append_right b List.perm_append_comm
end
def CS (t bt:TypeId) (w:World) (er:Nat) (bs:List Bk):Ending→World→Prop:=fun r w'=>∃A c q,r= .returned (.tuple #[.slice A bs.length c,.int .i64 (er:Int)])∧q.map Hb.b=bs∧bs.length≤c∧Mem w w' (.row (.slice A bs.length c) bs.length (q.flatMap hbL) bt 5::fD t q)
section
variable {W w:World} {fs a:List ag} {t bt:TypeId} {q:List Hb}
theorem Mem.only (h:Mem W w fs) {f:ag} (hf:f∈fs):Mem W w [f]:=⟨h.below,fun k hk=>by rw [List.mem_singleton] at hk;subst hk;exact h.holds k hf,List.pairwise_singleton _ _⟩
theorem qzx {er:Nat} {n:Int} (h:Mem W w fs) (he:n=er):CS t bt W er [] (.returned (.tuple #[.slice none 0 0,.int .i64 n])) w:=by
 subst he
 exact ⟨none,0,[],rfl,rfl,Nat.le_refl _,Mem.nil ⟨h.below,fun f hf=>absurd hf List.not_mem_nil,.nil⟩ _ _⟩
theorem q3z {A:Option Addr} {c:Nat} (h:Mem W w (.row (.slice A q.length c) q.length (q.flatMap hbL) bt 5::fD t q)) (hc:q.length≤c):CS t bt W 0 (q.map Hb.b) (.returned (.tuple #[.slice A q.length c,.int .i64 0])) w:=
 ⟨A,c,q,by rw [List.length_map];rfl,rfl,by rwa [List.length_map],by rwa [List.length_map]⟩
end
def iT (x:eu):List (List Sp):=x.rs.map Rw.l
theorem Y2 {x:eu} {g:Nat} (h:g<x.rs.length):(iT x).getD g []=(x.rs.getD g Rw.zero).l:=jw h
theorem Y3 (x:eu):(iT x).length=x.rs.length:=List.length_map ..
def vv (a b:eu):Prop:=a.az=b.az∧a.au=b.au∧a.gs=b.gs
instance IQ (a b:eu):Decidable (vv a b):=by unfold vv;infer_instance
def kw (a b:eu):Prop:=vv a b∧a.cl=b.cl∧a.cu=b.cu∧a.ts=b.ts∧iT a=iT b
instance IR (a b:eu):Decidable (kw a b):=by unfold kw;infer_instance
def dH (a b:bT):Prop:=a.next=b.next∧a.st.az=b.st.az∧a.st.au=b.st.au∧a.st.gs=b.st.gs∧a.st.cl=b.st.cl∧a.st.cu=b.st.cu∧a.st.ts=b.st.ts∧iT a.st=iT b.st
instance Ni (a b:bT):Decidable (dH a b):=by unfold dH;infer_instance
section
variable {P:Program} {Q:Exit→Act→World→Prop} {a:Act} {W w:World} {n d:Nat} {D:List Deferred} {σ:List (Nat×Value)} {o:Oper} {K:Act→World→Prop} {fs:List ag}
end
def sD (t:TypeId) (q:List Rw):List ag:=jr t 3 (q.map Rw.own)
section
variable {W w w':World} {fs gs a T:List ag} {t:TypeId} {q:List Rw}
theorem q4t {x:Rw} (hq:x∈q):ag.row (.slice x.A x.l.length x.c) x.l.length (x.l.flatMap kU) t 3∈sD t q:=List.mem_map_of_mem (List.mem_map_of_mem hq)
theorem Mem.RV {A:Option Addr} {c:Nat} {l:List Sp} (h:Mem W w (.row (.slice A l.length c) l.length (l.flatMap kU) t 3::(fs++sD t q))):Mem W w (fs++sD t (q++[⟨A,c,l⟩])):=by
 have h1:=Mem.q79 h
 unfold sD
 rw [List.map_append]
 exact h1
theorem Mem.Y4 (h:Mem W w fs) (k:Mem w w' gs):Mem W w' (fs++gs):=(h.join k).perm List.perm_append_comm
end
def nQ (x:eu):List ag:=[.row (.slice x.gA x.gs.length x.gc) x.gs.length (x.gs.flatMap iD) 166 2,.row (.slice x.lA x.cl.length x.lc) x.cl.length (x.cl.map bR) 3 1,.row (.slice x.uA x.cu.length x.uc) x.cu.length (x.cu.map bR) 3 1,.row (.slice x.tA x.ts.length x.tc) x.ts.length (x.ts.flatMap kT) 222 8,.row (.slice x.sA x.rs.length x.sc) x.rs.length (x.rs.map Rw.val) 129 1]++sD 169 x.rs
section
variable {W w w':World} {fs T:List ag} {x:eu}
theorem Mem.IU (h:Mem W w fs) (hs:∀f∈nQ x,f∈fs):eB w x:=
 ⟨h.Ay (hs _ (List.mem_of_getElem? (i:=0) (l:=nQ x) rfl)),h.Ay (hs _ (List.mem_of_getElem? (i:=1) (l:=nQ x) rfl)),h.Ay (hs _ (List.mem_of_getElem? (i:=2) (l:=nQ x) rfl)),h.Ay (hs _ (List.mem_of_getElem? (i:=3) (l:=nQ x) rfl)),h.Ay (hs _ (List.mem_of_getElem? (i:=4) (l:=nQ x) rfl)),fun y hy=>h.Ay (hs _ (List.mem_append_right _ (q4t hy)))⟩
theorem Mem.stX (n:Nat) (h:Mem W w fs) (he:fs.drop n=nQ x):eB w x:=h.IU fun f hf=>List.mem_of_mem_drop (he▸hf)
end
theorem Y5 (l:List Gr):∀u∈l.flatMap iD,u.oneCell'=true:=by
 intro u hu
 obtain ⟨x,_,hx⟩:=List.mem_flatMap.1 hu
 simp only [iD,List.mem_cons,List.not_mem_nil,or_false] at hx
 rcases hx with rfl|rfl<;>rfl
theorem Y6 (l:List Sp):∀u∈l.flatMap kU,u.oneCell'=true:=by
 intro u hu
 obtain ⟨x,_,hx⟩:=List.mem_flatMap.1 hu
 simp only [kU,List.mem_cons,List.not_mem_nil,or_false] at hx
 rcases hx with rfl|rfl|rfl<;>rfl
theorem q7e (l:List Tk):∀u∈l.flatMap kT,u.oneCell'=true:=by
 intro u hu
 obtain ⟨x,_,hx⟩:=List.mem_flatMap.1 hu
 simp only [kT,List.mem_cons,List.not_mem_nil,or_false] at hx
 rcases hx with rfl|rfl|rfl|rfl|rfl|rfl|rfl|rfl<;>rfl
theorem Y7 (l:List Int):∀u∈l.map bR,u.oneCell'=true:=by
 intro u hu
 obtain ⟨x,_,rfl⟩:=List.mem_map.1 hu
 rfl
theorem q7f (l:List Rw):∀u∈l.map Rw.val,u.oneCell'=true:=by
 intro u hu
 obtain ⟨x,_,rfl⟩:=List.mem_map.1 hu
 rfl
theorem Y8 {a b:eu} (h:kw a b):b.aB=a.aB:=by
 obtain ⟨⟨h1,h2,h3⟩,h4,h5,h6,h7⟩:=h
 unfold eu.aB
 rw [h1,h2,h3,h4,h5,h6,show a.rs.map Rw.l=b.rs.map Rw.l from h7]
theorem Nj {a b:bT} (h:dH a b):kw a.st b.st:=⟨⟨h.2.1,h.2.2.1,h.2.2.2.1⟩,h.2.2.2.2.1,h.2.2.2.2.2.1,h.2.2.2.2.2.2.1,h.2.2.2.2.2.2.2⟩
theorem vw {a b:bT} (h0:a.next=b.next) (h:kw a.st b.st):dH a b:=⟨h0,h.1.1,h.1.2.1,h.1.2.2,h.2.1,h.2.2.1,h.2.2.2.1,h.2.2.2.2⟩
theorem Y9 {a b:eu} (h:iT a=iT b):a.rs.length=b.rs.length:=by rw [←Y3 a,h,Y3]
theorem Nk {α:Type} {f g:Nat→List α}:∀k,(∀i,i<k→f i=g i)→dF k f=dF k g
 |0,_=>rfl
 |k+1,h=>by rw [ql,ql,Nk k (fun i hi=>h i om),h k om]
theorem q7g {a b:bT} (h:dH a b):∀i,ay b i=ay a i:=by
 obtain ⟨h0,h1,h2,h3,h4,h5,h6,h7⟩:=h
 intro i
 match i with
 |0=>show [aA b.next]=[aA a.next];rw [h0]
 |1=>show [aA b.st.az,b.st.au,b.st.gs.length]=[aA a.st.az,a.st.au,a.st.gs.length];rw [h1,h2,h3]
 |2=>show dF (b.st.gs.length-1) (yT b.st.gs)=dF (a.st.gs.length-1) (yT a.st.gs);rw [h3]
 |3=>show b.st.cl.map aA=a.st.cl.map aA;rw [h4]
 |4=>show b.st.cu.map aA=a.st.cu.map aA;rw [h5]
 |5=>show (b.st.ts.length::dF b.st.ts.length fun i=>su (qv b.st.ts i) (b.st.ts.getD i Tk.zero))=a.st.ts.length::dF a.st.ts.length fun i=>su (qv a.st.ts i) (a.st.ts.getD i Tk.zero);rw [h6]
 |6=>
  have hl:=Y9 h7
  show (dF b.st.rs.length fun g=>yU g (b.st.rs.getD g Rw.zero).l)=dF a.st.rs.length fun g=>yU g (a.st.rs.getD g Rw.zero).l
  rw [hl]
  exact Nk _ fun g hg=>by rw [←Y2 hg,←h7,Y2 om]
 |k+7=>rfl
theorem IV {a b:bT} (h:dH a b):bL b=bL a:=by unfold bL;rw [Y8 (Nj h),h.1]
theorem q4u {a b:bT} (h:dH a b):fw b=fw a:=Nk 7 fun i _=>q7g h i
theorem q4v {a b:bT} (h:dH a b):dB b=dB a:=by unfold dB;rw [q4u h]
theorem RX {a b:bT} (h:dH a b):dC b=dC a:=by unfold dC;rw [IV h,q4v h]
theorem qtn (a:eu):kw a a:=⟨⟨rfl,rfl,rfl⟩,rfl,rfl,rfl,rfl⟩
theorem Za {a b:eu} (h:kw a b) (hf:bX a):bX b:=by
 obtain ⟨⟨h1,h2,h3⟩,h4,h5,h6,h7⟩:=h
 refine ⟨h3▸hf.g,h4▸hf.l,h5▸hf.u,h6▸hf.t,by rw [←Y9 h7];exact hf.s,fun y hy=>?_⟩
 have h8:y.l∈iT a:=by rw [h7];exact List.mem_map_of_mem hy
 obtain ⟨z,hz,e⟩:=List.mem_map.1 h8
 rw [←e]
 exact hf.r z hz
def IW (x:eu):Prop:=x.ts.length≤60∧x.gs.length≤12∧x.rs.length≤12∧x.cl.length≤8∧x.cu.length≤8∧∀k,k<x.rs.length→(x.rs.getD k Rw.zero).l.length≤8
instance RY (x:eu):Decidable (IW x):=by unfold IW;infer_instance
def fT.zero:fT:=⟨⟨#[]⟩,0,0⟩
def fT.cells (x:fT):Array Value:= #[.string x.nm,.int .i64 (x.fr:Int),.int .i64 (x.to:Int)]
def N9 (a b c d e:Nat):bT:=⟨1,⟨1,0,some ⟨a,0,none⟩,1,[⟨0,1⟩],some ⟨b,0,none⟩,1,[0],some ⟨c,0,none⟩,1,[0],none,0,[],some ⟨e,0,none⟩,1,[⟨some ⟨d,0,none⟩,1,[⟨0,0,0⟩]⟩]⟩⟩
section
variable {w:World} {a b c d e f:Nat}
theorem wR {α:Type} {p:α→Prop} {x:α} (h:p x):∀y∈[x],p y:=fun y hy=>by rw [List.mem_singleton] at hy;subst hy;exact h
theorem q5s {α:Type} {p:α→Prop}:∀y∈([]:List α),p y:=fun y hy=>by cases hy
theorem q5t:Gr.Ok ⟨0,1⟩:=⟨by unfold bC;decide,by unfold bC;decide⟩
theorem q7v:(N9 a b c d e).st.aB.Ok:=⟨show bC 1 by unfold bC;decide,show 0<18446744073709551616 by decide,wR q5t,wR (by unfold bC;decide),wR (by unfold bC;decide),q5s,wR (wR ⟨by decide,by decide,by decide⟩)⟩
theorem q5u:bX (N9 a b c d e).st:=⟨by show 1≤1000000;decide,by show 1≤1000000;decide,by show 1≤1000000;decide,by show 0≤1000000;decide,by show 1≤1000000;decide,wR (by show 1≤1000000;decide)⟩
theorem q5v:eU (N9 a b c d e).st:=⟨Nat.le_refl 1,Nat.le_refl 1,Nat.le_refl 1,Nat.le_refl 0,Nat.le_refl 1,wR (Nat.le_refl 1)⟩
end
theorem XD (b:Bk) (hok:b.Ok) (A:Option Addr) (c B:Nat) (w:World) (hL:ax B w) (hB:B≤w.heap.size) (hr:Rd w w.heap.size 11 A b.evs.length (b.evs.flatMap cZ)) (hn:b.evs.length≤1000000):
    Calls Tryz.prog 103 #[.agg (b.cells A c)] w (zp w b.err b.out):=by
 refine (dM Tryz.func103 36) ?_
 refine (JP∘JE) fun w1 g1=>(Jp 2∘Jj∘JQ∘JP∘Jy (v:= .agg (b.cells A c)) (h:=by exact Yl.qm rfl rfl ak rfl (fun _ h=>qc (h.blk (i:=0) rfl)))∘JI (h:=by exact fun HM=>H6 b hok A c B _ (hL.mem HM hB) (HM.le hB) (HM.old hr) hn)) fun w8 hbw=>(Jp 1∘bK∘Jj) (Ju (fun dO=>?_) fun dO=>?_)
 ·
  intro a Z HM
  have hfit:b.fits=false:=by simpa using dO
  exact Jb Z HM ((JT∘JP∘Jp 2∘Jj∘JZ∘dL) fun HM=>q16 (by unfold Bk.err;rw [if_pos hfit]) de HM.below)
 intro a Z HM
 have hfit:b.fits=true:=by simpa using dO
 have hbl:=qpd b
 refine Jb Z HM ((JF∘aI∘JP∘Jy (v:= .agg (b.cells A c)) (h:=by exact Yl.qm rfl rfl ak rfl (fun _ h=>qc (h.blk (i:=0) rfl)))∘JK (h:=by exact fun HM=>qzu b hok A c B _ (hL.mem HM hB) (HM.le hB) (HM.old hr) hn hfit)) fun qV c11 yM Ib=>(Jp 1∘bK∘Jr∘Jp 1∘Jl∘Jp 1∘Jo (vI (8+((b.body).length):Nat)) (by exact uz om om)∘dR 4∘Jp 1∘gW∘Jj∘JQ∘JP∘Jp 2∘aT∘Jj) (Ji (fun mr=>?_) fun mr=>?_))
 ·
  exact (JT∘JP∘Jp 2∘Jj∘JZ∘dL) fun HM=>q16 (by unfold Bk.err;rw [if_neg (by simp [hfit]),if_pos om]) de HM.below
 refine (JF∘aI∘JP∘Jp 1∘Jv 1 [(19,vB (IntKind.u8.wrap ((8+((b.body).length)+4:Nat):Int)))]∘Jo (vB ((8+((b.body).length)+4)%256:Nat)) (by exact EJ (8+((b.body).length)+4))∘Jp 2∘Jo (vI ((8+((b.body).length)+4)/256:Nat)) (by exact yz .i64 (8+((b.body).length)+4) (j:=8) (q:=256) rfl rfl)∘Jv 1 [(22,vB (IntKind.u8.wrap (((8+((b.body).length)+4)/256:Nat):Int)))]∘Jo (vB (((8+((b.body).length)+4)/256)%256:Nat)) (by exact EJ ((8+((b.body).length)+4)/256))∘Jy (v:=vP 0 0) (h:=by exact Yl.GX (ad:=⟨0,0,none⟩) (m:=2) (y:=0) (sz:=1) rfl rfl rfl kr de)∘Jy (v:=vB 113) (h:=by exact Yl.ze rfl rfl kr (fun _ h=>(hL.mem h hB).pg))∘Jy (v:=vP 0 1) (h:=by exact Yl.GX (ad:=⟨0,0,none⟩) (m:=2) (y:=1) (sz:=1) rfl rfl rfl kr de)∘Jy (v:=vB 116) (h:=by exact Yl.ze rfl rfl kr (fun _ h=>(hL.mem h hB).pq))∘Jg 0 O1∘JU aM #[vB ((8+((b.body).length)+4)%256:Nat),vB (((8+((b.body).length)+4)/256)%256:Nat),vB 0,vB 0,vB 113,vB 116,vB 1,vB b.kind]) fun QC g29=>(Jp 1∘aN∘Jr∘Jp 2) fun a Z HM=>?_
 refine fo Z 2 rfl rfl ?_
 replace HM:=HM.fB (i:=0) (n:=8) (size:=1) rfl rfl de
 refine yw Z HM (i:=0) rfl aM rfl rfl rfl (news:=(b.body.map B8)) (HM.rd (i:=1) rfl) (Aq _) om om rfl de ?_
 clear Z HM;intro a w32 CU c32 Z HM hc32
 rw [show ((#[vB ((8+((b.body).length)+4)%256:Nat),vB (((8+((b.body).length)+4)/256)%256:Nat),vB 0,vB 0,vB 113,vB 116,vB 1,vB b.kind]).toList)++(b.body.map B8)=b.raw.map B8 from qvp om] at HM
 refine Jb Z HM ((JK (h:=by exact fun HM=>QB _ _ _ b.raw B _ (hL.mem HM hB) (HM.le hB) (HM.rd (i:=0) rfl) (QK b) om (q6u hok))) fun mV kM QA nI=>(Jx∘Jx∘Jp 2∘Jj∘JZ∘JM (.t (.f .n))) fun a Z HM=>?_)
 have sj:b.err=0:=by unfold Bk.err;rw [if_neg (by simp [hfit]),if_neg om]
 have sj:b.err=0:=by unfold Bk.err;rw [if_neg (by simp [hfit]),if_neg om]
 exact lu rfl Z rfl rfl ((by rw [sj,QL sj];exact ⟨⟨_,_,rfl,HM.own (i:=0) rfl,nI⟩,HM.below⟩))
theorem qs2 (b:Bk) (hok:b.Ok) (A:Option Addr) (c B:Nat) (w:World) (hL:ax B w) (hB:B≤w.heap.size) (hr:Rd w w.heap.size 11 A b.evs.length (b.evs.flatMap cZ)) (hn:b.evs.length≤1000000):
    Calls Tryz.prog 65 #[.agg (b.cells A c)] w (Is w (vI (b.err:Int))):=by
 refine (dM Tryz.func65 11) ?_
 exact (JP∘JE) fun w1 g1=>(Jp 1∘Jr∘Jy (v:= .agg (b.cells A c)) (h:=by exact Yl.qm rfl rfl ak rfl (fun _ h=>qc (h.blk (i:=0) rfl)))∘JK (h:=by exact fun HM=>XD b hok A c B _ (hL.mem HM hB) (HM.le hB) (HM.old hr) hn)) fun A7 c7 w7 hc7=>(Jp 1∘Jx∘Jx∘Jp 2∘aN∘Jr∘Jp 2∘bK∘Jj∘JZ) qU
theorem EZ (W w:World) (gb gk:Nat) (A:Option Addr) (n c:Nat) (l:List Nat) (jM:Bool) (most:Nat) (fr:List ag) (hl:∀b∈l,b<256) (hln:n=l.length) (hn:n≤1000000000) (hr0:Rd W W.heap.size 1 A n (l.map B8)) (hc0:n≤c) (Ic:most≤281474976710657)
    (HM:Mem W w (.blk gb #[.slice A n c] 35:: .blk gk #[.bool jM] 4::fr)):
    Calls Tryz.prog 161 #[vI most,vP gb 0,vP gk 0] w (Xu W gb gk l jM most fr):=by
 have hr:Rd W W.heap.size 1 A l.length (l.map B8):=hln▸hr0
 have hc:l.length≤c:=hln▸hc0
 refine pz Tryz.func161 [vI most,vP gb 0,vP gk 0] [(0,vI most),(1,vP gb 0),(2,vP gk 0)] fun a Z=>?_
 refine Jb Z HM ((JP∘Jp 1∘Jq) fun a Z HM=>?_)
 have hvl:=wY l
 have hvb:=F4 l hl
 have htv:=tq most l
 refine Jb Z HM ((JG∘JP∘Jc O0∘JL (h:=by exact fun HM=>LB A n c l _ (hln▸HM.old hr) hl om)) ?_)
 rintro HM _ uH ⟨rfl,hbw⟩
 refine ⟨_,rfl,_,HM.call hbw,?_⟩
 refine (Jp 1∘Jx∘Jx∘Jx∘Jp 3∘Jr∘Jc O1∘Jp 1) (Ju (fun fE=>?_) fun fE=>?_)
 ·
  refine (Jp 4) (Je (fun pG=>?_) fun pG=>?_)
  ·
   refine (Jp 2∘Jw .u64∘Jp 2∘JW fJ bg) fun nJ=>(jc∘Jr∘Jc O0∘Jp 1∘Jy (h:=by exact Yl.sliceFrom aM (j:=((ae l).2.1)) rfl rfl rfl om)∘JW bg bg) fun nK=>(jc∘Jr∘Jp 2∘Jw .u64∘Jy (v:=vQ (if (most:Int)<((ae l).1:Int) then (most:Int) else ((ae l).1:Int))) (h:=by exact Yl.min rfl rfl rfl)∘Jo (vQ (af most l)) (by rw [EX])∘Jw .i64∘Jp 1∘aN∘Jj∘JZ) fun a Z HM=>?_
   replace HM:=HM.pt (fs':=(.blk gb #[.slice (if c=((ae l).2.1) then A else A.map (·.add (((ae l).2.1)*1))) (n- ((ae l).2.1)) (c- ((ae l).2.1))] 35:: .blk gk #[.bool (decide (((ae l).1:Int)≤(most:Int)))] 4::fr)) 2 [0,1]
   replace HM:=HM.pt (fs':=(.blk gb #[.slice (if c=((ae l).2.1) then A else A.map (·.add (((ae l).2.1)*1))) (n- ((ae l).2.1)) (c- ((ae l).2.1))] 35:: .blk gk #[.bool (decide (((ae l).1:Int)≤(most:Int)))] 4::fr)) 2 [0,1]
   exact iO rfl Z rfl (QM hr hc (by rw [fE,Bool.true_and];unfold aF;rw [Bool.eq_iff_iff];simp only [decide_eq_true_eq];omega) hln HM)
  refine (Jp 5∘JW fJ bg) fun nJ=>(jc∘Jr∘Jc O0∘Jp 1∘Jy (h:=by exact Yl.sliceFrom aM (j:=((ae l).2.1)) rfl rfl rfl om)∘JW bg bg) fun nK=>(jc∘Jr∘Jp 2∘Jw .u64∘Jy (v:=vQ (if (most:Int)<((ae l).1:Int) then (most:Int) else ((ae l).1:Int))) (h:=by exact Yl.min rfl rfl rfl)∘Jo (vQ (af most l)) (by rw [EX])∘Jw .i64∘Jp 1∘aN∘Jj∘JZ) fun a Z HM=>?_
  replace HM:=HM.pt (fs':=(.blk gb #[.slice (if c=((ae l).2.1) then A else A.map (·.add (((ae l).2.1)*1))) (n- ((ae l).2.1)) (c- ((ae l).2.1))] 35:: .blk gk #[.bool false] 4::fr)) 2 [0,1]
  replace HM:=HM.pt (fs':=(.blk gb #[.slice (if c=((ae l).2.1) then A else A.map (·.add (((ae l).2.1)*1))) (n- ((ae l).2.1)) (c- ((ae l).2.1))] 35:: .blk gk #[.bool false] 4::fr)) 2 [0,1]
  exact iO rfl Z rfl (QM hr hc (by rw [Xt om,Bool.and_false]) hln HM)
 refine (Jv 9 [(24,.bool false)]∘JW fJ bg) fun nJ=>(ES∘Jr∘Jc O0∘Jp 1∘Jy (h:=by exact Yl.sliceFrom aM (j:=((ae l).2.1)) rfl rfl rfl om)∘JW bg bg) fun nK=>(ES∘Jr∘Jp 2∘Jw .u64∘Jy (v:=vQ (if (most:Int)<((ae l).1:Int) then (most:Int) else ((ae l).1:Int))) (h:=by exact Yl.min rfl rfl rfl)∘Jo (vQ (af most l)) (by rw [EX])∘Jw .i64∘Jp 1∘qR∘Jj∘JZ) fun a Z HM=>?_
 replace HM:=HM.pt (fs':=(.blk gb #[.slice (if c=((ae l).2.1) then A else A.map (·.add (((ae l).2.1)*1))) (n- ((ae l).2.1)) (c- ((ae l).2.1))] 35:: .blk gk #[.bool false] 4::fr)) 2 [0,1]
 replace HM:=HM.pt (fs':=(.blk gb #[.slice (if c=((ae l).2.1) then A else A.map (·.add (((ae l).2.1)*1))) (n- ((ae l).2.1)) (c- ((ae l).2.1))] 35:: .blk gk #[.bool false] 4::fr)) 2 [0,1]
 exact iO rfl Z rfl (QM hr hc (by rw [fE,Bool.false_and]) hln HM)
theorem MK {l:List Nat} {es:List Ev} {L er:Nat} (h3:rV l=true) (h0:0<af 4096 (qb (qb l)))
  (hq:gQ ⟨(af 281474976710656 (qb (qb (qb l))):Int),(af 281474976710656 (qb (qb (qb (qb l)))):Int)⟩ (af 63 l) (af 4096 (qb (qb l)):Int) (qb (qb (qb (qb (qb l)))))=(es,L,er)) (her:er=0):
  zb l=sS (af 63 l) (af 281474976710656 (qb l)) (qb (qb (qb l))) (es,L,0):=by
 rw [Xw h3 h0 hq,her]
theorem AO (k:Nat) (hk:k=1∨k=2) (A:Option Addr) (n c:Nat) (l:List Nat) (B:Nat) (w:World) (hL:ax B w) (hB:B≤w.heap.size) (hr:Rd w w.heap.size 1 A n (l.map B8)) (hc:n≤c) (hln:n=l.length) (hn:n≤100000000) (hl:∀b∈l,b<256):
    Calls Tryz.prog 135 #[vB k,.slice A n c] w (CP w (xy k l)):=by
 refine (lF Tryz.func135 99) ?_
 refine (JP∘CG) fun w3 g3=>(JA #[vB 0,vB 0,vI 0,vI 0,vN]) fun w4 g4=>(Jp 1∘Jr∘JA #[.bool false]) fun w6 g6=>(JW bg bg) fun QV=>(Jr∘Jy (h:=by exact Yl.makeFunc (fst:=[]) (aJ:=[vP g3 0,vP g6 0]) rfl rfl rfl)∘Jp 1∘aT∘Jr∘Jp 1∘Jy (v:= .agg #[vB k,vB 0,vI 0,vI 0,vN]) (h:=by exact Yl.build (vs:=[(0,vB k)]) rfl kr kr)∘JA #[vB 0,vB 0,vI 0,vI 0,vN]) fun w8 g8=>(JV ak bg) fun nK=>(bK∘Jj∘JQ∘JP∘Jp 2∘aT∘Jj) (Ju (fun iq=>?_) fun iq=>?_)
 ·
  intro a Z HM
  have iw:=eq_of_beq iq
  revert HM;revert a;repeat (first|clear Z|clear HM)
  intro a Z HM
  obtain rfl:k=2:=by omega
  refine Jb Z HM ((JT∘JP∘Jp 1) fun a Z HM=>?_)
  refine fo Z 1 rfl rfl ?_
  replace HM:=HM.pk (fs':=[.blk g3 #[.slice A n c] 35,.blk g6 #[.bool true] 4,.blk g8 #[vB (2:Nat),vB 0,vI 0,vI 0,vN] 59,.blk g4 #[vB 0,vB 0,vI 0,vI 0,vN] 59]) [3,1,0,2]
  have hl1:=zk hl
  refine zg Z (f:=161) (vs:=[vI 281474976710657]) (fst:=[]) (aJ:=[vP g3 0,vP g6 0]) rfl rfl rfl kr rfl de (EZ w _ g3 g6 A n c l true 281474976710657 [.blk g8 #[vB (2:Nat),vB 0,vI 0,vI 0,vN] 59,.blk g4 #[vB 0,vB 0,vI 0,vI 0,vN] 59] hl hln om hr hc om HM) ?_
  rintro _ jv ⟨rfl,ML,MM,hr1,hc1,hm⟩
  refine ⟨_,rfl,?_⟩
  replace HM:=hm
  clear Z;intro a Z
  have ht0:=tq 281474976710657 l
  have hs0:=EY l
  refine Jb Z HM ((Jf 3∘JW fA sV) fun yN=>(AA∘Jj) fun a Z HM=>?_)
  refine qP (fun aS wS=>Fr aS 99 [] [(5,.bool ((sQ l).isSome)),(18,.bool true),(8,vP g8 0),(7,.func (.func 161) #[] #[vP g3 0,vP g6 0]),(6,vP g6 0),(4,vP g4 0),(3,vP g3 0),(0,vB (2:Nat))]∧Mem w wS [.blk g3 #[.slice ML ((qb l).length) MM] 35,.blk g6 #[.bool (true&&aF 281474976710657 l)] 4,.blk g8 #[vB (2:Nat),vB 0,vI 0,vI (af 281474976710657 l),vN] 59,.blk g4 #[vB (2:Nat),vB 0,vI 0,vI (af 281474976710657 l),vN] 59]) ?_ ?_
  ·
   refine Jb Z HM ((Vs (.t (.t (.t (.f .n)))) []) fun wd6=>(Vy 0 (v:= .agg #[vB (2:Nat),vB 0,vI 0,vI (af 281474976710657 l),vN]) (h:=by exact Yl.qm rfl rfl ak rfl (fun _ h=>qc (h.blk (i:=2) rfl)))∘Vc 1 O1∘Vp [2]) fun a Z HM HS=>?_)
   rcases Z.tf 24 rfl with ⟨pI,Z⟩|⟨pI,Z⟩
   ·
    refine Vb Z HM HS ((Vc 3 O0∘Vl 4∘Vp [5,6,7]) fun a Z HM HS=>?_)
    rcases Z.tf 29 rfl with ⟨pF,Z⟩|⟨pF,Z⟩
    ·
     have hd29:=eq_of_beq pF
     refine Vb Z HM HS ((Vy 8 (v:= .agg #[vB (2:Nat),vB 0,vI 0,vI (af 281474976710657 l),vN]) (h:=by exact Yl.qm rfl rfl ak rfl (fun _ h=>qc (h.blk (i:=2) rfl)))∘VI 9 (.t (.t (.t (.f .n)))) (h:=by exact fun HM=>H6 ⟨2,0,0,(af 281474976710657 l:Int),[]⟩ (Ia ht0) none 0 B _ (hL.mem HM hB) (HM.le hB) Rd.nil (by show 0≤_;omega))) fun w31 hbw=>(Vp [10]) fun a Z HM HS=>?_)
     refine s_on Z 11 rfl (eP Z HM 3 rfl rfl rfl rfl rfl ak rfl rfl (by simp [Value.oneCell']) fun AP HM=>?_)
     refine aD (HM.pk [0,1,2]) (fun HS=>?_)
     refine Vb Z HM HS ((Vp [12]∘Vd∘aN) fun a Z HM=>?_)
     have Z:=Z.sp 5 (.bool ((sQ l).isSome)) rfl (congrArg Value.bool (by rw [QN,show aF 281474976710657 l=true by simpa using pI,decide_eq_true om,Bool.true_and,Bool.true_and]))
     exact ⟨Z.sub kr,HM.pk [0,1,2,3]⟩
    have hd29:=ne_of_beq_false pF
    refine ap Z (fun _=>HS) [8,9,10] (bt 13 [11,12]) [(32,.bool false)] fun a Z=>?_
    refine s_on Z 11 rfl (eP Z HM 3 rfl rfl rfl rfl rfl ak rfl rfl (by simp [Value.oneCell']) fun AP HM=>?_)
    refine aD (HM.pk [0,1,2]) (fun HS=>?_)
    refine ap Z (fun _=>HS) [12] (bt 13 []) [(5,.bool false)] fun a Z=>?_
    refine qh kr ?_
    have Z:=Z.sp 5 (.bool ((sQ l).isSome)) rfl (congrArg Value.bool (by rw [QN,decide_eq_false om,Bool.false_and,Bool.and_false]))
    exact ⟨Z.sub kr,HM.pk [0,1,2,3]⟩
   refine ap Z (fun _=>HS) [3,4,5,6,7,8,9,10] (bt 13 [11,12]) [(32,.bool false)] fun a Z=>?_
   refine s_on Z 11 rfl (eP Z HM 3 rfl rfl rfl rfl rfl ak rfl rfl (by simp [Value.oneCell']) fun AP HM=>?_)
   refine aD (HM.pk [0,1,2]) (fun HS=>?_)
   refine ap Z (fun _=>HS) [12] (bt 13 []) [(5,.bool false)] fun a Z=>?_
   refine qh kr ?_
   have Z:=Z.sp 5 (.bool ((sQ l).isSome)) rfl (congrArg Value.bool (by rw [QN,show aF 281474976710657 l=false by simpa using pI];rfl))
   exact ⟨Z.sub kr,HM.pk [0,1,2,3]⟩
  clear Z HM;rintro a w6 ⟨Z,HM⟩
  refine Jb Z HM ((JZ) (Ju (fun hb5=>?_) fun hb5=>?_))
  ·
   intro a Z HM
   have hfin:=hb5
   exact dP rfl Z (.cellS (i:=3) Z HM rfl rfl ak rfl) (.tmp Z rfl) (qc6 (b:=⟨2,0,0,(af 281474976710657 l:Int),[]⟩) (A:=none) (c:=0) (by rw [Xv];exact qnm hfin) (World.ownsRow_nil _ _ _ _) (Nat.le_refl _) HM.below)
  intro a Z HM
  have hfin:=hb5
  exact dP rfl Z (.cellS (i:=3) Z HM rfl rfl ak rfl) (.tmp Z rfl) (H9 (by rw [Xv];exact Option.not_isSome_iff_eq_none.1 (by rw [hfin];decide)) rfl (by simp [Value.oneCell']) HM.below)
 intro a Z HM
 have iw:=ne_of_beq_false iq
 revert HM;revert a;repeat (first|clear Z|clear HM)
 intro a Z HM
 obtain rfl:k=1:=by omega
 refine Jb Z HM ((JF∘aI∘JP∘Jp 1) fun a Z HM=>?_)
 refine fo Z 1 rfl rfl ?_
 replace HM:=HM.pk (fs':=[.blk g3 #[.slice A n c] 35,.blk g6 #[.bool true] 4,.blk g8 #[vB (1:Nat),vB 0,vI 0,vI 0,vN] 59,.blk g4 #[vB 0,vB 0,vI 0,vI 0,vN] 59]) [3,1,0,2]
 have hl1:=zk hl
 refine zg Z (f:=161) (vs:=[vI 63]) (fst:=[]) (aJ:=[vP g3 0,vP g6 0]) rfl rfl rfl kr rfl de (EZ w _ g3 g6 A n c l true 63 [.blk g8 #[vB (1:Nat),vB 0,vI 0,vI 0,vN] 59,.blk g4 #[vB 0,vB 0,vI 0,vI 0,vN] 59] hl hln om hr hc om HM) ?_
 rintro _ Ie ⟨rfl,ML,MM,hr1,hc1,hm⟩
 refine ⟨_,rfl,?_⟩
 replace HM:=hm
 clear Z;intro a Z
 have ht0:=tq 63 l
 have hs0:=EY l
 refine Jb Z HM ((Jv 1 [(35,vB (IntKind.u8.wrap (af 63 l:Int)))]∘Jo (vB (af 63 l)) (by exact q6n rfl om)∘Jp 1) fun a Z HM=>?_)
 refine fo Z 4 rfl rfl ?_
 replace HM:=HM.pk (fs':=[.blk g3 #[.slice ML ((qb l).length) MM] 35,.blk g6 #[.bool (true&&aF 63 l)] 4,.blk g8 #[vB (1:Nat),vB 0,vI 0,vI 0,vN] 59,.blk g4 #[vB 0,vB 0,vI 0,vI 0,vN] 59]) [0,1,2,3]
 have hl2:=zk hl1
 refine zg Z (f:=161) (vs:=[vI 281474976710656]) (fst:=[]) (aJ:=[vP g3 0,vP g6 0]) rfl rfl rfl kr rfl de (EZ w _ g3 g6 ML ((qb l).length) MM (qb l) (true&&aF 63 l) 281474976710656 [.blk g8 #[vB (1:Nat),vB 0,vI 0,vI 0,vN] 59,.blk g4 #[vB 0,vB 0,vI 0,vI 0,vN] 59] hl1 rfl om hr1 hc1 om HM) ?_
 rintro _ yK ⟨rfl,XE,XF,hr2,hc2,hm⟩
 refine ⟨_,rfl,?_⟩
 replace HM:=hm
 clear Z;intro a Z
 have ht1:=tq 281474976710656 (qb l)
 have hs1:=EY (qb l)
 refine Jb Z HM ((Jf 1∘JW fA fJ) fun QW=>(Jf 2∘JW fA fA) fun afK=>(jc∘Jr∘Jp 1) fun a Z HM=>?_)
 refine fo Z 1 rfl rfl ?_
 replace HM:=HM.pk (fs':=[.blk g3 #[.slice XE ((qb (qb l)).length) XF] 35,.blk g6 #[.bool ((true&&aF 63 l)&&aF 281474976710656 (qb l))] 4,.blk g8 #[vB (1:Nat),vB (af 63 l),vI (af 281474976710656 (qb l)),vI 0,vN] 59,.blk g4 #[vB 0,vB 0,vI 0,vI 0,vN] 59]) [0,1,2,3]
 have hl3:=zk hl2
 refine zg Z (f:=161) (vs:=[vI 4096]) (fst:=[]) (aJ:=[vP g3 0,vP g6 0]) rfl rfl rfl kr rfl de (EZ w _ g3 g6 XE ((qb (qb l)).length) XF (qb (qb l)) ((true&&aF 63 l)&&aF 281474976710656 (qb l)) 4096 [.blk g8 #[vB (1:Nat),vB (af 63 l),vI (af 281474976710656 (qb l)),vI 0,vN] 59,.blk g4 #[vB 0,vB 0,vI 0,vI 0,vN] 59] hl2 rfl om hr2 hc2 om HM) ?_
 rintro _ w41 ⟨rfl,MN,MO,hr3,hc3,hm⟩
 refine ⟨_,rfl,?_⟩
 replace HM:=hm
 clear Z;intro a Z
 have ht2:=tq 4096 (qb (qb l))
 have hs2:=EY (qb (qb l))
 refine Jb Z HM ((Jp 1∘fC∘Jj∘JQ∘JP∘Jc O1∘Jp 1) (Ju (fun pJ=>?_) fun pJ=>?_))
 ·
  intro a Z HM
  have h3:rV l=true:=by rw [←AJ];exact pJ
  refine Jb Z HM ((Jp 3∘gW∘Jj) (Ji (fun CV=>?_) fun CV=>?_))
  ·
   refine (JT∘JP∘Jp 1) fun a Z HM=>?_
   refine fo Z 1 rfl rfl ?_
   replace HM:=HM.pk (fs':=[.blk g3 #[.slice MN ((qb (qb (qb l))).length) MO] 35,.blk g6 #[.bool (((true&&aF 63 l)&&aF 281474976710656 (qb l))&&aF 4096 (qb (qb l)))] 4,.blk g8 #[vB (1:Nat),vB (af 63 l),vI (af 281474976710656 (qb l)),vI 0,vN] 59,.blk g4 #[vB 0,vB 0,vI 0,vI 0,vN] 59]) [0,1,2,3]
   have hl4:=zk hl3
   refine zg Z (f:=161) (vs:=[vI 281474976710656]) (fst:=[]) (aJ:=[vP g3 0,vP g6 0]) rfl rfl rfl kr rfl de (EZ w _ g3 g6 MN ((qb (qb (qb l))).length) MO (qb (qb (qb l))) (((true&&aF 63 l)&&aF 281474976710656 (qb l))&&aF 4096 (qb (qb l))) 281474976710656 [.blk g8 #[vB (1:Nat),vB (af 63 l),vI (af 281474976710656 (qb l)),vI 0,vN] 59,.blk g4 #[vB 0,vB 0,vI 0,vI 0,vN] 59] hl3 rfl om hr3 hc3 om HM) ?_
   rintro _ MG ⟨rfl,XG,XH,hr4,hc4,hm⟩
   refine ⟨_,rfl,?_⟩
   replace HM:=hm
   clear Z;intro a Z
   have ht3:=tq 281474976710656 (qb (qb (qb l)))
   have hs3:=EY (qb (qb (qb l)))
   refine Jb Z HM ((Jp 1) fun a Z HM=>?_)
   refine fo Z 3 rfl rfl ?_
   replace HM:=HM.pk (fs':=[.blk g3 #[.slice XG ((qb (qb (qb (qb l)))).length) XH] 35,.blk g6 #[.bool ((((true&&aF 63 l)&&aF 281474976710656 (qb l))&&aF 4096 (qb (qb l)))&&aF 281474976710656 (qb (qb (qb l))))] 4,.blk g8 #[vB (1:Nat),vB (af 63 l),vI (af 281474976710656 (qb l)),vI 0,vN] 59,.blk g4 #[vB 0,vB 0,vI 0,vI 0,vN] 59]) [0,1,2,3]
   have hl5:=zk hl4
   refine zg Z (f:=161) (vs:=[vI 281474976710656]) (fst:=[]) (aJ:=[vP g3 0,vP g6 0]) rfl rfl rfl kr rfl de (EZ w _ g3 g6 XG ((qb (qb (qb (qb l)))).length) XH (qb (qb (qb (qb l)))) ((((true&&aF 63 l)&&aF 281474976710656 (qb l))&&aF 4096 (qb (qb l)))&&aF 281474976710656 (qb (qb (qb l)))) 281474976710656 [.blk g8 #[vB (1:Nat),vB (af 63 l),vI (af 281474976710656 (qb l)),vI 0,vN] 59,.blk g4 #[vB 0,vB 0,vI 0,vI 0,vN] 59] hl4 rfl om hr4 hc4 om HM) ?_
   rintro _ MH ⟨rfl,MP,MQ,Ol,hc5,hm⟩
   refine ⟨_,rfl,?_⟩
   replace HM:=hm
   clear Z;intro a Z
   have ht4:=tq 281474976710656 (qb (qb (qb (qb l))))
   have hs4:=EY (qb (qb (qb (qb l))))
   refine Jb Z HM ((Jy (v:= .agg #[vI (af 281474976710656 (qb (qb (qb l)))),vI (af 281474976710656 (qb (qb (qb (qb l)))))]) (h:=by exact Yl.build (vs:=[(0,vI (af 281474976710656 (qb (qb (qb l))))),(1,vI (af 281474976710656 (qb (qb (qb (qb l))))))]) rfl kr kr)∘JA #[vI 0,vI 0]) fun uH g10=>(JV ⟨kr,kr⟩ bg) fun XI=>(qR∘Jq) fun a Z HM=>?_)
   obtain ⟨es,L,er,hq⟩:∃es L er,gQ ⟨(af 281474976710656 (qb (qb (qb l))):Int),(af 281474976710656 (qb (qb (qb (qb l)))):Int)⟩ (af 63 l) (af 4096 (qb (qb l)):Int) (qb (qb (qb (qb (qb l)))))=(es,L,er):=⟨_,_,_,rfl⟩
   refine Jb Z HM ((JG∘JP∘Jy (v:= .agg #[vI (af 281474976710656 (qb (qb (qb l)))),vI (af 281474976710656 (qb (qb (qb (qb l)))))]) (h:=by exact Yl.qm rfl rfl ⟨kr,kr⟩ rfl (fun _ h=>qc (h.blk (i:=0) rfl)))∘Jg 1 O3∘Jp 1∘Jc O1∘JK (h:=by exact fun HM=>q3r ⟨(af 281474976710656 (qb (qb (qb l))):Int),(af 281474976710656 (qb (qb (qb (qb l)))):Int)⟩ (af 63 l) om MP ((qb (qb (qb (qb (qb l))))).length) MQ (af 4096 (qb (qb l)):Int) (by unfold bC;omega) (qb (qb (qb (qb (qb l))))) B _ (hL.mem HM hB).laid (HM.le hB) (HM.old Ol) hc5 hl5 om (.inl om) hq)) fun uJ tu w58 QX=>(Jp 1∘Jx∘Jx∘Jx∘Jp 3∘Jj∘JQ) fun a Z HM=>?_)
   refine qP (fun aS wS=>Fr aS 99 [] [(81,.bool (!(decide (er=0∧(es.getD 0 Ev.zero).seq=(af 281474976710656 (qb (qb (qb l))):Int)∧(es.getD 0 Ev.zero).time=(af 281474976710656 (qb (qb (qb (qb l)))):Int))))),(12,vI L),(11,.slice uJ es.length tu),(10,vP g10 0),(46,.bool true),(9,vI (af 4096 (qb (qb l)))),(18,.bool false),(8,vP g8 0),(7,.func (.func 161) #[] #[vP g3 0,vP g6 0]),(6,vP g6 0),(5,.bool false),(4,vP g4 0),(3,vP g3 0),(0,vB (1:Nat))]∧Mem w wS [.row (.slice uJ es.length tu) es.length (es.flatMap cZ) 32 11,.blk g10 #[vI (af 281474976710656 (qb (qb (qb l)))),vI (af 281474976710656 (qb (qb (qb (qb l)))))] 229,.blk g3 #[.slice MP ((qb (qb (qb (qb (qb l))))).length) MQ] 35,.blk g6 #[.bool (((((true&&aF 63 l)&&aF 281474976710656 (qb l))&&aF 4096 (qb (qb l)))&&aF 281474976710656 (qb (qb (qb l))))&&aF 281474976710656 (qb (qb (qb (qb l)))))] 4,.blk g8 #[vB (1:Nat),vB (af 63 l),vI (af 281474976710656 (qb l)),vI 0,vN] 59,.blk g4 #[vB 0,vB 0,vI 0,vI 0,vN] 59]) ?_ ?_
   ·
    refine Jb Z HM ((Vs .n []) fun afN=>(Vp [0,1,2]) fun a Z HM HS=>?_)
    rcases Z.tf 64 rfl with ⟨CW,Z⟩|⟨CW,Z⟩
    ·
     have QY:=bne_iff_ne.1 CW
     refine Vb Z HM HS ((Vq [3,4,5,6,7,8,9,10,11,12,13,14,15,16,17,18,19] [(81,.bool true)]∘Vd∘qR) fun a Z HM=>?_)
     have Z:=Z.sp 81 (.bool (!(decide (er=0∧(es.getD 0 Ev.zero).seq=(af 281474976710656 (qb (qb (qb l))):Int)∧(es.getD 0 Ev.zero).time=(af 281474976710656 (qb (qb (qb (qb l)))):Int))))) rfl (congrArg Value.bool (by rw [decide_eq_false om];rfl))
     exact ⟨Z.sub kr,HM.pk [0,1,2,3,4,5]⟩
    have QY:=bne_eq_false_iff_eq.1 CW
    have her:er=0:=by omega
    have hq0:=hq;rw [her] at hq0;obtain ⟨rw1,rw2,rw3,rw4,XJ⟩:=Qg (cpu:=af 63 l) om hl5 hq0
    refine ap Z (fun _=>HS) [3,7] (bf 20 [0,1,2,3,7]) [(69,vP g10 0),(65,.slice uJ es.length tu)] fun a Z=>?_
    revert HM;revert a;repeat (first|clear Z|clear HM)
    intro a Z HM
    obtain ⟨pK,rfl⟩:=qc2 (HM.own (i:=0) rfl) (Nat.lt_of_le_of_lt (Nat.zero_le _) (show 0<es.length from by omega))
    refine nG Z HS 4 rfl (v:=vP pK 0) (Yl.indexAddr (ad:=⟨pK,0,none⟩) (y:=0) (sz:=11) rfl rfl rfl om kr) fun a Z=>?_
    refine ap Z (fun _=>HS) [5] (bf 20 [0,1,2,3,4,5,7]) [(67,vP pK 0)] fun a Z=>?_
    refine nG Z HS 6 rfl (v:=vI ((es.getD 0 Ev.zero).seq)) (Yl.ze rfl rfl kr (fun _ h=>(by have:=h.Ap nu (i:=0) rfl (k:=0) (off:=0) (x:=(es.getD 0 Ev.zero)) ((getD_at Ev.zero (k:=0) (by first|omega|(simp;omega)))) rfl;simpa using this))) fun a Z=>?_
    refine eY Z HS 8 1 fun a Z=>?_
    refine ap Z (fun _=>HS) [9,10,11] (bt 20 [12,13,14,15,16,17,18,19]) [(73,.bool (((es.getD 0 Ev.zero).seq:Int) !=(af 281474976710656 (qb (qb (qb l))):Int)))] fun a Z=>?_
    refine Jb Z HM (Jh (fun QZ=>?_) fun QZ=>?_)
    ·
     intro a Z HM
     refine ap Z (fun _=>HS) [12,13,14,15,16,17,18,19] (bt 20 []) [(81,.bool true)] fun a Z=>?_
     refine qh kr ?_
     have Z:=Z.sp 81 (.bool (!(decide (er=0∧(es.getD 0 Ev.zero).seq=(af 281474976710656 (qb (qb (qb l))):Int)∧(es.getD 0 Ev.zero).time=(af 281474976710656 (qb (qb (qb (qb l)))):Int))))) rfl (congrArg Value.bool (by rw [decide_eq_false om];rfl))
     exact ⟨Z.sub kr,HM.pk [0,1,2,3,4,5]⟩
    intro a Z HM
    refine ap Z (fun _=>HS) [12,16] (bt 20 [13,14,15,17,18,19]) [(78,vP g10 1),(74,vS pK es.length tu)] fun a Z=>?_
    refine nG Z HS 13 rfl (v:=vP pK 0) (Yl.indexAddr (ad:=⟨pK,0,none⟩) (y:=0) (sz:=11) rfl rfl rfl om kr) fun a Z=>?_
    refine ap Z (fun _=>HS) [14] (bt 20 [15,17,18,19]) [(76,vP pK 1)] fun a Z=>?_
    refine nG Z HS 15 rfl (v:=vI ((es.getD 0 Ev.zero).time)) (Yl.ze rfl rfl kr (fun _ h=>h.Ap nu (i:=0) rfl (k:=0) (off:=1) (x:=(es.getD 0 Ev.zero)) ((getD_at Ev.zero (k:=0) (by first|omega|(simp;omega)))) rfl)) fun a Z=>?_
    refine eY Z HS 17 1 fun a Z=>?_
    refine ap Z (fun _=>HS) [18,19] (bt 20 []) [(81,.bool (((es.getD 0 Ev.zero).time:Int) !=(af 281474976710656 (qb (qb (qb (qb l)))):Int)))] fun a Z=>?_
    refine qh kr ?_
    have Z:=Z.sp 81 (.bool (!(decide (er=0∧(es.getD 0 Ev.zero).seq=(af 281474976710656 (qb (qb (qb l))):Int)∧(es.getD 0 Ev.zero).time=(af 281474976710656 (qb (qb (qb (qb l)))):Int))))) rfl (congrArg Value.bool (by rw [Bool.eq_iff_iff,bne_iff_ne,Bool.not_eq_true',decide_eq_false_iff_not];omega))
    exact ⟨Z.sub kr,HM.pk [0,1,2,3,4,5]⟩
   clear Z HM;rintro a EW ⟨Z,HM⟩
   refine Jb Z HM (Ju (fun pM=>?_) fun pM=>?_)
   ·
    intro a Z HM
    have CX:=of_decide_eq_false ((Bool.not_eq_true' _).mp pM)
    have hz:¬(er=0∧(es.getD 0 Ev.zero).seq=(af 281474976710656 (qb (qb (qb l))):Int)∧(es.getD 0 Ev.zero).time=(af 281474976710656 (qb (qb (qb (qb l)))):Int)):=fun hh=>by rw [decide_eq_true hh] at pM;cases pM
    refine Jb Z HM ((JT∘JP∘Jy (v:= .agg #[vB 0,vB 0,vI 0,vI 0,vN]) (h:=by exact Yl.build (vs:=[]) rfl kr kr)∘JV ak yG) fun XK=>(Jp 1∘aT∘Jj∘JZ) fun a Z HM=>?_)
    exact dP rfl Z (.cellS (i:=5) Z HM rfl rfl ak rfl) (.tmp Z rfl) (H9 (by rw [CQ,Xw h3 om hq];exact Xx (fun hh=>hz ⟨hh.1,hh.2.1,hh.2.2.1⟩)) rfl (by simp [Value.oneCell']) HM.below)
   intro a Z HM
   have CX:=of_decide_eq_true ((Bool.not_eq_false' _).mp pM)
   have hz:er=0∧(es.getD 0 Ev.zero).seq=(af 281474976710656 (qb (qb (qb l))):Int)∧(es.getD 0 Ev.zero).time=(af 281474976710656 (qb (qb (qb (qb l)))):Int):=Decidable.byContradiction fun hh=>by rw [decide_eq_false hh] at pM;cases pM
   have her:=hz.1
   have hq0:=hq;rw [her] at hq0;obtain ⟨rw1,rw2,rw3,rw4,XJ⟩:=Qg (cpu:=af 63 l) om hl5 hq0
   refine Jb Z HM ((JF∘aI∘Vs (.t (.t (.t (.t (.f .n))))) [6]) fun CY=>(Vp [0,2]∘Vf 4 4∘Vc 1 O2∘Vy 3 (h:=by exact Yl.sliceFrom aM (j:=L) rfl rfl rfl om)) fun a Z HM HS=>?_)
   refine s_on Z 5 rfl (iN Z HM 4 fun XL HM=>?_)
   refine aD (HM.pk [0,1,2,3,5]) (fun HS=>?_)
   refine s_on Z 6 rfl (iN Z HM 2 fun Ig HM=>?_)
   refine jZ kr ?_
   refine qh kr ?_
   refine qP (fun aS wS=>Fr aS 99 [] [(5,.bool ((zb l).isSome)),(81,.bool false),(11,.slice uJ es.length tu),(10,vP g10 0),(46,.bool true),(9,vI (af 4096 (qb (qb l)))),(18,.bool false),(8,vP g8 0),(7,.func (.func 161) #[] #[vP g3 0,vP g6 0]),(6,vP g6 0),(4,vP g4 0),(3,vP g3 0),(0,vB (1:Nat))]∧Mem w wS [.row (.slice uJ es.length tu) es.length (es.flatMap cZ) 32 11,.blk g10 #[vI (af 281474976710656 (qb (qb (qb l)))),vI (af 281474976710656 (qb (qb (qb (qb l)))))] 229,.blk g3 #[.slice (if MQ=L then MP else MP.map (·.add (L*1))) (((qb (qb (qb (qb (qb l))))).length)-L) (MQ-L)] 35,.blk g6 #[.bool (((((true&&aF 63 l)&&aF 281474976710656 (qb l))&&aF 4096 (qb (qb l)))&&aF 281474976710656 (qb (qb (qb l))))&&aF 281474976710656 (qb (qb (qb (qb l)))))] 4,.blk g8 #[vB (1:Nat),vB (af 63 l),vI (af 281474976710656 (qb l)),vI 0,.slice uJ es.length tu] 59,.blk g4 #[vB (1:Nat),vB (af 63 l),vI (af 281474976710656 (qb l)),vI 0,.slice uJ es.length tu] 59]) ?_ ?_
   ·
    refine Jb Z HM ((Vs (.t (.t (.t (.t (.t (.f .n)))))) []) fun CZ=>(Vy 0 (v:= .agg #[vB (1:Nat),vB (af 63 l),vI (af 281474976710656 (qb l)),vI 0,.slice uJ es.length tu]) (h:=by exact Yl.qm rfl rfl ak rfl (fun _ h=>qc (h.blk (i:=4) rfl)))∘Vc 1 O3∘Vp [2]) fun a Z HM HS=>?_)
    rcases Z.tf 90 rfl with ⟨kg,Z⟩|⟨kg,Z⟩
    ·
     refine Vb Z HM HS ((Vc 3 O2∘Vl 4∘Vp [5,6,7]) fun a Z HM HS=>?_)
     rcases Z.tf 95 rfl with ⟨iy,Z⟩|⟨iy,Z⟩
     ·
      have hd95:=eq_of_beq iy
      refine Vb Z HM HS ((Vy 8 (v:= .agg #[vB (1:Nat),vB (af 63 l),vI (af 281474976710656 (qb l)),vI 0,.slice uJ es.length tu]) (h:=by exact Yl.qm rfl rfl ak rfl (fun _ h=>qc (h.blk (i:=4) rfl)))∘VI 9 (.t (.t (.t (.t (.t (.f .n)))))) (h:=by exact fun HM=>H6 ⟨1,af 63 l,(af 281474976710656 (qb l):Int),0,es⟩ (uI om om (fun e he=>(XJ e he).1)) uJ tu B _ (hL.mem HM hB) (HM.le hB) (HM.rd (i:=0) rfl) (by show es.length≤_;omega))) fun XM hbw=>(Vp [10]) fun a Z HM HS=>?_)
      refine s_on Z 11 rfl (eP Z HM 5 rfl rfl rfl rfl rfl ak rfl rfl (by simp [Value.oneCell']) fun gq HM=>?_)
      refine aD (HM.pk [0,1,2,3,4]) (fun HS=>?_)
      refine Vb Z HM HS ((Vp [12]∘Vd∘aN) fun a Z HM=>?_)
      have Z:=Z.sp 5 (.bool ((zb l).isSome)) rfl (congrArg Value.bool (by rw [MK h3 om hq her,QO ⟨hz.2.1,hz.2.2⟩,show (aF 281474976710656 (qb (qb (qb l)))&&aF 281474976710656 (qb (qb (qb (qb l)))))=true by have h9:=kg;rw [XB (l:=l),AJ,h3,Bool.true_and] at h9;exact h9,decide_eq_true om,Bool.true_and,Bool.true_and]))
      exact ⟨Z.sub kr,HM.pk [0,1,2,3,4,5]⟩
     have hd95:=ne_of_beq_false iy
     refine ap Z (fun _=>HS) [8,9,10] (bt 13 [11,12]) [(98,.bool false)] fun a Z=>?_
     refine s_on Z 11 rfl (eP Z HM 5 rfl rfl rfl rfl rfl ak rfl rfl (by simp [Value.oneCell']) fun gq HM=>?_)
     refine aD (HM.pk [0,1,2,3,4]) (fun HS=>?_)
     refine ap Z (fun _=>HS) [12] (bt 13 []) [(5,.bool false)] fun a Z=>?_
     refine qh kr ?_
     have Z:=Z.sp 5 (.bool ((zb l).isSome)) rfl (congrArg Value.bool (by rw [MK h3 om hq her,QO ⟨hz.2.1,hz.2.2⟩,decide_eq_false om,Bool.false_and,Bool.and_false]))
     exact ⟨Z.sub kr,HM.pk [0,1,2,3,4,5]⟩
    refine ap Z (fun _=>HS) [3,4,5,6,7,8,9,10] (bt 13 [11,12]) [(98,.bool false)] fun a Z=>?_
    refine s_on Z 11 rfl (eP Z HM 5 rfl rfl rfl rfl rfl ak rfl rfl (by simp [Value.oneCell']) fun gq HM=>?_)
    refine aD (HM.pk [0,1,2,3,4]) (fun HS=>?_)
    refine ap Z (fun _=>HS) [12] (bt 13 []) [(5,.bool false)] fun a Z=>?_
    refine qh kr ?_
    have Z:=Z.sp 5 (.bool ((zb l).isSome)) rfl (congrArg Value.bool (by rw [MK h3 om hq her,QO ⟨hz.2.1,hz.2.2⟩,show (aF 281474976710656 (qb (qb (qb l)))&&aF 281474976710656 (qb (qb (qb (qb l)))))=false by have h9:=kg;rw [XB (l:=l),AJ,h3,Bool.true_and] at h9;exact h9,Bool.false_and]))
    exact ⟨Z.sub kr,HM.pk [0,1,2,3,4,5]⟩
   clear Z HM;rintro a Ih ⟨Z,HM⟩
   refine Jb Z HM ((JZ) (Ju (fun hb5=>?_) fun hb5=>?_))
   ·
    intro a Z HM
    have hfin:=hb5
    exact dP rfl Z (.cellS (i:=5) Z HM rfl rfl ak rfl) (.tmp Z rfl) (qc6 (b:=⟨1,af 63 l,(af 281474976710656 (qb l):Int),0,es⟩) (A:=uJ) (c:=tu) (by rw [CQ];rw [MK h3 om hq her] at hfin⊢;exact qzv hfin) (HM.own (i:=0) rfl) QX HM.below)
   intro a Z HM
   have hfin:=hb5
   exact dP rfl Z (.cellS (i:=5) Z HM rfl rfl ak rfl) (.tmp Z rfl) (H9 (by rw [CQ];exact Option.not_isSome_iff_eq_none.1 (by rw [hfin];decide)) rfl (by simp [Value.oneCell']) HM.below)
  refine (JF∘aI) fun a Z HM=>?_
  refine qP (fun aS wS=>Fr aS 99 [] [(5,.bool ((zb l).isSome)),(46,.bool false),(9,vI (af 4096 (qb (qb l)))),(18,.bool false),(8,vP g8 0),(7,.func (.func 161) #[] #[vP g3 0,vP g6 0]),(6,vP g6 0),(4,vP g4 0),(3,vP g3 0),(0,vB (1:Nat))]∧Mem w wS [.blk g3 #[.slice MN ((qb (qb (qb l))).length) MO] 35,.blk g6 #[.bool (((true&&aF 63 l)&&aF 281474976710656 (qb l))&&aF 4096 (qb (qb l)))] 4,.blk g8 #[vB (1:Nat),vB (af 63 l),vI (af 281474976710656 (qb l)),vI 0,vN] 59,.blk g4 #[vB (1:Nat),vB (af 63 l),vI (af 281474976710656 (qb l)),vI 0,vN] 59]) ?_ ?_
  ·
   refine Jb Z HM ((Vs (.t (.t (.t (.f .n)))) []) fun CZ=>(Vy 0 (v:= .agg #[vB (1:Nat),vB (af 63 l),vI (af 281474976710656 (qb l)),vI 0,vN]) (h:=by exact Yl.qm rfl rfl ak rfl (fun _ h=>qc (h.blk (i:=2) rfl)))∘Vc 1 O1∘Vp [2]) fun a Z HM HS=>?_)
   rcases Z.tf 90 rfl with ⟨kg,Z⟩|⟨kg,Z⟩
   ·
    refine Vb Z HM HS ((Vc 3 O0∘Vl 4∘Vp [5,6,7]) fun a Z HM HS=>?_)
    rcases Z.tf 95 rfl with ⟨iy,Z⟩|⟨iy,Z⟩
    ·
     have hd95:=eq_of_beq iy
     refine Vb Z HM HS ((Vy 8 (v:= .agg #[vB (1:Nat),vB (af 63 l),vI (af 281474976710656 (qb l)),vI 0,vN]) (h:=by exact Yl.qm rfl rfl ak rfl (fun _ h=>qc (h.blk (i:=2) rfl)))∘VI 9 (.t (.t (.t (.f .n)))) (h:=by exact fun HM=>H6 ⟨1,af 63 l,(af 281474976710656 (qb l):Int),0,[]⟩ (uI om om (by simp)) none 0 B _ (hL.mem HM hB) (HM.le hB) Rd.nil (by show 0≤_;omega))) fun XM hbw=>(Vp [10]) fun a Z HM HS=>?_)
     refine s_on Z 11 rfl (eP Z HM 3 rfl rfl rfl rfl rfl ak rfl rfl (by simp [Value.oneCell']) fun gq HM=>?_)
     refine aD (HM.pk [0,1,2]) (fun HS=>?_)
     refine Vb Z HM HS ((Vp [12]∘Vd∘aN) fun a Z HM=>?_)
     have Z:=Z.sp 5 (.bool ((zb l).isSome)) rfl (congrArg Value.bool (by rw [MJ (l:=l) (fun hh=>by have h0:=hh.2;omega),h3,decide_eq_true om,Bool.true_and,Bool.true_and]))
     exact ⟨Z.sub kr,HM.pk [0,1,2,3]⟩
    have hd95:=ne_of_beq_false iy
    refine ap Z (fun _=>HS) [8,9,10] (bt 13 [11,12]) [(98,.bool false)] fun a Z=>?_
    refine s_on Z 11 rfl (eP Z HM 3 rfl rfl rfl rfl rfl ak rfl rfl (by simp [Value.oneCell']) fun gq HM=>?_)
    refine aD (HM.pk [0,1,2]) (fun HS=>?_)
    refine ap Z (fun _=>HS) [12] (bt 13 []) [(5,.bool false)] fun a Z=>?_
    refine qh kr ?_
    have Z:=Z.sp 5 (.bool ((zb l).isSome)) rfl (congrArg Value.bool (by rw [MJ (l:=l) (fun hh=>by have h0:=hh.2;omega),decide_eq_false om,Bool.false_and,Bool.and_false]))
    exact ⟨Z.sub kr,HM.pk [0,1,2,3]⟩
   refine ap Z (fun _=>HS) [3,4,5,6,7,8,9,10] (bt 13 [11,12]) [(98,.bool false)] fun a Z=>?_
   refine s_on Z 11 rfl (eP Z HM 3 rfl rfl rfl rfl rfl ak rfl rfl (by simp [Value.oneCell']) fun gq HM=>?_)
   refine aD (HM.pk [0,1,2]) (fun HS=>?_)
   refine ap Z (fun _=>HS) [12] (bt 13 []) [(5,.bool false)] fun a Z=>?_
   refine qh kr ?_
   have Z:=Z.sp 5 (.bool ((zb l).isSome)) rfl (congrArg Value.bool (by have h9:=kg;rw [AJ] at h9;rw [MJ (l:=l) (fun hh=>by have h0:=hh.2;omega),h9,Bool.false_and]))
   exact ⟨Z.sub kr,HM.pk [0,1,2,3]⟩
  clear Z HM;rintro a Ih ⟨Z,HM⟩
  refine Jb Z HM ((JZ) (Ju (fun hb5=>?_) fun hb5=>?_))
  ·
   intro a Z HM
   have hfin:=hb5
   exact dP rfl Z (.cellS (i:=3) Z HM rfl rfl ak rfl) (.tmp Z rfl) (qc6 (b:=⟨1,af 63 l,(af 281474976710656 (qb l):Int),0,[]⟩) (A:=none) (c:=0) (by rw [CQ];exact Xy (fun hh=>by have h0:=hh.2;omega) hfin) (World.ownsRow_nil _ _ _ _) (Nat.le_refl _) HM.below)
  intro a Z HM
  have hfin:=hb5
  exact dP rfl Z (.cellS (i:=3) Z HM rfl rfl ak rfl) (.tmp Z rfl) (H9 (by rw [CQ];exact Option.not_isSome_iff_eq_none.1 (by rw [hfin];decide)) rfl (by simp [Value.oneCell']) HM.below)
 intro a Z HM
 have h3:rV l=false:=by rw [←AJ];exact pJ
 refine Jb Z HM ((Jp 3∘gW∘Jj∘JF∘aI) fun a Z HM=>?_)
 refine qP (fun aS wS=>Fr aS 99 [] [(5,.bool ((zb l).isSome)),(46,.bool false),(9,vI (af 4096 (qb (qb l)))),(18,.bool false),(8,vP g8 0),(7,.func (.func 161) #[] #[vP g3 0,vP g6 0]),(6,vP g6 0),(4,vP g4 0),(3,vP g3 0),(0,vB (1:Nat))]∧Mem w wS [.blk g3 #[.slice MN ((qb (qb (qb l))).length) MO] 35,.blk g6 #[.bool (((true&&aF 63 l)&&aF 281474976710656 (qb l))&&aF 4096 (qb (qb l)))] 4,.blk g8 #[vB (1:Nat),vB (af 63 l),vI (af 281474976710656 (qb l)),vI 0,vN] 59,.blk g4 #[vB (1:Nat),vB (af 63 l),vI (af 281474976710656 (qb l)),vI 0,vN] 59]) ?_ ?_
 ·
  refine Jb Z HM ((Vs (.t (.t (.t (.f .n)))) []) fun CZ=>(Vy 0 (v:= .agg #[vB (1:Nat),vB (af 63 l),vI (af 281474976710656 (qb l)),vI 0,vN]) (h:=by exact Yl.qm rfl rfl ak rfl (fun _ h=>qc (h.blk (i:=2) rfl)))∘Vc 1 O1∘Vp [2]) fun a Z HM HS=>?_)
  rcases Z.tf 90 rfl with ⟨kg,Z⟩|⟨kg,Z⟩
  ·
   refine Vb Z HM HS ((Vc 3 O0∘Vl 4∘Vp [5,6,7]) fun a Z HM HS=>?_)
   rcases Z.tf 95 rfl with ⟨iy,Z⟩|⟨iy,Z⟩
   ·
    have hd95:=eq_of_beq iy
    refine Vb Z HM HS ((Vy 8 (v:= .agg #[vB (1:Nat),vB (af 63 l),vI (af 281474976710656 (qb l)),vI 0,vN]) (h:=by exact Yl.qm rfl rfl ak rfl (fun _ h=>qc (h.blk (i:=2) rfl)))∘VI 9 (.t (.t (.t (.f .n)))) (h:=by exact fun HM=>H6 ⟨1,af 63 l,(af 281474976710656 (qb l):Int),0,[]⟩ (uI om om (by simp)) none 0 B _ (hL.mem HM hB) (HM.le hB) Rd.nil (by show 0≤_;omega))) fun XM hbw=>(Vp [10]) fun a Z HM HS=>?_)
    refine s_on Z 11 rfl (eP Z HM 3 rfl rfl rfl rfl rfl ak rfl rfl (by simp [Value.oneCell']) fun gq HM=>?_)
    refine aD (HM.pk [0,1,2]) (fun HS=>?_)
    refine Vb Z HM HS ((Vp [12]∘Vd∘aN) fun a Z HM=>?_)
    have Z:=Z.sp 5 (.bool ((zb l).isSome)) rfl (congrArg Value.bool (by have h9:=kg;rw [AJ,h3] at h9;cases h9))
    exact ⟨Z.sub kr,HM.pk [0,1,2,3]⟩
   have hd95:=ne_of_beq_false iy
   refine ap Z (fun _=>HS) [8,9,10] (bt 13 [11,12]) [(98,.bool false)] fun a Z=>?_
   refine s_on Z 11 rfl (eP Z HM 3 rfl rfl rfl rfl rfl ak rfl rfl (by simp [Value.oneCell']) fun gq HM=>?_)
   refine aD (HM.pk [0,1,2]) (fun HS=>?_)
   refine ap Z (fun _=>HS) [12] (bt 13 []) [(5,.bool false)] fun a Z=>?_
   refine qh kr ?_
   have Z:=Z.sp 5 (.bool ((zb l).isSome)) rfl (congrArg Value.bool (by have h9:=kg;rw [AJ,h3] at h9;cases h9))
   exact ⟨Z.sub kr,HM.pk [0,1,2,3]⟩
  refine ap Z (fun _=>HS) [3,4,5,6,7,8,9,10] (bt 13 [11,12]) [(98,.bool false)] fun a Z=>?_
  refine s_on Z 11 rfl (eP Z HM 3 rfl rfl rfl rfl rfl ak rfl rfl (by simp [Value.oneCell']) fun gq HM=>?_)
  refine aD (HM.pk [0,1,2]) (fun HS=>?_)
  refine ap Z (fun _=>HS) [12] (bt 13 []) [(5,.bool false)] fun a Z=>?_
  refine qh kr ?_
  have Z:=Z.sp 5 (.bool ((zb l).isSome)) rfl (congrArg Value.bool (by have h9:=kg;rw [AJ] at h9;rw [MJ (l:=l) (fun hh=>by rw [h3] at hh;cases hh.1),h9,Bool.false_and]))
  exact ⟨Z.sub kr,HM.pk [0,1,2,3]⟩
 clear Z HM;rintro a Ih ⟨Z,HM⟩
 refine Jb Z HM ((JZ) (Ju (fun hb5=>?_) fun hb5=>?_))
 ·
  intro a Z HM
  have hfin:=hb5
  exact dP rfl Z (.cellS (i:=3) Z HM rfl rfl ak rfl) (.tmp Z rfl) (qc6 (b:=⟨1,af 63 l,(af 281474976710656 (qb l):Int),0,[]⟩) (A:=none) (c:=0) (by rw [CQ];exact Xy (fun hh=>by rw [h3] at hh;cases hh.1) hfin) (World.ownsRow_nil _ _ _ _) (Nat.le_refl _) HM.below)
 intro a Z HM
 have hfin:=hb5
 exact dP rfl Z (.cellS (i:=3) Z HM rfl rfl ak rfl) (.tmp Z rfl) (H9 (by rw [CQ];exact Option.not_isSome_iff_eq_none.1 (by rw [hfin];decide)) rfl (by simp [Value.oneCell']) HM.below)
theorem qvy (A:Option Addr) (n cp:Nat) (l:List Nat) (B:Nat) (w:World) (hL:ax B w) (hB:B≤w.heap.size) (hr:Rd w w.heap.size 1 A n (l.map B8)) (hc:n≤cp) (hln:l.length=n) (hn:n≤9223372036854775807) (hl:∀b∈l,b<256):
    Calls Tryz.prog 101 #[.slice A n cp] w (QP 32 w (bO l)):=by
 refine (dM Tryz.func101 68) ?_
 refine (JP∘JA #[vB 0,vB 0,vI 0,vI 0,vN]) fun w2 g2=>(Jp 2∘Jr∘Jp 1∘JI (h:=by exact fun HM=>qs1 A n cp l _ (HM.old hr) hln hn hl)) fun yM hbw=>(Jp 1∘Jx∘Jx∘Jp 2∘Jj∘JQ∘JP∘Jp 2∘aT∘Jj) (Ju (fun fE=>?_) fun fE=>?_)
 ·
  intro a Z HM
  have mD:=bne_iff_ne.1 fE
  refine Jb Z HM ((JT∘JP∘Jy (v:= .agg #[vB 0,vB 0,vI 0,vI 0,vN]) (h:=by exact Yl.build (vs:=[]) rfl kr kr)∘Jp 1∘JV ak bg) fun uK=>(Jp 2∘Jj∘JZ) fun a Z HM=>?_)
  exact je rfl Z (.cellS (i:=0) Z HM rfl rfl ak rfl) (.tmp Z rfl) (.tmp Z rfl) (AL (qvu om) HM.below)
 intro a Z HM
 have mD:=bne_eq_false_iff_eq.1 fE
 have hl0:(aG l).2=0:=by omega
 obtain ⟨v1,v2,v3,v4⟩:=XN hl0
 obtain ⟨Lb,qH⟩:∃x,x=l.take (aG l).1:=⟨_,rfl⟩
 have mW:Rd w w.heap.size 1 A (aG l).1 (Lb.map B8):=by rw [qH];exact hr.Cr om
 have oM:∀b∈Lb,b<256:=by rw [qH];exact rU hl _
 have yO:Lb.length=(aG l).1:=by rw [qH,List.length_take];omega
 refine Jb Z HM ((JF∘aI∘JP∘Jp 2∘Jy (h:=by exact Yl.yA aM (j:=(aG l).1) rfl rfl rfl om)∘Jp 1∘fC∘Jq) ?_)
 repeat (first|clear Z|clear HM)
 intro a Z HM
 obtain ⟨gA,oA,rfl,_⟩:=mW.qp (Nat.lt_of_le_of_lt (Nat.zero_le _) (show 0<(aG l).1 from by omega)) de
 refine Jb Z HM ((JG∘JQ∘JB∘JP∘Jp 1∘JI (h:=by exact fun HM=>QE _ (aG l).1 cp Lb B _ (hL.mem HM hB) (HM.le hB) (HM.old mW) om yO om oM)) fun XO hbw=>(Jp 2∘fC∘Jj) (Ju (fun iA=>?_) fun iA=>?_))
 ·
  intro a Z HM
  have hs:zn Lb=false:=by simpa using iA
  refine Jb Z HM ((JT∘JP∘Jy (v:= .agg #[vB 0,vB 0,vI 0,vI 0,vN]) (h:=by exact Yl.build (vs:=[]) rfl kr kr)∘JV ak bg) fun Q0=>(Jp 2∘Jj∘JZ) fun a Z HM=>?_)
  exact je rfl Z (.cellS (i:=0) Z HM rfl rfl ak rfl) (.tmp Z rfl) (.tmp Z rfl) (AL (CR hl0 qH (by unfold dQ;rw [if_pos hs])) HM.below)
 intro a Z HM
 have hs:zn Lb=true:=by simpa using iA
 refine Jb Z HM ((JF) fun a Z HM=>?_)
 refine wp_seq ?_
 refine Jb Z HM ((Vs .n []) fun wd7=>(Vp [0]∘Vy 1 (v:= .slice (if cp=4 then some ⟨gA,oA,none⟩ else (some ⟨gA,oA,none⟩:Option Addr).map (·.add (4*1))) (6-4) (cp-4)) (h:=by exact Yl.Cs aM (i:=4) (j:=6) rfl rfl rfl rfl om om)∘Vo (.slice (some ⟨gA,oA+4,none⟩) (6-4) (cp-4)) (by simp only [if_neg (show ¬cp=4 by omega),Option.map_some,Addr.add_mid,Nat.mul_one])∘Vy 2 (v:=vP gA (oA+4)) (h:=by exact Yl.arrayAt (k:=2) rfl rfl kr om)∘Vy 3 (v:= .agg #[vB (Lb.getD 4 0),vB (Lb.getD 5 0)]) (h:=by exact Yl.qm rfl rfl Aw rfl (fun _ h=>q6v (k:=4) (l:=Lb) (h.old mW) om))∘Vy 4 (v:= .agg #[vB 113,vB 116]) (h:=by exact Yl.qm rfl rfl Aw rfl (fun _ h=>qzp hL h hB))∘Vy 5 (v:= .bool (!(((Lb.getD 4 0:Int)==(113:Int))&& ((Lb.getD 5 0:Int)==(116:Int))))) (h:=by exact Yl.q57 rfl rfl rfl kr kr)∘Vp [6]∘Vd∘aN) (Ju (fun pO=>?_) fun pO=>?_))
 ·
  intro a Z HM
  simp only [Bool.not_eq_true',Bool.and_eq_false_iff,beq_eq_false_iff_ne] at pO
  have yP:¬(Lb.getD 4 0=113∧Lb.getD 5 0=116):=by omega
  refine Jb Z HM ((JT∘JP∘Jy (v:= .agg #[vB 0,vB 0,vI 0,vI 0,vN]) (h:=by exact Yl.build (vs:=[]) rfl kr kr)∘JV ak bg) fun Ii=>(Jp 2∘Jj∘JZ) fun a Z HM=>?_)
  exact je rfl Z (.cellS (i:=0) Z HM rfl rfl ak rfl) (.tmp Z rfl) (.tmp Z rfl) (AL (CR hl0 qH (by unfold dQ;rw [if_neg (by rw [hs];decide),if_pos yP])) HM.below)
 intro a Z HM
 simp only [Bool.not_eq_false',Bool.and_eq_true,beq_iff_eq] at pO
 have yP:Lb.getD 4 0=113∧Lb.getD 5 0=116:=by omega
 refine Jb Z HM ((JF∘JP∘Jp 1∘Jy (v:=vP gA (oA+6)) (h:=by exact Yl.indexAddr (ad:=⟨gA,oA,none⟩) (y:=6) (sz:=1) rfl rfl rfl om kr)∘JH (getD_lt oM (k:=6) (by first|omega|(simp;omega)))) fun hx1=>(Jy (h:=by exact Yl.o1 mW 6 0 (by first|omega|(simp;omega)) rfl rfl)∘Jp 2∘gW∘Jj) (Jh (fun hd34=>?_) fun hd34=>?_))
 ·
  refine (JT∘JP∘Jy (v:= .agg #[vB 0,vB 0,vI 0,vI 0,vN]) (h:=by exact Yl.build (vs:=[]) rfl kr kr)∘JV ak bg) fun Ij=>(Jp 2∘Jj∘JZ) fun a Z HM=>?_
  exact je rfl Z (.cellS (i:=0) Z HM rfl rfl ak rfl) (.tmp Z rfl) (.tmp Z rfl) (AL (CR hl0 qH (by unfold dQ;rw [if_neg (by rw [hs];decide),if_neg (fun hh=>hh yP),if_pos om])) HM.below)
 refine (JF∘JP∘Jp 1∘Jy (v:=vP gA (oA+7)) (h:=by exact Yl.indexAddr (ad:=⟨gA,oA,none⟩) (y:=7) (sz:=1) rfl rfl rfl om kr)∘JH (getD_lt oM (k:=7) (by first|omega|(simp;omega)))) fun hx2=>(Jy (h:=by exact Yl.o1 mW 7 0 (by first|omega|(simp;omega)) rfl rfl)∘Jp 2) (Ju (fun C8=>?_) fun C8=>?_)
 ·
  intro a Z HM
  have Q3:=bne_iff_ne.1 C8
  refine Jb Z HM ((Jp 1∘Jy (v:=vP gA (oA+7)) (h:=by exact Yl.indexAddr (ad:=⟨gA,oA,none⟩) (y:=7) (sz:=1) rfl rfl rfl om kr)∘JH (getD_lt oM (k:=7) (by first|omega|(simp;omega)))) fun hx3=>(Jy (h:=by exact Yl.o1 mW 7 0 (by first|omega|(simp;omega)) rfl rfl)∘Jp 3∘aN∘Jq) fun a Z HM=>?_)
  rcases hp:xy (Lb.getD 7 0) ((Lb.take (Lb.length-4)).drop 8) with _|b
  ·
   refine Jb Z HM (Ju (fun pQ=>?_) fun pQ=>?_)
   ·
    intro a Z HM
    have uL:=bne_iff_ne.1 pQ
    have hkd:Lb.getD 7 0≠1∧Lb.getD 7 0≠2:=by omega
    refine Jb Z HM ((JT∘JP∘Jy (v:= .agg #[vB 0,vB 0,vI 0,vI 0,vN]) (h:=by exact Yl.build (vs:=[]) rfl kr kr)∘JV ak bg) fun Ik=>(Jp 2∘Jj∘JZ) fun a Z HM=>?_)
    exact je rfl Z (.cellS (i:=0) Z HM rfl rfl ak rfl) (.tmp Z rfl) (.tmp Z rfl) (AL (CR hl0 qH (by unfold dQ;rw [if_neg (by rw [hs];decide),if_neg (fun hh=>hh yP),if_neg om,if_pos hkd])) HM.below)
   intro a Z HM
   have uL:=bne_eq_false_iff_eq.1 pQ
   have hkd:Lb.getD 7 0=1∨Lb.getD 7 0=2:=by omega
   refine Jb Z HM ((JF∘aI) fun a Z HM=>?_)
   refine qP (fun aS wS=>∃(cs:Array Value) (g7:Nat),Fr aS 68 [] [(8,.bool false),(7,vP g7 0),(40,.bool false),(34,.bool false),(26,.bool false),(21,.bool false),(0,.slice (some ⟨gA,oA,none⟩) ((aG l).1) cp),(15,.bool false),(6,vI ((aG l).2)),(5,vI ((aG l).1)),(4,vI 0),(3,vI 0),(2,vP g2 0)]∧Mem w wS [.blk g7 cs 59,.blk g2 #[vB 0,vB 0,vI 0,vI 0,vN] 59]∧(cs.size=5)∧(∀v∈cs.toList,v.oneCell'=true)) ?_ ?_
   ·
    refine Jb Z HM ((Vs .n [12]) fun yQ=>(Vp [0,3,4]∘Vy 1 (v:=vP gA (oA+7)) (h:=by exact Yl.indexAddr (ad:=⟨gA,oA,none⟩) (y:=7) (sz:=1) rfl rfl rfl om kr)∘VH (getD_lt oM (k:=7) (by first|omega|(simp;omega)))) fun hx8=>(Vy 2 (h:=by exact Yl.o1 mW 7 0 (by first|omega|(simp;omega)) rfl rfl)∘Hy 5 4∘Vy 6 (v:= .slice (if cp=8 then some ⟨gA,oA,none⟩ else (some ⟨gA,oA,none⟩:Option Addr).map (·.add (8*1))) (((aG l).1-4)-8) (cp-8)) (h:=by exact Yl.Cs aM (i:=8) (j:=(aG l).1-4) rfl rfl rfl rfl om om)) fun a Z HM HS=>?_)
    refine EF [7,11] kr rfl ?_
    refine all_cons ?_ ?_
    ·refine xn Z (i:=7) rfl rfl ?_
     refine o8 Z [vB (Lb.getD 7 0),.slice (if cp=8 then some ⟨gA,oA,none⟩ else (some ⟨gA,oA,none⟩:Option Addr).map (·.add (8*1))) (((aG l).1-4)-8) (cp-8)] rfl rfl ((AO (Lb.getD 7 0) hkd _ (((aG l).1-4)-8) (cp-8) ((Lb.take (Lb.length-4)).drop 8) B _ (hL.mem HM hB) (HM.le hB) (HM.old (by rw [yO];exact mW.xw (i:=8) (j:=(aG l).1-4) om om om)) om (by rw [List.length_drop,List.length_take];omega) om (uD (rU oM _) _)).mono (fun _ _ h=>h.none hp)) ?_
     rintro _ AQ ⟨⟨cs,rfl,hs5,h1⟩,hbw⟩
     refine ⟨_,rfl,?_⟩
     replace HM:=HM.call hbw
     clear Z;intro a Z
     refine aD (HM.pk [0]) (fun HS=>?_)
     refine Vb Z HM HS ((Vp [8]∘Vx 9∘Vx 10∘VA 11 .n #[vB 0,vB 0,vI 0,vI 0,vN]) fun w7 g7=>fun a Z HM HS=>?_)
     refine s_on Z 12 rfl (eP Z HM 0 rfl rfl rfl rfl rfl ak rfl hs5 (h1) fun iB HM=>?_)
     refine jZ kr ?_
     refine ap Z (jo kr) [13] (bt 14 []) [(8,.bool false)] fun a Z=>?_
     refine qh kr ?_
     exact ⟨cs,g7,Z.sub kr,HM.pk [0,1],hs5,h1⟩
    refine all_cons ?_ all_nil
    refine xn Z (i:=11) rfl rfl ?_
    refine yF Z HM #[vB 0,vB 0,vI 0,vI 0,vN] ?_
    clear Z HM;intro a w7 g7 Z HM
    refine aD (HM.pk [1]) (fun HS=>?_)
    refine s_on Z 7 rfl ?_
    refine o8 Z [vB (Lb.getD 7 0),.slice (if cp=8 then some ⟨gA,oA,none⟩ else (some ⟨gA,oA,none⟩:Option Addr).map (·.add (8*1))) (((aG l).1-4)-8) (cp-8)] rfl rfl ((AO (Lb.getD 7 0) hkd _ (((aG l).1-4)-8) (cp-8) ((Lb.take (Lb.length-4)).drop 8) B _ (hL.mem HM hB) (HM.le hB) (HM.old (by rw [yO];exact mW.xw (i:=8) (j:=(aG l).1-4) om om om)) om (by rw [List.length_drop,List.length_take];omega) om (uD (rU oM _) _)).mono (fun _ _ h=>h.none hp)) ?_
    rintro _ AQ ⟨⟨cs,rfl,hs5,h1⟩,hbw⟩
    refine ⟨_,rfl,?_⟩
    replace HM:=HM.call hbw
    clear Z;intro a Z
    refine aD (HM.pk [1]) (fun HS=>?_)
    refine Vb Z HM HS ((Vp [8]∘Vx 9∘Vx 10) fun a Z HM HS=>?_)
    refine s_on Z 12 rfl (eP Z HM 0 rfl rfl rfl rfl rfl ak rfl hs5 (h1) fun iB HM=>?_)
    refine jZ kr ?_
    refine ap Z (jo kr) [13] (bt 14 []) [(8,.bool false)] fun a Z=>?_
    refine qh kr ?_
    exact ⟨cs,g7,Z.sub kr,HM.pk [0,1],hs5,h1⟩
   clear Z HM;rintro a xC ⟨cs,g7,Z,HM,hs5,h1⟩
   refine Jb Z HM ((JQ∘JP∘Jp 2∘bK∘Jj∘JT∘JP∘Jy (v:= .agg #[vB 0,vB 0,vI 0,vI 0,vN]) (h:=by exact Yl.build (vs:=[]) rfl kr kr)∘JV ak fJ) fun Il=>(Jp 2∘Jj∘JZ) fun a Z HM=>?_)
   exact je rfl Z (.cellS (i:=1) Z HM rfl rfl ak rfl) (.tmp Z rfl) (.tmp Z rfl) (AL (CR hl0 qH (by unfold dQ;rw [if_neg (by rw [hs];decide),if_neg (fun hh=>hh yP),if_neg om,if_neg om,hp])) HM.below)
  ·
   refine Jb Z HM (Ju (fun pQ=>?_) fun pQ=>?_)
   ·
    intro a Z HM
    have uL:=bne_iff_ne.1 pQ
    have hkd:Lb.getD 7 0≠1∧Lb.getD 7 0≠2:=by omega
    refine Jb Z HM ((JT∘JP∘Jy (v:= .agg #[vB 0,vB 0,vI 0,vI 0,vN]) (h:=by exact Yl.build (vs:=[]) rfl kr kr)∘JV ak bg) fun Ik=>(Jp 2∘Jj∘JZ) fun a Z HM=>?_)
    exact je rfl Z (.cellS (i:=0) Z HM rfl rfl ak rfl) (.tmp Z rfl) (.tmp Z rfl) (AL (CR hl0 qH (by unfold dQ;rw [if_neg (by rw [hs];decide),if_neg (fun hh=>hh yP),if_neg om,if_pos hkd])) HM.below)
   intro a Z HM
   have uL:=bne_eq_false_iff_eq.1 pQ
   have hkd:Lb.getD 7 0=1∨Lb.getD 7 0=2:=by omega
   refine Jb Z HM ((JF∘aI) fun a Z HM=>?_)
   refine qP (fun aS wS=>∃(Ab:Option Addr) (cb:Nat) (g7:Nat),Fr aS 68 [] [(8,.bool true),(7,vP g7 0),(40,.bool false),(34,.bool false),(26,.bool false),(21,.bool false),(0,.slice (some ⟨gA,oA,none⟩) ((aG l).1) cp),(15,.bool false),(6,vI ((aG l).2)),(5,vI ((aG l).1)),(4,vI 0),(3,vI 0),(2,vP g2 0)]∧Mem w wS [.blk g7 (b.cells Ab cb) 59,.row (.slice Ab b.evs.length cb) b.evs.length (b.evs.flatMap cZ) 32 11,.blk g2 #[vB 0,vB 0,vI 0,vI 0,vN] 59]∧(b.evs.length≤cb)) ?_ ?_
   ·
    refine Jb Z HM ((Vs .n [12]) fun yQ=>(Vp [0,3,4]∘Vy 1 (v:=vP gA (oA+7)) (h:=by exact Yl.indexAddr (ad:=⟨gA,oA,none⟩) (y:=7) (sz:=1) rfl rfl rfl om kr)∘VH (getD_lt oM (k:=7) (by first|omega|(simp;omega)))) fun afV=>(Vy 2 (h:=by exact Yl.o1 mW 7 0 (by first|omega|(simp;omega)) rfl rfl)∘Hy 5 4∘Vy 6 (v:= .slice (if cp=8 then some ⟨gA,oA,none⟩ else (some ⟨gA,oA,none⟩:Option Addr).map (·.add (8*1))) (((aG l).1-4)-8) (cp-8)) (h:=by exact Yl.Cs aM (i:=8) (j:=(aG l).1-4) rfl rfl rfl rfl om om)) fun a Z HM HS=>?_)
    refine EF [7,11] kr rfl ?_
    refine all_cons ?_ ?_
    ·refine xn Z (i:=7) rfl rfl ?_
     refine Hq Z HM [vB (Lb.getD 7 0),.slice (if cp=8 then some ⟨gA,oA,none⟩ else (some ⟨gA,oA,none⟩:Option Addr).map (·.add (8*1))) (((aG l).1-4)-8) (cp-8)] ((AO (Lb.getD 7 0) hkd _ (((aG l).1-4)-8) (cp-8) ((Lb.take (Lb.length-4)).drop 8) B _ (hL.mem HM hB) (HM.le hB) (HM.old (by rw [yO];exact mW.xw (i:=8) (j:=(aG l).1-4) om om om)) om (by rw [List.length_drop,List.length_take];omega) om (uD (rU oM _) _)).mono (fun _ _ h=>h.some hp)) fun Ab cb AQ hcb HM a Z=>?_
     refine aD (HM.pk [1]) (fun HS=>?_)
     refine Vb Z HM HS ((Vp [8]∘Vx 9∘Vx 10∘VA 11 (.f .n) #[vB 0,vB 0,vI 0,vI 0,vN]) fun w7 g7=>fun a Z HM HS=>?_)
     refine s_on Z 12 rfl (eP Z HM 0 rfl rfl rfl rfl rfl ak rfl rfl (uE _ _ _) fun iB HM=>?_)
     refine jZ kr ?_
     refine ap Z (jo kr) [13] (bt 14 []) [(8,.bool true)] fun a Z=>?_
     refine qh kr ?_
     exact ⟨Ab,cb,g7,Z.sub kr,HM.pk [0,1,2],hcb⟩
    refine all_cons ?_ all_nil
    refine xn Z (i:=11) rfl rfl ?_
    refine yF Z HM #[vB 0,vB 0,vI 0,vI 0,vN] ?_
    clear Z HM;intro a w7 g7 Z HM
    refine aD (HM.pk [1]) (fun HS=>?_)
    refine Vb Z HM HS ((VK 7 (.f .n) (h:=by exact fun HM=>(AO (Lb.getD 7 0) hkd _ (((aG l).1-4)-8) (cp-8) ((Lb.take (Lb.length-4)).drop 8) B _ (hL.mem HM hB) (HM.le hB) (HM.old (by rw [yO];exact mW.xw (i:=8) (j:=(aG l).1-4) om om om)) om (by rw [List.length_drop,List.length_take];omega) om (uD (rU oM _) _)).mono (fun _ _ h=>h.some hp))) fun Ab cb AQ hcb=>(Vp [8]∘Vx 9∘Vx 10) fun a Z HM HS=>?_)
    refine s_on Z 12 rfl (eP Z HM 1 rfl rfl rfl rfl rfl ak rfl rfl (uE _ _ _) fun iB HM=>?_)
    refine jZ kr ?_
    refine ap Z (jo kr) [13] (bt 14 []) [(8,.bool true)] fun a Z=>?_
    refine qh kr ?_
    exact ⟨Ab,cb,g7,Z.sub kr,HM.pk [1,0,2],hcb⟩
   clear Z HM;rintro a xC ⟨Ab,cb,g7,Z,HM,hcb⟩
   refine Jb Z HM ((JQ∘JP∘Jp 2∘bK∘Jj∘JF∘aI∘JP∘Jy (v:= .agg (b.cells Ab cb)) (h:=by exact Yl.qm rfl rfl ak rfl (fun _ h=>qc (h.blk (i:=0) rfl)))∘Jp 1∘JV ak fA (h1:=by exact uE _ _ _)) fun AR=>(Jp 2∘Jj∘JZ) fun a Z HM=>?_)
   exact je rfl Z (.cellS (i:=2) Z HM rfl rfl ak rfl) (.tmp Z rfl) (.tmp Z rfl) (Xz (XA (e:=0) hl0 qH (by unfold dQ;rw [if_neg (by rw [hs];decide),if_neg (fun hh=>hh yP),if_neg om,if_neg om,hp])) (HM.own (i:=1) rfl) hcb HM.below)
 intro a Z HM
 have Q3:=bne_eq_false_iff_eq.1 C8
 have hkd:Lb.getD 7 0=1∨Lb.getD 7 0=2:=by omega
 refine Jb Z HM ((Jp 6∘aN∘Jq) fun a Z HM=>?_)
 rcases hp:xy (Lb.getD 7 0) ((Lb.take (Lb.length-4)).drop 8) with _|b
 ·
  refine Jb Z HM ((JG∘JF∘aI) fun a Z HM=>?_)
  refine qP (fun aS wS=>∃(cs:Array Value) (g7:Nat),Fr aS 68 [] [(8,.bool false),(7,vP g7 0),(40,.bool false),(34,.bool false),(26,.bool false),(21,.bool false),(0,.slice (some ⟨gA,oA,none⟩) ((aG l).1) cp),(15,.bool false),(6,vI ((aG l).2)),(5,vI ((aG l).1)),(4,vI 0),(3,vI 0),(2,vP g2 0)]∧Mem w wS [.blk g7 cs 59,.blk g2 #[vB 0,vB 0,vI 0,vI 0,vN] 59]∧(cs.size=5)∧(∀v∈cs.toList,v.oneCell'=true)) ?_ ?_
  ·
   refine Jb Z HM ((Vs .n [12]) fun yQ=>(Vp [0,3,4]∘Vy 1 (v:=vP gA (oA+7)) (h:=by exact Yl.indexAddr (ad:=⟨gA,oA,none⟩) (y:=7) (sz:=1) rfl rfl rfl om kr)∘VH (getD_lt oM (k:=7) (by first|omega|(simp;omega)))) fun hx16=>(Vy 2 (h:=by exact Yl.o1 mW 7 0 (by first|omega|(simp;omega)) rfl rfl)∘Hy 5 4∘Vy 6 (v:= .slice (if cp=8 then some ⟨gA,oA,none⟩ else (some ⟨gA,oA,none⟩:Option Addr).map (·.add (8*1))) (((aG l).1-4)-8) (cp-8)) (h:=by exact Yl.Cs aM (i:=8) (j:=(aG l).1-4) rfl rfl rfl rfl om om)) fun a Z HM HS=>?_)
   refine EF [7,11] kr rfl ?_
   refine all_cons ?_ ?_
   ·refine xn Z (i:=7) rfl rfl ?_
    refine o8 Z [vB (Lb.getD 7 0),.slice (if cp=8 then some ⟨gA,oA,none⟩ else (some ⟨gA,oA,none⟩:Option Addr).map (·.add (8*1))) (((aG l).1-4)-8) (cp-8)] rfl rfl ((AO (Lb.getD 7 0) hkd _ (((aG l).1-4)-8) (cp-8) ((Lb.take (Lb.length-4)).drop 8) B _ (hL.mem HM hB) (HM.le hB) (HM.old (by rw [yO];exact mW.xw (i:=8) (j:=(aG l).1-4) om om om)) om (by rw [List.length_drop,List.length_take];omega) om (uD (rU oM _) _)).mono (fun _ _ h=>h.none hp)) ?_
    rintro _ AQ ⟨⟨cs,rfl,hs5,h1⟩,hbw⟩
    refine ⟨_,rfl,?_⟩
    replace HM:=HM.call hbw
    clear Z;intro a Z
    refine aD (HM.pk [0]) (fun HS=>?_)
    refine Vb Z HM HS ((Vp [8]∘Vx 9∘Vx 10∘VA 11 .n #[vB 0,vB 0,vI 0,vI 0,vN]) fun w7 g7=>fun a Z HM HS=>?_)
    refine s_on Z 12 rfl (eP Z HM 0 rfl rfl rfl rfl rfl ak rfl hs5 (h1) fun iB HM=>?_)
    refine jZ kr ?_
    refine ap Z (jo kr) [13] (bt 14 []) [(8,.bool false)] fun a Z=>?_
    refine qh kr ?_
    exact ⟨cs,g7,Z.sub kr,HM.pk [0,1],hs5,h1⟩
   refine all_cons ?_ all_nil
   refine xn Z (i:=11) rfl rfl ?_
   refine yF Z HM #[vB 0,vB 0,vI 0,vI 0,vN] ?_
   clear Z HM;intro a w7 g7 Z HM
   refine aD (HM.pk [1]) (fun HS=>?_)
   refine s_on Z 7 rfl ?_
   refine o8 Z [vB (Lb.getD 7 0),.slice (if cp=8 then some ⟨gA,oA,none⟩ else (some ⟨gA,oA,none⟩:Option Addr).map (·.add (8*1))) (((aG l).1-4)-8) (cp-8)] rfl rfl ((AO (Lb.getD 7 0) hkd _ (((aG l).1-4)-8) (cp-8) ((Lb.take (Lb.length-4)).drop 8) B _ (hL.mem HM hB) (HM.le hB) (HM.old (by rw [yO];exact mW.xw (i:=8) (j:=(aG l).1-4) om om om)) om (by rw [List.length_drop,List.length_take];omega) om (uD (rU oM _) _)).mono (fun _ _ h=>h.none hp)) ?_
   rintro _ AQ ⟨⟨cs,rfl,hs5,h1⟩,hbw⟩
   refine ⟨_,rfl,?_⟩
   replace HM:=HM.call hbw
   clear Z;intro a Z
   refine aD (HM.pk [1]) (fun HS=>?_)
   refine Vb Z HM HS ((Vp [8]∘Vx 9∘Vx 10) fun a Z HM HS=>?_)
   refine s_on Z 12 rfl (eP Z HM 0 rfl rfl rfl rfl rfl ak rfl hs5 (h1) fun iB HM=>?_)
   refine jZ kr ?_
   refine ap Z (jo kr) [13] (bt 14 []) [(8,.bool false)] fun a Z=>?_
   refine qh kr ?_
   exact ⟨cs,g7,Z.sub kr,HM.pk [0,1],hs5,h1⟩
  clear Z HM;rintro a xC ⟨cs,g7,Z,HM,hs5,h1⟩
  refine Jb Z HM ((JQ∘JP∘Jp 2∘bK∘Jj∘JT∘JP∘Jy (v:= .agg #[vB 0,vB 0,vI 0,vI 0,vN]) (h:=by exact Yl.build (vs:=[]) rfl kr kr)∘JV ak fJ) fun Il=>(Jp 2∘Jj∘JZ) fun a Z HM=>?_)
  exact je rfl Z (.cellS (i:=1) Z HM rfl rfl ak rfl) (.tmp Z rfl) (.tmp Z rfl) (AL (CR hl0 qH (by unfold dQ;rw [if_neg (by rw [hs];decide),if_neg (fun hh=>hh yP),if_neg om,if_neg om,hp])) HM.below)
 ·
  refine Jb Z HM ((JG∘JF∘aI) fun a Z HM=>?_)
  refine qP (fun aS wS=>∃(Ab:Option Addr) (cb:Nat) (g7:Nat),Fr aS 68 [] [(8,.bool true),(7,vP g7 0),(40,.bool false),(34,.bool false),(26,.bool false),(21,.bool false),(0,.slice (some ⟨gA,oA,none⟩) ((aG l).1) cp),(15,.bool false),(6,vI ((aG l).2)),(5,vI ((aG l).1)),(4,vI 0),(3,vI 0),(2,vP g2 0)]∧Mem w wS [.blk g7 (b.cells Ab cb) 59,.row (.slice Ab b.evs.length cb) b.evs.length (b.evs.flatMap cZ) 32 11,.blk g2 #[vB 0,vB 0,vI 0,vI 0,vN] 59]∧(b.evs.length≤cb)) ?_ ?_
  ·
   refine Jb Z HM ((Vs .n [12]) fun yQ=>(Vp [0,3,4]∘Vy 1 (v:=vP gA (oA+7)) (h:=by exact Yl.indexAddr (ad:=⟨gA,oA,none⟩) (y:=7) (sz:=1) rfl rfl rfl om kr)∘VH (getD_lt oM (k:=7) (by first|omega|(simp;omega)))) fun QF=>(Vy 2 (h:=by exact Yl.o1 mW 7 0 (by first|omega|(simp;omega)) rfl rfl)∘Hy 5 4∘Vy 6 (v:= .slice (if cp=8 then some ⟨gA,oA,none⟩ else (some ⟨gA,oA,none⟩:Option Addr).map (·.add (8*1))) (((aG l).1-4)-8) (cp-8)) (h:=by exact Yl.Cs aM (i:=8) (j:=(aG l).1-4) rfl rfl rfl rfl om om)) fun a Z HM HS=>?_)
   refine EF [7,11] kr rfl ?_
   refine all_cons ?_ ?_
   ·refine xn Z (i:=7) rfl rfl ?_
    refine Hq Z HM [vB (Lb.getD 7 0),.slice (if cp=8 then some ⟨gA,oA,none⟩ else (some ⟨gA,oA,none⟩:Option Addr).map (·.add (8*1))) (((aG l).1-4)-8) (cp-8)] ((AO (Lb.getD 7 0) hkd _ (((aG l).1-4)-8) (cp-8) ((Lb.take (Lb.length-4)).drop 8) B _ (hL.mem HM hB) (HM.le hB) (HM.old (by rw [yO];exact mW.xw (i:=8) (j:=(aG l).1-4) om om om)) om (by rw [List.length_drop,List.length_take];omega) om (uD (rU oM _) _)).mono (fun _ _ h=>h.some hp)) fun Ab cb AQ hcb HM a Z=>?_
    refine aD (HM.pk [1]) (fun HS=>?_)
    refine Vb Z HM HS ((Vp [8]∘Vx 9∘Vx 10∘VA 11 (.f .n) #[vB 0,vB 0,vI 0,vI 0,vN]) fun w7 g7=>fun a Z HM HS=>?_)
    refine s_on Z 12 rfl (eP Z HM 0 rfl rfl rfl rfl rfl ak rfl rfl (uE _ _ _) fun iB HM=>?_)
    refine jZ kr ?_
    refine ap Z (jo kr) [13] (bt 14 []) [(8,.bool true)] fun a Z=>?_
    refine qh kr ?_
    exact ⟨Ab,cb,g7,Z.sub kr,HM.pk [0,1,2],hcb⟩
   refine all_cons ?_ all_nil
   refine xn Z (i:=11) rfl rfl ?_
   refine yF Z HM #[vB 0,vB 0,vI 0,vI 0,vN] ?_
   clear Z HM;intro a w7 g7 Z HM
   refine aD (HM.pk [1]) (fun HS=>?_)
   refine Vb Z HM HS ((VK 7 (.f .n) (h:=by exact fun HM=>(AO (Lb.getD 7 0) hkd _ (((aG l).1-4)-8) (cp-8) ((Lb.take (Lb.length-4)).drop 8) B _ (hL.mem HM hB) (HM.le hB) (HM.old (by rw [yO];exact mW.xw (i:=8) (j:=(aG l).1-4) om om om)) om (by rw [List.length_drop,List.length_take];omega) om (uD (rU oM _) _)).mono (fun _ _ h=>h.some hp))) fun Ab cb AQ hcb=>(Vp [8]∘Vx 9∘Vx 10) fun a Z HM HS=>?_)
   refine s_on Z 12 rfl (eP Z HM 1 rfl rfl rfl rfl rfl ak rfl rfl (uE _ _ _) fun iB HM=>?_)
   refine jZ kr ?_
   refine ap Z (jo kr) [13] (bt 14 []) [(8,.bool true)] fun a Z=>?_
   refine qh kr ?_
   exact ⟨Ab,cb,g7,Z.sub kr,HM.pk [1,0,2],hcb⟩
  clear Z HM;rintro a xC ⟨Ab,cb,g7,Z,HM,hcb⟩
  refine Jb Z HM ((JQ∘JP∘Jp 2∘bK∘Jj∘JF∘aI∘JP∘Jy (v:= .agg (b.cells Ab cb)) (h:=by exact Yl.qm rfl rfl ak rfl (fun _ h=>qc (h.blk (i:=0) rfl)))∘Jp 1∘JV ak fA (h1:=by exact uE _ _ _)) fun AR=>(Jp 2∘Jj∘JZ) fun a Z HM=>?_)
  exact je rfl Z (.cellS (i:=2) Z HM rfl rfl ak rfl) (.tmp Z rfl) (.tmp Z rfl) (Xz (XA (e:=0) hl0 qH (by unfold dQ;rw [if_neg (by rw [hs];decide),if_neg (fun hh=>hh yP),if_neg om,if_neg om,hp])) (HM.own (i:=1) rfl) hcb HM.below)
theorem zp.as {w w':World} {er rQ:Nat} {R R':List Nat} {r:Ending} (h:zp w er R r w') (h1:er=rQ) (h2:R=R'):zp w rQ R' r w':=by subst h1;subst h2;exact h
theorem qv0 (b:Bk) (hok:b.Ok) (A:Option Addr) (c B:Nat) (w:World) (hL:ax B w) (hB:B≤w.heap.size) (hr:Rd w w.heap.size 11 A b.evs.length (b.evs.flatMap cZ)) (hn:b.evs.length≤1000000) {er:Nat} {R:List Nat} (h1:b.err=er) (h2:b.out=R):Calls Tryz.prog 103 #[.agg (b.cells A c)] w (zp w er R):=
 (XD b hok A c B w hL hB hr hn).mono fun _ _ h=>h.as h1 h2
theorem qz1 (A:Option Addr) (n cp:Nat) (l:List Nat) (B:Nat) (w:World) (hL:ax B w) (hB:B≤w.heap.size) (hr:Rd w w.heap.size 1 A n (l.map B8)) (hc:n≤cp) (hln:l.length=n) (hn:n≤9223372036854775807) (hl:∀b∈l,b<256) {b:Bk} {m er:Nat} (h:bO l=(b,m,er)):
  Calls Tryz.prog 101 #[.slice A n cp] w fun r w'=>(∃A c,r= .returned (.tuple #[.agg (b.cells A c),.int .i64 (m:Int),.int .i64 (er:Int)])∧w'.ownsRow w.heap.size 32 11 (.slice A b.evs.length c) b.evs.length (b.evs.flatMap cZ)∧b.evs.length≤c)∧Below w.heap.size w w':=
 (qvy A n cp l B w hL hB hr hc hln hn hl).mono fun _ _ hh=>by rw [h] at hh;exact hh
def Bk.sz (b:Bk) (k:Nat):Nat:=12+(ah b.cpu).length+(ah b.lost.toNat).length+(ah b.base.seq.toNat).length+(ah b.base.time.toNat).length+(recs b.base (b.evs.take k)).length
def Bk.big (b:Bk) (k:Nat):Bool:=decide (4096<b.sz k+(ah k).length)
def Bk.q8d (b:Bk):Nat:=((List.range b.evs.length).find? fun i=>b.big (i+1)).getD b.evs.length
def Bk.fill (b:Bk):Nat×Nat:=if b.fits=false then (0,107) else (b.q8d,0)
theorem Ty (s:bT) (hok:s.st.aB.Ok) (hf:bX s.st) (hc:eU s.st) (w:World) (hx:eB w s.st):
    Calls Tryz.prog 64 #[.agg s.cells] w (Is w (vI (bL s:Int))):=by
 refine (dM Tryz.func64 17) ?_
 refine (JP∘JE) fun w1 g1=>(Jp 1∘Jj∘JQ∘JB∘JP∘Jg 0 O0∘Jp 2) (Ji (fun hd7=>?_) fun hd7=>?_)
 ·
  exact (Jp 5∘aN∘Jj∘JT∘JP∘Jp 1∘Jj∘JZ∘bq) fun HM=>by exact ⟨by rw [YR om];rfl,HM.below⟩
 refine (Jg 0 O0∘Jp 3∘aN∘Jj) (Ji (fun hd3=>?_) fun hd3=>?_)
 ·
  exact (JT∘JP∘Jp 1∘Jj∘JZ∘bq) fun HM=>by exact ⟨by rw [YR om];rfl,HM.below⟩
 refine (JF∘JP∘Jf 1∘Jy (v:= .agg #[vI s.st.az,vQ s.st.au,.slice s.st.gA s.st.gs.length s.st.gc,.slice s.st.lA s.st.cl.length s.st.lc,.slice s.st.uA s.st.cu.length s.st.uc,.slice s.st.tA s.st.ts.length s.st.tc,.slice s.st.sA s.st.rs.length s.st.sc]) (h:=by exact Yl.qm rfl rfl ku rfl (fun _ h=>h.sub (i:=0) rfl 1 rfl))∘Jo (.agg s.st.cells) (by exact rfl)∘JI (h:=by exact fun HM=>qp8 s.st hok hf _ (hx.old HM))) fun Ih hbw=>(Jp 2∘gW∘Jj) (Ju (fun ek=>?_) fun ek=>?_)
 ·
  exact (JT∘JP∘Jp 1∘Jj∘JZ∘bq) fun HM=>by exact ⟨by rw [qwy om (by simpa using ek)];rfl,HM.below⟩
 exact (JF∘aI∘JP∘Jp 1∘Jj∘JZ∘bq) fun HM=>by exact ⟨by rw [qwz om (by simpa using ek)];rfl,HM.below⟩
theorem qog (s:bT) (hok:s.st.aB.Ok) (hf:bX s.st) (hc:eU s.st) (w:World) (hx:eB w s.st):
    Calls Tryz.prog 111 #[.agg s.cells] w (RU w (bL s) (gY s)):=by
 refine Hl (vs:=[.agg s.cells]) Tryz.func111 rfl rfl kr (σ0:=[(0,.agg s.cells)]) rfl ?_
 intro a Z
 have HM:=Mem.start w
 refine Jb Z HM ((JP∘JE) fun w1 g1=>(Jp 2∘Jj∘JQ∘JP∘Jy (v:= .agg s.cells) (h:=by exact Yl.qm rfl rfl zr rfl (fun _ h=>qc (h.blk (i:=0) rfl)))∘JI (h:=by exact fun HM=>Ty s hok hf hc _ (hx.old HM))) fun w9 hbw=>(Jp 1∘bK∘Jr∘Jp 2∘aT∘Jj) (Ju (fun qC=>?_) fun qC=>?_))
 ·
  intro a Z HM
  have uW:=bne_iff_ne.1 qC
  refine Jb Z HM ((JT∘JP∘Jp 3∘Jj∘JZ) fun a Z HM=>?_)
  refine Mv ?_
  exact lu rfl Z rfl rfl (qti _ rfl (q0k om) HM.below)
 intro a Z HM
 have uW:=bne_eq_false_iff_eq.1 qC
 have hk0:bL s=0:=by omega
 have hsh:=Ng hk0
 refine Jb Z HM ((JF∘aI∘JP∘JA #[vN]) fun w5 g5=>(Jq) fun a Z HM=>?_)
 replace HM:=HM.nil 30 1
 refine Jb Z HM ((JG∘JQ∘JP∘Jy (v:= .agg s.cells) (h:=by exact Yl.qm rfl rfl zr rfl (fun _ h=>qc (h.blk (i:=2) rfl)))∘JL (h:=by exact fun HM=>qx6 s _)) ?_)
 rintro HM _ yI ⟨gv,gp,rfl,hm⟩
 refine ⟨_,rfl,_,HM.join hm,?_⟩
 refine (aT∘Jj∘JB) fun a Z HM=>?_
 refine Hg Z HM (fun F=>∃(q:List Nat) (Ao:Option Addr) (co:Nat),(q=dF 7 (ay s))∧(q.length≤co)∧F=[.row (.slice Ao q.length co) q.length (q.map aK) 30 1,.blk g5 #[.slice Ao q.length co] 146,.blk g1 s.cells 52]) (fun _ _=>False) rfl kr ?_ ?_ (fun _ _ _ _ _ h=>h.elim)
 ·
  clear Z HM;intro lp B rec w1 hrec HM
  have hy:qr6 Tryz.prog w lp s (fun i F=>∃(q:List Nat) (Ao:Option Addr) (co:Nat),(q=dF i (ay s))∧(q.length≤co)∧F=(.obj lp (.loop (rec .ready none)):: .obj B (.deferred (some [])):: [.row (.slice Ao q.length co) q.length (q.map aK) 30 1,.blk g5 #[.slice Ao q.length co] 146,.blk g1 s.cells 52])):=by
   rintro i F fr w3 Ar cr ⟨q,Ao,co,hq,hco,rfl⟩ hi hcr HM
   replace HM:=HM.pt (fs':=(.obj lp (.loop (rec .ready none)):: .row (.slice Ar ((ay s i).length) cr) ((ay s i).length) ((ay s i).map aK) 30 1:: .obj B (.deferred (some [])):: .row (.slice Ao q.length co) q.length (q.map aK) 30 1:: .blk g5 #[.slice Ao q.length co] 146:: .blk g1 s.cells 52::fr)) 6 [1,0,2,3,4,5]
   refine qc5 (v1:= .string (qa i)) (v2:= .slice Ar ((ay s i).length) cr) hrec HM de de fun a Z=>?_
   refine qr ?_
   refine Jb Z HM ((Jp 1∘Jq) fun a Z HM=>?_)
   have kY:q.length≤600000:=by rw [hq];exact YO hsh om
   have hsl:=q0i hsh hi
   refine ⟨(.row (.slice Ar ((ay s i).length) cr) ((ay s i).length) ((ay s i).map aK) 30 1:: .obj B (.deferred (some [])):: .row (.slice Ao q.length co) q.length (q.map aK) 30 1:: .blk g5 #[.slice Ao q.length co] 146:: .blk g1 s.cells 52::fr),HM.pt (fs':=(.obj lp (.loop (rec .ready none)):: .row (.slice Ar ((ay s i).length) cr) ((ay s i).length) ((ay s i).map aK) 30 1:: .obj B (.deferred (some [])):: .row (.slice Ao q.length co) q.length (q.map aK) 30 1:: .blk g5 #[.slice Ao q.length co] 146:: .blk g1 s.cells 52::fr)) 6 [0,1,2,3,4,5],fun w4 HM=>?_⟩
   refine wpIn_block ?_
   refine qr ?_
   refine Jb Z HM ((Jc O4∘Jp 1∘JD ((ay s i).map aK) 3 (fun _ _=>sV) zz (hr:=by exact fun HM=>HM.rd (i:=1) rfl) (h1:=by exact uR _)) fun Dj Bw c19 hc19=>(JW sW bg) fun Tx=>(AA∘Jq) fun a Z HM=>?_)
   have wz:q.length+((ay s i).length)=(q++(ay s i)).length:=zx rfl
   replace HM:=HM.bu (i:=3) (ys:=(q++(ay s i)).map aK) rfl wz (List.map_append.symm)
   rw [wz] at hc19
   rw [wz] at HM
   refine ⟨(.obj B (.deferred (some [])):: .row (.slice Bw ((q++(ay s i)).length) c19) ((q++(ay s i)).length) ((q++(ay s i)).map aK) 30 1:: .blk g5 #[.slice Bw ((q++(ay s i)).length) c19] 146:: .blk g1 s.cells 52::fr),HM.pt (fs':=(.obj lp (.loop (rec .busy none)):: .obj B (.deferred (some [])):: .row (.slice Bw ((q++(ay s i)).length) c19) ((q++(ay s i)).length) ((q++(ay s i)).map aK) 30 1:: .blk g5 #[.slice Bw ((q++(ay s i)).length) c19] 146:: .blk g1 s.cells 52::fr)) 6 [0,2,3,4,5],fun w5 HM=>?_⟩
   exact ⟨(.obj lp (.loop (rec .ready none)):: .obj B (.deferred (some [])):: .row (.slice Bw ((q++(ay s i)).length) c19) ((q++(ay s i)).length) ((q++(ay s i)).map aK) 30 1:: .blk g5 #[.slice Bw ((q++(ay s i)).length) c19] 146:: .blk g1 s.cells 52:: []),HM,rfl,⟨(q++(ay s i)),Bw,c19,by rw [hq,ql],hc19,rfl⟩⟩
  refine (qtu w w1 gv gp lp s hok hf hx hc hsh _ _ hy ⟨[],none,0,rfl,Nat.le_refl _,rfl⟩ (HM.pk [2,3,0,1,4,5,6])).mono ?_
  rintro r w2 ⟨v,rfl,F2,dh,⟨q,Ao,co,hq,hco,rfl⟩⟩
  exact ⟨v,rfl,.inl ⟨_,⟨q,Ao,co,hq,hco,rfl⟩,dh⟩⟩
 clear Z HM;rintro B a w6 _ ⟨q,Ao,co,hq,hco,rfl⟩ Z HM
 refine Jb Z HM ((JG∘JP∘Jc O2∘Jp 2∘Jj∘JZ) fun a Z HM=>?_)
 refine Cy Z HM (i:=0) rfl fun a w7 Z HM=>?_
 exact lu rfl Z rfl rfl (qth (rQ:=0) hk0.symm (by rw [Ff hk0,hq];rfl) (HM.own (i:=1) rfl) hco HM.below)
theorem NK:EI Tryz.prog 283 387 (.agg #[.string (ByteArray.mk #[]),vI 0,vI 0]) 3 32:=⟨by kernel_rfl,by kernel_rfl,rfl,by omega⟩
theorem qtv (s:bT) (hok:s.st.aB.Ok) (hf:bX s.st) (hc:eU s.st) (B:Nat) (w:World) (hL:ax B w) (hB:B≤w.heap.size) (hx:eB w s.st):
    Calls Tryz.prog 66 #[.agg s.cells] w (zp w (bL s) (dC s)):=by
 refine (dM Tryz.func66 22) ?_
 refine (JP∘JE) fun w1 g1=>(Jp 2∘Jr∘Jy (v:= .agg s.cells) (h:=by exact Yl.qm rfl rfl zr rfl (fun _ h=>qc (h.blk (i:=0) rfl)))∘JK (h:=by exact fun HM=>qog s hok hf hc _ (hx.old HM))) fun A8 c8 w8 hc8=>(Jp 1∘Jx∘Jx∘Jp 2∘Jj∘JQ∘JP∘Jp 2∘aT∘Jj) (Ju (fun ek=>?_) fun ek=>?_)
 ·
  intro a Z HM
  have j4:=bne_iff_ne.1 ek
  exact Jb Z HM ((JT∘JP∘Jp 3∘Jj∘JZ∘dL) fun HM=>qtj _ rfl (YS om) HM.below)
 intro a Z HM
 have j4:=bne_eq_false_iff_eq.1 ek
 have hk0:bL s=0:=by omega
 have hsh:=Ng hk0
 have hnl:=RS hsh
 rw [←Ff hk0] at hnl
 have hbf:=q0m hsh
 have hpos:=q0l s
 rw [←Ff hk0] at hpos
 have hfl:=zu (gY s)
 refine Jb Z HM ((JF∘aI∘JP∘JU aM #[vB 113,vB 115,vB 1]) fun yI g14=>fun a Z HM=>?_)
 refine fo Z 1 rfl rfl ?_
 refine YD Z HM 0 (e:=5) rfl rfl rfl kr kr rfl de ?_
 clear Z HM;intro a Ih Z HM
 refine Jb Z HM ((Jp 1∘JK (h:=by exact fun HM=>Qj A8 ((gY s).length) c8 (gY s) _ (HM.rd (i:=1) rfl) (by rw [Ff hk0];exact YP hok hf) (by have:=hnl;omega))) fun A17 c17 H7 hc17=>fun a Z HM=>?_)
 refine fo Z 4 rfl rfl ?_
 refine Wp Z HM (xs:=([113,115,1]:List Nat).map B8) (news:=((gY s).flatMap ah).map B8) rfl aM rfl rfl (HM.uS (i:=1) (size:=1) (n:=3) rfl rfl) (HM.rd (i:=0) rfl) om om (fun h=>by cases h) om om rfl de ?_
 clear Z HM;intro a w18 g18 c18 Z HM hc18
 have eF:3+((gY s).flatMap ah).length=(dB s).length:=q7d hk0
 replace HM:=HM.bu (i:=0) (ys:=(dB s).map B8) rfl eF (qtk hk0)
 rw [eF] at hc18
 replace Z:=Z.sp 18 (vS g18 ((dB s).length) c18) rfl (by rw [eF])
 exact Jb Z HM ((JK (h:=by exact fun HM=>QB (some ⟨g18,0,none⟩) ((dB s).length) c18 (dB s) B _ (hL.mem HM hB) (HM.le hB) (HM.rd (i:=0) rfl) rfl om (q0j s))) fun Bw c19 Dj hc19=>(Jx∘Jx∘Jp 2∘Jj∘JZ∘dL) fun HM=>qtl (rQ:=0) hk0.symm (Nh hk0).symm (HM.own (i:=0) rfl) hc19 HM.below)
section
variable {W w:World} {fs:List ag}
end
theorem qoi:∀(l:List Ev) (b:Bs) (e:Ev),recs b (l++[e])=recs b l++qI (match l.getLast? with|some q=>q.at|none=>b) e
 |[],b,e=>by simp [recs]
 |x::l,b,e=>by
  rw [List.cons_append,recs,recs,qoi l x.at e,List.append_assoc]
  congr 2
  cases l with
  |nil=>rfl
  |cons y r=>simp only [List.getLast?_cons,Option.getD_some]
def xN (b:Bs) (l:List Ev) (k:Nat):List Nat:=recs b (l.take k)
structure WriteAt (b:Bs) (l:List Ev) (k:Nat) (bk:Bs):Prop where
 base:bk=uk b l k
 head:0<k→l.head?.all b.behind=true
theorem WriteAt.start (b:Bs) (l:List Ev):WriteAt b l 0 b:=⟨rfl,fun h=>by omega⟩
section
variable {b bk:Bs} {l:List Ev} {k:Nat} {e:Ev}
theorem WriteAt.bad (h:WriteAt b l k bk) (hr:(bH l).2=0) (hb:b.right=true) (hk:l[k]?=some e) (hp:l8 bk e≠0):k=0:=by
 rcases Nat.eq_zero_or_pos k with h0|h0
 ·exact h0
 ·obtain ⟨hl,he⟩:=List.getElem?_eq_some_iff.1 hk
  have:=Vz hr hb (h.head h0) k hl
  rw [he,←h.base] at this
  exact absurd this hp
theorem WriteAt.fail (h:WriteAt b l k bk) (hr:(bH l).2=0) (hb:b.right=true) (hk:l[k]?=some e) (h0:k=0) (hp:l8 bk e≠0):za b l=l8 bk e:=by
 subst h0
 have hbk:bk=b:=h.base
 subst hbk
 obtain ⟨g1,_,_⟩:=Pn l none 0 hr
 have hc:=g1 e (List.mem_of_getElem? hk)
 have o6:¬bk.behind e=true:=by
  intro h1
  unfold l8 at hp
  rw [if_neg (by simp [hc]),if_pos ⟨hb,h1⟩] at hp
  exact hp rfl
 have hh:l.head?=some e:=by rw [List.head?_eq_getElem?];exact hk
 unfold za l8
 rw [if_neg om,if_neg (by simp [hh,o6]),if_neg (by simp [hc]),if_neg (by simp [o6])]
theorem WriteAt.up (h:WriteAt b l k bk) (hk:l[k]?=some e) (hp:l8 bk e=0):xN b l (k+1)=xN b l k++tY bk e:=by
 obtain ⟨hl,he⟩:=List.getElem?_eq_some_iff.1 hk
 unfold xN tY
 rw [List.take_add_one,hk,if_pos hp,h.base]
 show recs b (l.take k++[e])=_
 rw [qoi]
 congr 2
 cases k with
 |zero=>simp [uk]
 |succ j=>
  rw [show (l.take (j+1)).getLast?=l[j]? from by rw [List.getLast?_take];simp [List.getElem?_eq_getElem (show j<l.length by omega)]]
  rfl
theorem WriteAt.next (h:WriteAt b l k bk) (hk:l[k]?=some e) (hp:l8 bk e=0):WriteAt b l (k+1) e.at:=by
 refine ⟨by show e.at=(match l[k]? with|some e=>e.at|none=>b);rw [hk],fun _=>?_⟩
 rcases Nat.eq_zero_or_pos k with h0|h0
 ·subst h0
  have hbk:bk=b:=h.base
  subst hbk
  have hh:l.head?=some e:=by rw [List.head?_eq_getElem?];exact hk
  rw [hh]
  unfold l8 at hp
  split at hp
  ·omega
  ·split at hp
   ·rename_i h1;exact h1.2
   ·omega
 ·exact h.head h0
theorem WriteAt.done {w w':World} {n c:Nat} {A:Option Addr} (h:WriteAt b l n bk) (hr:(bH l).2=0) (hb:b.right=true) (hln:l.length=n) (ho:w'.ownsRow w.heap.size 5 1 (.slice A (xN b l n).length c) (xN b l n).length ((xN b l n).map B8)) (hc:(xN b l n).length≤c) (hw:Below w.heap.size w w'):
  zp w (za b l) (zf b l) (.returned (.tuple #[.slice A (xN b l n).length c,.int .i64 0])) w':=by
 have hh:l.head?.all b.behind=true:=by
  rcases Nat.eq_zero_or_pos n with h0|h0
  ·subst h0;rw [List.length_eq_zero_iff.1 hln];rfl
  ·exact h.head h0
 have he:za b l=0:=by unfold za;rw [if_neg om,if_pos ⟨hb,hh⟩]
 have hout:zf b l=xN b l n:=by unfold zf xN;rw [if_pos he,←hln,List.take_length]
 rw [he,hout]
 exact ⟨⟨A,c,rfl,ho,hc⟩,hw⟩
end
structure eG (b:Bs) (cpu:Nat) (m:Nat) (l:List Nat) (es:List Ev) (u:Nat) (bk:Bs):Prop where
 fits:u≤l.length
 most:es.length≤u
 few:es.length≤m
 last:∀q,es.getLast?=some q→bk=q.at
 said:qq cpu m b none l=dX es u (qq cpu (m-es.length) bk es.getLast? (l.drop u))
section
variable {b bk:Bs} {cpu m u L er:Nat} {l:List Nat} {es:List Ev} {e:Ev}
theorem eG.start (b:Bs) (cpu m:Nat) (l:List Nat):eG b cpu m l [] 0 b:=⟨Nat.zero_le _,Nat.le_refl _,Nat.zero_le _,fun q h=>by simp at h,(VY cpu m b none l).symm⟩
theorem eG.bad (h:eG b cpu m l es u bk) (hm:es.length<m) (hq:aC bk cpu (l.drop u)=(e,L,er)) (he:er≠0):qq cpu m b none l=([],0,er):=by
 rw [h.said,show m-es.length=(m-es.length-1)+1 by omega]
 exact VW hq he es u
theorem eG.same (h:eG b cpu m l es u bk) (hm:es.length<m) (hq:aC bk cpu (l.drop u)=(e,L,0)) (he:es.getLast?.any (fun q=>decide (e.seq=q.seq))=true):qq cpu m b none l=([],0,71):=by
 rw [h.said,show m-es.length=(m-es.length-1)+1 by omega]
 exact VX hq he es u
theorem eG.next (h:eG b cpu m l es u bk) (hm:es.length<m) (hq:aC bk cpu (l.drop u)=(e,L,0)) (he:es.getLast?.any (fun q=>decide (e.seq=q.seq))=false):eG b cpu m l (es++[e]) (u+L) e.at:=by
 have h1:=Pw bk cpu (l.drop u)
 rw [hq,List.length_drop] at h1
 simp only at h1
 have h2:=h1.2 trivial
 have h3:=h.fits
 have h4:=h.most
 refine ⟨by omega,by simp;omega,by simp;omega,fun q hq=>?_,?_⟩
 ·simp at hq;rw [hq]
 ·rw [h.said,show m-es.length=(m-es.length-1)+1 by omega,PD hq he es u,List.drop_drop]
  simp [Nat.sub_sub]
theorem eG.done (h:eG b cpu m l es u bk) (hm:m≤es.length):qq cpu m b none l=(es,u,0):=by
 rw [h.said,show m-es.length=0 by omega]
 simp [qq,dX]
end
def Bk.upto (b:Bk) (n:Nat):Bk:=⟨b.kind,b.cpu,b.lost,b.next,b.evs.take n⟩
def dE {α:Type} (f:α→α) (l:List α) (k:Nat):List α:=(l.take k).map f++l.drop k
theorem TM {α:Type} (f:α→α) (l:List α) (k:Nat):(dE f l k).length=l.length:=by
 unfold dE
 rw [List.length_append,List.length_map,List.length_take,List.length_drop]
 omega
theorem qtw {α:Type} (f:α→α) (l:List α):dE f l 0=l:=by simp [dE]
theorem FD {α:Type} (f:α→α) (l:List α) {k:Nat} (d:α) (h:k<l.length):(dE f l k)[k]?=some (l.getD k d):=by
 unfold dE
 rw [List.getElem?_append_right (by rw [List.length_map,List.length_take];omega),List.length_map,List.length_take,Nat.min_eq_left om,Nat.sub_self,List.getElem?_drop,List.getD_eq_getElem?_getD,Nat.add_zero,List.getElem?_eq_getElem h]
 rfl
theorem qtx {α:Type} (f:α→α) (l:List α) {k:Nat} (d:α) (h:k<l.length):(dE f l k).set k (f (l.getD k d))=dE f l (k+1):=by
 unfold dE
 have hk:(l.take k).length=k:=by rw [List.length_take];omega
 have hd:l.drop k=l.getD k d::l.drop (k+1):=by
  rw [List.getD_eq_getElem?_getD,List.getElem?_eq_getElem h]
  exact List.drop_eq_getElem_cons h
 have ht:l.take (k+1)=l.take k++[l.getD k d]:=by
  rw [List.take_succ_eq_append_getElem h,List.getD_eq_getElem?_getD,List.getElem?_eq_getElem h]
  rfl
 rw [List.set_append,if_neg (by rw [List.length_map];omega),List.length_map,hk,Nat.sub_self,hd,List.set_cons_zero,ht,List.map_append,List.append_assoc]
 rfl
end Go.Proofs.YtieeckeaijdaeaaGreatDoor
