/- Parts. -/
import Derived.Test.YtekiimhdnigmcaaGreatDoorQsZ3
set_option linter.all false
set_option maxRecDepth 100000
set_option maxHeartbeats 1000000
namespace Go.Proofs.YtekiimhdnigmcaaGreatDoor
open Go.RowKit
theorem QA (cpu:Nat) (A:Option Addr) (n c:Nat) (l:List It) (opn:Int) (k:Nat) (hG:bQ cpu l opn) (hk:k≤n) (w:World) (hr:Rd w w.heap.size 12 A n (l.flatMap bV)) (hln:l.length=n) (hn:n≤1000000):
    Calls Tryz.prog 124 #[vB cpu,.slice A n c,vI opn,vI k] w (FE w (aT cpu l opn k)):=by
 refine (uY Tryz.func124 47) ?_
 refine (JP∘JA #[vB 0,vB 0,vI 0,vI 0,vN]) fun w8 g8=>(Jr∘Jp 1∘Jy (v:= .agg #[vB 1,vB cpu,vI 0,vI 0,vN]) (h:=by exact Yl.build (vs:=[(0,vB 1),(1,vB cpu)]) rfl kr kr)∘JA #[vB 0,vB 0,vI 0,vI 0,vN]) fun w9 g9=>(JV qi aZ) fun ajx=>(aY∘Jq) fun a Z HM=>?_
 replace HM:=HM.nil 242 11
 refine Jb Z HM ((JG∘JQ∘JP∘Jp 1∘Jj∘JB) fun a Z HM=>?_)
 refine qc (fun mS aS wS=>∃(j:Nat) (Aj:Option Addr) (cj:Nat),(j≤k)∧(j≤cj)∧mS=k-j∧Fr aS 47 [] [(10,vI j),(9,vP g9 0),(8,vP g8 0),(1,.slice A n c),(2,vI opn),(3,vI k)]∧Mem w wS [.row (.slice Aj j cj) j ((aJ (l.take j)).flatMap aN) 242 11,.blk g9 #[vB 1,vB cpu,vI (bO (aW (l.take j))),vI 0,.slice Aj j cj] 80,.blk g8 #[vB 0,vB 0,vI 0,vI 0,vN] 80]) (m:=k-0) ⟨0,none,0,Nat.zero_le _,Nat.le_refl _,rfl,Z.sub kr,HM.pk [0,1,2]⟩ ?_
 clear Z HM;rintro mS a w_ ⟨j,Aj,cj,hj,hcj,rfl,Z,HM⟩
 refine Jb Z HM ((JQ∘JP∘Jp 3∘aY∘Jj) (Ju (fun eF=>?_) fun eF=>?_))
 ·
  intro a Z HM
  have iR:=of_decide_eq_true eF
  have ajy:j<k:=by omega
  have ho0:=hG.o0
  have hp0:=hG.part j
  have hp1:=hG.part (j+1)
  have hps:=qyd (l:=l) (j:=j) om
  refine Jb Z HM ((JT∘aF∘JQ∘JB) fun a Z HM=>?_)
  refine wp_seq ?_
  refine Jb Z HM ((Vs (.f .n) [10]) fun wd5=>(Vf 0 4∘Vp [2,3]∘Vc 1 O0) ?_)
  repeat (first|clear Z|clear HM|clear HS)
  intro a Z HM HS
  obtain ⟨gA,oA,rfl,_⟩:=hr.qm (Nat.lt_of_le_of_lt (Nat.zero_le _) (show j<n from by omega)) de
  refine Vb Z HM HS ((Vy 4 (h:=by exact Yl.ix gA oA j 12 rfl rfl rfl)∘Vf 5 0∘Vy 6 (v:= .agg ((l.getD j It.zero).e.cells)) (h:=by exact Yl.qg rfl rfl ⟨kr,kr⟩ rfl (fun _ h=>(h.old hr).Wm zn (k:=j) (j:=0) (m:=11) (x:=(l.getD j It.zero)) ((getD_at It.zero (k:=j) (by first|omega|(simp;omega)))) rfl))) fun a Z HM HS=>?_)
  refine s_on Z 7 rfl (uU Z HM xI [(0,.agg ((l.getD j It.zero).e.cells))] (l.getD j It.zero).e.cells ?_)
  clear Z HM;intro a rM Gp Z HM
  refine aK (HM.pk [2,3]) (fun HS=>?_)
  refine s_on Z 8 rfl (qV Z HM (i:=1) rfl xI rfl rfl rfl (news:=(aN (l.getD j It.zero).e)) (HM.aU (i:=0) (n:=1) (size:=11) rfl rfl) (zf _) om om rfl de ?_)
  clear Z HM;intro a Dh Bt xZ Z HM vU
  rw [show ((aJ (l.take j)).flatMap aN)++(aN (l.getD j It.zero).e)=(aJ (l.take (j+1))).flatMap aN from by rw [NV om]] at HM
  refine aK (HM.pk [2,3]) (fun HS=>?_)
  refine Vb Z HM HS ((Vf 9 4) fun a Z HM HS=>?_)
  refine s_on Z 10 rfl (gu Z HM 2 fun F4 HM=>?_)
  refine fZ kr ?_
  refine qd kr ?_
  refine Jb Z HM ((Vs .n [9]) fun ET=>(Vf 0 2∘Vp [2,3]∘Vc 1 O2∘Vy 4 (h:=by exact Yl.ix gA oA j 12 rfl rfl rfl)∘Vf 5 11∘Vy 6 (v:=vI ((l.getD j It.zero).before)) (h:=by exact Yl.qn rfl rfl kr (fun _ h=>(h.old hr).partAt zn (k:=j) (j:=11) (x:=(l.getD j It.zero)) ((getD_at It.zero (k:=j) (by first|omega|(simp;omega)))) rfl))∘Vp [7]∘Vo (vI (bO (aW (l.take (j+1))))) (by rw [hps];exact oH ⟨by omega,by omega⟩)∘Vf 8 2) fun a Z HM HS=>?_)
  refine s_on Z 9 rfl (gu Z HM 2 fun Gg HM=>?_)
  refine fZ kr ?_
  refine qd kr ?_
  refine Jb Z HM ((JG∘JR∘Jp 1∘cK 1∘Jp 1∘aI∘Jq) fun a Z HM=>?_)
  exact ⟨_,om,j+1,Bt,xZ,by omega,vU,rfl,Z.sub kr,HM.pk [1,2,3]⟩
 intro a Z HM
 have iR:=of_decide_eq_false eF
 revert HM;revert a;repeat (first|clear Z|clear HM)
 intro a Z HM
 obtain rfl:j=k:=by omega
 have hp0:=hG.part j
 have ho0:=hG.o0
 refine Jb Z HM ((JF∘JX∘JG∘JQ∘JP∘Jp 2∘Jl∘Jp 1∘bT∘Jj) (Ju (fun dD=>?_) fun dD=>?_))
 ·
  intro a Z HM
  have jG:=eq_of_beq dD
  have hlo:=Wt (cpu:=cpu) (opn:=opn) (l:=l) (k:=j) om
  refine Jb Z HM ((JT∘JR∘Jg 2 O1∘Jp 2∘Jo (vI ((bO (aW (l.take j)))+opn)) (by exact oH ⟨by omega,by omega⟩)∘Jf 2∘JW dO fF) fun Gh=>(yN∘Jr∘Jy (v:= .agg #[vB 1,vB cpu,vI ((bO (aW (l.take j)))+opn),vI 0,.slice Aj j cj]) (h:=by exact Yl.qg rfl rfl qi rfl (fun _ h=>qb (h.blk (i:=1) rfl)))∘JV qi fF) fun Bn=>(kg∘Jj∘JZ) fun a Z HM=>?_)
  exact iy rfl Z (.cellS (i:=2) Z HM rfl rfl qi rfl) (⟨⟨Aj,cj,by rw [←Kg om (by rw [hlo])],by rw [pW om];exact HM.own (i:=0) rfl,by rw [pW om];omega⟩,HM.below⟩)
 intro a Z HM
 have jG:=ne_of_beq_false dD
 have hlo:=Wu (cpu:=cpu) (opn:=opn) (l:=l) (k:=j) om
 refine Jb Z HM ((JF∘aF∘JP∘Jy (v:= .agg #[vB 1,vB cpu,vI (bO (aW (l.take j))),vI 0,.slice Aj j cj]) (h:=by exact Yl.qg rfl rfl qi rfl (fun _ h=>qb (h.blk (i:=1) rfl)))∘JV qi fF) fun Bn=>(kg∘Jj∘JZ) fun a Z HM=>?_)
 exact iy rfl Z (.cellS (i:=2) Z HM rfl rfl qi rfl) (⟨⟨Aj,cj,by rw [←Kg om (by rw [hlo])],by rw [pW om];exact HM.own (i:=0) rfl,by rw [pW om];omega⟩,HM.below⟩)
theorem Zi (cpu:Nat) (bA:cpu<256) (A:Option Addr) (n c:Nat) (l:List It) (opn limit:Int) (hok:∀x∈l,x.Ok) (ho:aM opn) (hlm:aM limit) (w:World) (hr:Rd w w.heap.size 12 A n (l.flatMap bV)) (hc:n≤c) (hln:l.length=n) (hn:n≤1000000):
    Calls Tryz.prog 58 #[vB cpu,.slice A n c,vI opn,vI limit] w (rV 242 80 w (bH cpu l opn limit).2 (bH cpu l opn limit).1):=by
 subst hln
 refine (uY Tryz.func58 71) ?_
 refine (JP∘Jp 2∘Jj∘JQ∘JP∘Jp 3) (Ji (fun gG=>?_) fun gG=>?_)
 ·
  exact (Jp 7∘aI∘Jj∘JT∘JP∘Jp 2∘Jj∘JZ∘bY) fun HM=>by rw [CX om];exact rW HM rfl
 refine (Jp 4) (Ji (fun rY=>?_) fun rY=>?_)
 ·
  exact (Jp 3∘aI∘Jj∘JT∘JP∘Jp 2∘Jj∘JZ∘bY) fun HM=>by rw [CX om];exact rW HM rfl
 refine (Jp 3∘aI∘Jj) (Ji (fun gF=>?_) fun gF=>?_)
 ·
  exact (JT∘JP∘Jp 2∘Jj∘JZ∘bY) fun HM=>by rw [CX om];exact rW HM rfl
 refine (JF∘aF∘JQ∘JP∘Jp 3∘JI (h:=by exact fun HM=>qpz cpu A l.length c l opn hok ho _ (HM.old hr) rfl om)) fun rM hbw=>(Jp 1∘dR∘Jj) (Ju (fun dG=>?_) fun dG=>?_)
 ·
  intro a Z HM
  have hbad:zo cpu l opn=false:=by rw [←V9 om hok];simpa using dG
  exact Jb Z HM ((JT∘JP∘Jp 2∘Jj∘JZ∘bY) fun HM=>by rw [V3 om hbad];exact rW HM rfl)
 intro a Z HM
 have hgood:zo cpu l opn=true:=by rw [←V9 om hok];simpa using dG
 have hG:=bQ.of om hok hgood
 have ho0:=hG.o0
 refine Jb Z HM ((JF∘aF∘JP∘Jp 1∘Jq) ?_)
 repeat (first|clear Z|clear HM)
 intro a Z HM
 obtain ⟨lim,rfl⟩:∃k:Nat,limit=(k:Int):=⟨limit.toNat,by omega⟩
 replace HM:=HM.nil 80 5
 replace HM:Mem w _ (.row (vN) 0 [] 80 5::bG 242 []):=HM
 refine Jb Z HM ((JG∘JQ∘JP∘Jp 1∘Jl∘Jp 2) (Je (fun BH=>?_) fun BH=>?_))
 ·
  refine (Jp 3∘aI∘Jj) (Ji (fun oq=>?_) fun oq=>?_)
  ·
   refine (JT∘JR∘Jp 4∘JK (h:=by exact fun HM=>QA cpu A l.length c l opn 0 hG om _ (HM.old hr) rfl om)) fun dx dw yX hc38=>(JU Ai ((aT cpu l opn 0).cells dx dw)) fun w39 QB=>(JD (hbL (⟨aT cpu l opn 0,dx,dw⟩:Hb)) 2 (fun _ _=>fF) Ai (hr:=by exact fun HM=>HM.aU (i:=0) (n:=1) (size:=5) rfl rfl) (h1:=by exact zy _ _ _)) fun TN rD c40 uZ=>(Jp 1∘aI∘Jq) fun a Z HM=>?_
   have jE:0+1=(([]:List Hb)++[(⟨aT cpu l opn 0,dx,dw⟩:Hb)]).length:=by rw [List.length_append];rfl
   replace HM:=HM.aV (i:=2) (ys:=(([]:List Hb)++[(⟨aT cpu l opn 0,dx,dw⟩:Hb)]).flatMap hbL) rfl jE (by rw [List.flatMap_append,List.flatMap_cons,List.flatMap_nil,List.append_nil])
   rw [jE] at uZ
   replace Z:=Z.sp 10 (.slice rD ((([]:List Hb)++[(⟨aT cpu l opn 0,dx,dw⟩:Hb)]).length) c40) rfl (by rw [jE])
   replace HM:=Mem.Ns (a:=[.blk QB ((aT cpu l opn 0).cells dx dw) 80,.row (.slice rD ((([]:List Hb)++[(⟨aT cpu l opn 0,dx,dw⟩:Hb)]).length) c40) ((([]:List Hb)++[(⟨aT cpu l opn 0,dx,dw⟩:Hb)]).length) ((([]:List Hb)++[(⟨aT cpu l opn 0,dx,dw⟩:Hb)]).flatMap hbL) 80 5]) (q:=([]:List Hb)) (HM.pt (fs':=(.row (.slice dx ((aT cpu l opn 0).evs.length) dw) ((aT cpu l opn 0).evs.length) ((aT cpu l opn 0).evs.flatMap aN) 242 11:: .blk QB ((aT cpu l opn 0).cells dx dw) 80:: .row (.slice rD ((([]:List Hb)++[(⟨aT cpu l opn 0,dx,dw⟩:Hb)]).length) c40) ((([]:List Hb)++[(⟨aT cpu l opn 0,dx,dw⟩:Hb)]).length) ((([]:List Hb)++[(⟨aT cpu l opn 0,dx,dw⟩:Hb)]).flatMap hbL) 80 5::bG 242 [])) 3 [1,0,2]) rfl
   replace HM:Mem w _ (.blk QB ((aT cpu l opn 0).cells dx dw) 80:: .row (.slice rD ((([]:List Hb)++[(⟨aT cpu l opn 0,dx,dw⟩:Hb)]).length) c40) ((([]:List Hb)++[(⟨aT cpu l opn 0,dx,dw⟩:Hb)]).length) ((([]:List Hb)++[(⟨aT cpu l opn 0,dx,dw⟩:Hb)]).flatMap hbL) 80 5::bG 242 (([]:List Hb)++[(⟨aT cpu l opn 0,dx,dw⟩:Hb)])):=HM
   refine Jb Z HM ((JG∘JQ∘JB∘JM (.f .n)) fun a Z HM=>?_)
   refine qc (fun mS aS wS=>∃(z:Nat),mS=0+z∧Fr aS 71 [] [(10,.slice rD ((([]:List Hb)++[(⟨aT cpu l opn 0,dx,dw⟩:Hb)]).length) c40),(33,.bool true),(26,.bool false),(21,.bool false),(9,vI 0),(8,vN),(0,vB cpu),(1,.slice A l.length c),(2,vI opn),(3,vI lim)]∧Mem w wS (.row (.slice rD ((([]:List Hb)++[(⟨aT cpu l opn 0,dx,dw⟩:Hb)]).length) c40) ((([]:List Hb)++[(⟨aT cpu l opn 0,dx,dw⟩:Hb)]).length) ((([]:List Hb)++[(⟨aT cpu l opn 0,dx,dw⟩:Hb)]).flatMap hbL) 80 5::bG 242 (([]:List Hb)++[(⟨aT cpu l opn 0,dx,dw⟩:Hb)]))) (m:=0+0) ⟨0,rfl,Z.sub kr,HM.pt 1 [0]⟩ ?_
   clear Z HM;rintro mS a w_ ⟨z,rfl,Z,HM⟩
   refine Jb Z HM ((JQ∘JP∘Jp 1∘Jl∘Jp 1∘aY∘Jj) (Ju (fun eB=>?_) fun eB=>?_))
   ·
    intro a Z HM
    have lG:=of_decide_eq_true eB
    exfalso;omega
   intro a Z HM
   have lG:=of_decide_eq_false eB
   refine Jb Z HM ((JF∘JX∘JG∘JP∘Jp 3∘Jj∘JZ) fun a Z HM=>?_)
   replace HM:=HM.pt (fs':=(.row (.slice rD ((([]:List Hb)++[(⟨aT cpu l opn 0,dx,dw⟩:Hb)]).length) c40) ((([]:List Hb)++[(⟨aT cpu l opn 0,dx,dw⟩:Hb)]).length) ((([]:List Hb)++[(⟨aT cpu l opn 0,dx,dw⟩:Hb)]).flatMap hbL) 80 5::bG 242 (([]:List Hb)++[(⟨aT cpu l opn 0,dx,dw⟩:Hb)]))) 1 [0]
   exact jC rfl Z rfl rfl (by rw [V5 om hgood om om,show (⟨1,cpu,opn,0,[]⟩:Bk)=aT cpu l opn 0 from (q18 om).symm];exact Jt HM uZ)
  refine (JF∘aF∘JQ∘JB) fun a Z HM=>?_
  refine qc (fun mS aS wS=>∃(z:Nat),mS=0+z∧Fr aS 71 [] [(33,.bool false),(10,vN),(26,.bool false),(21,.bool false),(9,vI 0),(8,vN),(0,vB cpu),(1,.slice A l.length c),(2,vI opn),(3,vI lim)]∧Mem w wS (.row (vN) 0 [] 80 5::bG 242 [])) (m:=0+0) ⟨0,rfl,Z.sub kr,HM.pt 1 [0]⟩ ?_
  clear Z HM;rintro mS a w_ ⟨z,rfl,Z,HM⟩
  refine Jb Z HM ((JQ∘JP∘Jp 1∘Jl∘Jp 1∘aY∘Jj) (Ju (fun eB=>?_) fun eB=>?_))
  ·
   intro a Z HM
   have lG:=of_decide_eq_true eB
   exfalso;omega
  intro a Z HM
  have lG:=of_decide_eq_false eB
  exact Jb Z HM ((JF∘JX∘JG∘JP∘Jp 3∘Jj∘JZ∘bY) fun HM=>by rw [V4 om hgood om om];exact rW HM rfl)
 refine (Jp 3∘aI∘Jj∘JF∘aF∘JQ∘JB) fun a Z HM=>?_
 refine qc (fun mS aS wS=>∃(r:List It) (X:Option Addr) (cc:Nat) (q:List Hb) (f:Nat) (Ao:Option Addr) (co:Nat),(Rd w w.heap.size 12 X r.length (r.flatMap bV))∧(r.length≤cc)∧(bQ cpu r opn)∧(r.length≤l.length)∧(r.length≤f)∧(q.map Hb.b++dX cpu opn lim f r=dX cpu opn lim l.length l)∧(q.length≤co)∧(q.length+r.length≤l.length)∧mS=r.length∧Fr aS 71 [] [(33,.bool false),(10,.slice Ao q.length co),(26,.bool false),(21,.bool false),(9,vI 0),(8,vN),(0,vB cpu),(1,.slice X r.length cc),(2,vI opn),(3,vI lim)]∧Mem w wS (.row (.slice Ao q.length co) q.length (q.flatMap hbL) 80 5::bG 242 q)) (m:=l.length) ⟨l,A,c,[],l.length,none,0,hr,by omega,hG,by omega,Nat.le_refl _,List.nil_append _,Nat.le_refl _,by simp,rfl,Z.sub kr,HM.pt 1 [0]⟩ ?_
 clear Z HM;rintro mS a w_ ⟨r,X,cc,q,f,Ao,co,hX,hcc,qB,hrn,hf,hq,hco,kW,rfl,Z,HM⟩
 refine Jb Z HM ((JQ∘JP∘Jp 1∘Jl∘Jp 1∘aY∘Jj) (Ju (fun eB=>?_) fun eB=>?_))
 ·
  intro a Z HM
  have lG:=of_decide_eq_true eB
  have hr0:0<r.length:=by omega
  obtain ⟨m0,hm0⟩:∃m,m=min r.length lim:=⟨_,rfl⟩
  obtain ⟨hcp,hcl,hce⟩:=NP qB (limit:=lim) om hr0
  have hst:=NQ (cpu:=cpu) (limit:=lim) (opn:=opn) hr0 (f:=f) om
  have hcd:gP cpu r opn lim=ji (fun n=>decide ((aT cpu r opn n).err=0)) m0:=by rw [hm0];rfl
  refine Jb Z HM ((JT∘aF∘JB∘JP∘Jp 1∘Jl∘Jp 1∘aY∘Jj) fun a Z HM=>?_)
  refine qw (fun aS wS=>Fr aS 71 [] [(11,vI m0),(43,.bool true),(33,.bool false),(10,.slice Ao q.length co),(26,.bool false),(21,.bool false),(9,vI 0),(8,vN),(0,vB cpu),(1,.slice X r.length cc),(2,vI opn),(3,vI lim)]∧Mem w wS (.row (.slice Ao q.length co) q.length (q.flatMap hbL) 80 5::bG 242 q)) ?_ ?_
  ·
   refine Jb Z HM ((JP∘Jp 3∘aY∘Jj) (Ji (fun QC=>?_) fun QC=>?_))
   ·
    refine (JT∘JR∘Jp 2∘aR∘Jq) fun a Z HM=>?_
    have Z:=Z.sp 11 (vI m0) rfl (by congr 1;omega)
    exact ⟨Z.sub kr,HM.pt 1 [0]⟩
   refine (JF∘JS) fun a Z HM=>?_
   have Z:=Z.sp 11 (vI m0) rfl (by congr 1;omega)
   exact ⟨Z.sub kr,HM.pt 1 [0]⟩
  clear Z HM;rintro a ajz ⟨Z,HM⟩
  refine Jb Z HM ((JQ∘JB) fun a Z HM=>?_)
  refine qc (fun mS aS wS=>∃(m:Nat),(m≤r.length)∧(gP cpu r opn lim≤m)∧(gP cpu r opn lim=ji (fun n=>decide ((aT cpu r opn n).err=0)) m)∧mS=0+m∧Fr aS 71 [] [(11,vI m),(43,.bool true),(33,.bool false),(10,.slice Ao q.length co),(26,.bool false),(21,.bool false),(9,vI 0),(8,vN),(0,vB cpu),(1,.slice X r.length cc),(2,vI opn),(3,vI lim)]∧Mem w wS (.row (.slice Ao q.length co) q.length (q.flatMap hbL) 80 5::bG 242 q)) (m:=0+m0) ⟨m0,by omega,by rw [hcd];exact Ag _ _,hcd,rfl,Z.sub kr,HM.pt 1 [0]⟩ ?_
  clear Z HM;rintro mS a w_ ⟨m,hm,hmc,hdn,rfl,Z,HM⟩
  refine Jb Z HM ((JQ∘JP∘Jp 4∘JK (h:=by exact fun HM=>QA cpu X r.length cc r opn m qB om _ (HM.old hX) rfl om)) fun xR uK pY sO=>(JI (h:=by exact fun HM=>KN (aT cpu r opn m) (NK qB m) xR uK _ (HM.rd (i:=0) rfl) (by rw [pW om];omega))) fun vL hbw=>(Jp 1∘aI∘Jj) (Ju (fun jY=>?_) fun jY=>?_))
  ·
   intro a Z HM
   have nZ:=bne_iff_ne.1 jY
   have hdd:=V7 (p:=(fun n=>decide ((aT cpu r opn n).err=0))) (m:=m) (by rw [decide_eq_false_iff_not];omega) om
   have hle:=Ag (fun n=>decide ((aT cpu r opn n).err=0)) (m-1)
   refine Jb Z HM ((JT∘aF∘JB∘JR∘Jp 1∘yO 1∘Jp 1∘aY∘Jq) fun a Z HM=>?_)
   exact ⟨_,om,(m-1),by omega,by rw [hdn,hdd];exact hle,hdn.trans hdd,rfl,Z.sub kr,HM.pt 2 [1]⟩
  intro a Z HM
  have nZ:=bne_eq_false_iff_eq.1 jY
  have sZ:=V8 (p:=(fun n=>decide ((aT cpu r opn n).err=0))) (m:=m) (by rw [decide_eq_true_eq];omega)
  rw [hdn,sZ] at hst
  refine Jb Z HM ((JF∘JX∘JG∘JP∘Jp 5∘JK (h:=by exact fun HM=>QA cpu X r.length cc r opn m qB om _ (HM.old hX) rfl om)) fun kY c64 w64 ajA=>(JU Ai ((aT cpu r opn m).cells kY c64)) fun w65 QD=>(JD (hbL (⟨aT cpu r opn m,kY,c64⟩:Hb)) 3 (fun _ _=>jm) Ai (hr:=by exact fun HM=>HM.aU (i:=0) (n:=1) (size:=5) rfl rfl) (h1:=by exact zy _ _ _)) fun w66 GN GQ GR=>(Jp 1∘aI∘Jq) fun a Z HM=>?_)
  have tY:q.length+1=(q++[(⟨aT cpu r opn m,kY,c64⟩:Hb)]).length:=by rw [List.length_append];rfl
  replace HM:=HM.aV (i:=3) (ys:=(q++[(⟨aT cpu r opn m,kY,c64⟩:Hb)]).flatMap hbL) rfl tY (by rw [List.flatMap_append,List.flatMap_cons,List.flatMap_nil,List.append_nil])
  rw [tY] at GR
  replace Z:=Z.sp 10 (.slice GN ((q++[(⟨aT cpu r opn m,kY,c64⟩:Hb)]).length) GQ) rfl (by rw [tY])
  replace HM:=Mem.Ns (a:=[.blk QD ((aT cpu r opn m).cells kY c64) 80,.row (.slice xR ((aT cpu r opn m).evs.length) uK) ((aT cpu r opn m).evs.length) ((aT cpu r opn m).evs.flatMap aN) 242 11,.row (.slice GN ((q++[(⟨aT cpu r opn m,kY,c64⟩:Hb)]).length) GQ) ((q++[(⟨aT cpu r opn m,kY,c64⟩:Hb)]).length) ((q++[(⟨aT cpu r opn m,kY,c64⟩:Hb)]).flatMap hbL) 80 5]) (q:=q) (HM.pt (fs':=(.row (.slice kY ((aT cpu r opn m).evs.length) c64) ((aT cpu r opn m).evs.length) ((aT cpu r opn m).evs.flatMap aN) 242 11:: .blk QD ((aT cpu r opn m).cells kY c64) 80:: .row (.slice xR ((aT cpu r opn m).evs.length) uK) ((aT cpu r opn m).evs.length) ((aT cpu r opn m).evs.flatMap aN) 242 11:: .row (.slice GN ((q++[(⟨aT cpu r opn m,kY,c64⟩:Hb)]).length) GQ) ((q++[(⟨aT cpu r opn m,kY,c64⟩:Hb)]).length) ((q++[(⟨aT cpu r opn m,kY,c64⟩:Hb)]).flatMap hbL) 80 5::bG 242 q)) 4 [1,0,2,3]) rfl
  replace HM:Mem w _ (.blk QD ((aT cpu r opn m).cells kY c64) 80:: .row (.slice xR ((aT cpu r opn m).evs.length) uK) ((aT cpu r opn m).evs.length) ((aT cpu r opn m).evs.flatMap aN) 242 11:: .row (.slice GN ((q++[(⟨aT cpu r opn m,kY,c64⟩:Hb)]).length) GQ) ((q++[(⟨aT cpu r opn m,kY,c64⟩:Hb)]).length) ((q++[(⟨aT cpu r opn m,kY,c64⟩:Hb)]).flatMap hbL) 80 5::bG 242 (q++[(⟨aT cpu r opn m,kY,c64⟩:Hb)])):=HM
  refine Jb Z HM ((JG∘JR∘Jp 2∘Jy (v:= .slice (if cc=m then X else X.map (·.add (m*12))) (r.length-m) (cc-m)) (h:=by exact Yl.sliceFrom NU (j:=m) rfl rfl rfl om)∘Jo (.slice (if cc=m then X else X.map (·.add (m*12))) ((r.drop m).length) (cc-m)) (by rw [List.length_drop])∘Jp 1∘bT∘Jq) fun a Z HM=>?_)
  exact ⟨_,(by rw [List.length_drop];omega),(r.drop m),if cc=m then X else X.map (·.add (m*12)),cc-m,(q++[(⟨aT cpu r opn m,kY,c64⟩:Hb)]),(f-1),GN,GQ,Rd.Wj zn hX om hcc,by rw [List.length_drop];omega,qB.drop m,by rw [List.length_drop];omega,by rw [List.length_drop];omega,by rw [←hq,hst,List.map_append,List.append_assoc];rfl,GR,by rw [List.length_append,List.length_drop,List.length_singleton];omega,rfl,Z.sub kr,HM.pt 3 [2]⟩
 intro a Z HM
 have lG:=of_decide_eq_false eB
 have hq2:q.map Hb.b=dX cpu opn lim l.length l:=by rw [←hq,NR om,List.append_nil]
 refine Jb Z HM ((JF∘JX∘JG∘JP∘Jp 3∘Jj∘JZ) fun a Z HM=>?_)
 replace HM:=HM.pt (fs':=(.row (.slice Ao q.length co) q.length (q.flatMap hbL) 80 5::bG 242 q)) 1 [0]
 exact jC rfl Z rfl rfl (by rw [V6 om hgood om,←hq2];exact Jt HM hco)
theorem zt:SI Tryz.prog 146 2:=⟨by kernel_rfl,by kernel_rfl⟩
theorem qp0 (A:Option Addr) (c:Nat) (q:List Hb) (w:World) (hr:Rd w w.heap.size 5 A q.length (q.flatMap hbL)) (hQ:fA w q) (hok:∀h∈q,h.b.Ok) (hev:∀h∈q,h.b.evs.length≤1000000) (hn:q.length≤1000000):
    Calls Tryz.prog 94 #[.slice A q.length c] w (za w (q9 (q.map Hb.b)).2 (q9 (q.map Hb.b)).1):=by
 refine (dh Tryz.func94 32) ?_
 refine (JP∘Jp 2∘Jr∘Jp 1∘Jq) fun a Z HM=>?_
 replace HM:=HM.nil 5 1
 refine Jb Z HM ((JG∘JQ∘JP∘Jp 1∘Jj∘JB) fun a Z HM=>?_)
 refine qc (fun mS aS wS=>∃(k:Nat) (R:List Nat) (Ao:Option Addr) (co:Nat),(k≤q.length)∧(cO (q.map Hb.b)=cO ((q.drop k).map Hb.b))∧(R=bD ((q.take k).map Hb.b))∧(R.length≤4096*k)∧(R.length≤co)∧mS=q.length-k∧Fr aS 32 [] [(5,vI k),(4,.slice Ao R.length co),(3,vI 0),(2,vN),(0,.slice A q.length c)]∧Mem w wS [.row (.slice Ao R.length co) R.length (R.map B8) 5 1]) (m:=q.length-0) ⟨0,[],none,0,Nat.zero_le _,by rw [List.drop_zero],rfl,by simp,Nat.le_refl _,rfl,Z.sub kr,HM.pk [0]⟩ ?_
 clear Z HM;rintro mS a w_ ⟨k,R,Ao,co,hk,her,hR,hRl,hco,rfl,Z,HM⟩
 refine Jb Z HM ((JQ∘JP∘Jp 2∘Jl∘Jp 1∘bT∘Jj) (Ju (fun gU=>?_) fun gU=>?_))
 ·
  intro a Z HM
  have jD:=of_decide_eq_true gU
  have nY:k<q.length:=by omega
  have hol:=E8 (q.getD k Hb.zero).b
  refine Jb Z HM ((JT∘aF∘JQ∘JB∘JP∘Jp 2) ?_)
  repeat (first|clear Z|clear HM)
  intro a Z HM
  obtain ⟨gA,oA,rfl,_⟩:=hr.qm (Nat.lt_of_le_of_lt (Nat.zero_le _) (show k<q.length from by omega)) de
  refine Jb Z HM ((Jy (h:=by exact Yl.ix gA oA k 5 rfl rfl rfl)∘Jy (v:= .agg ((q.getD k Hb.zero).b.cells (q.getD k Hb.zero).A (q.getD k Hb.zero).c)) (h:=by exact Yl.qg rfl rfl qi rfl (fun _ h=>(h.old hr).q8 nQ ((getD_at Hb.zero (k:=k) (by first|omega|(simp;omega))))))∘JK (h:=by exact fun HM=>Pb (q.getD k Hb.zero).b (hok _ (q7 Hb.zero nY)) ((q.getD k Hb.zero).A) (q.getD k Hb.zero).c _ (HM.old (hQ.at nY)) (hev _ (q7 Hb.zero nY)))) fun gL c19 uJ hc19=>(Jp 1∘Jx∘Jx∘Jp 2∘Jj∘JQ∘JP∘Jp 2∘aR∘Jj) (Ju (fun eD=>?_) fun eD=>?_))
  ·
   intro a Z HM
   have lI:=bne_iff_ne.1 eD
   have hE:=q5h nY her om
   exact Jb Z HM ((JT∘JP∘Jp 3∘Jj∘JZ∘bY) fun HM=>Kl HM.below (N8 (by rw [hE];omega)) (by rw [hE]))
  intro a Z HM
  have lI:=bne_eq_false_iff_eq.1 eD
  have hE:=q5i nY her om
  refine Jb Z HM ((JF∘aF∘JR∘Jp 2∘JD ((q.getD k Hb.zero).b.out.map B8) 1 (fun _ _=>dO) aB (hr:=by exact fun HM=>HM.rd (i:=0) rfl) (h1:=by exact zk _)) fun OX xU xV hc27=>fun a Z HM=>?_)
  rw [show (R.map B8)++((q.getD k Hb.zero).b.out.map B8)=(R++(q.getD k Hb.zero).b.out).map B8 from by rw [List.map_append]] at HM
  refine Jb Z HM ((Jp 1∘bT∘Jq) fun a Z HM=>?_)
  have iw:R.length+((q.getD k Hb.zero).b.out.length)=(R++(q.getD k Hb.zero).b.out).length:=by rw [List.length_append]
  replace HM:=HM.aV (i:=1) (ys:=(R++(q.getD k Hb.zero).b.out).map B8) rfl iw (rfl)
  rw [iw] at hc27
  replace Z:=Z.sp 4 (.slice xU ((R++(q.getD k Hb.zero).b.out).length) xV) rfl (by rw [iw])
  refine Jb Z HM ((JG∘JR∘Jp 1∘cK 1∘Jp 1∘aY∘Jq) fun a Z HM=>?_)
  exact ⟨_,om,k+1,(R++(q.getD k Hb.zero).b.out),xU,xV,by omega,hE,by rw [hR,Ob nY],by rw [List.length_append];omega,hc27,rfl,Z.sub kr,HM.pk [1]⟩
 intro a Z HM
 have jD:=of_decide_eq_false gU
 have hdn:cO (q.map Hb.b)=0:=by rw [her,List.drop_of_length_le om];rfl
 rw [List.take_of_length_le (by omega:q.length≤k)] at hR
 refine Jb Z HM ((JF∘JX∘JG∘JQ∘JP∘Jp 1∘Jl∘Jp 1∘aY∘Jj) (Ju (fun oh=>?_) fun oh=>?_))
 ·
  intro a Z HM
  have BH:=of_decide_eq_true oh
  have hlong:524288<(bD (q.map Hb.b)).length:=by rw [←hR];omega
  exact Jb Z HM ((JT∘JP∘Jp 2∘Jj∘JZ∘bY) fun HM=>Kl HM.below (N9 hdn hlong) rfl)
 intro a Z HM
 have BH:=of_decide_eq_false oh
 have hlong:¬524288<(bD (q.map Hb.b)).length:=by rw [←hR];omega
 exact Jb Z HM ((JF∘aF∘JP∘Jp 3∘Jj∘JZ∘bY) fun HM=>by rw [Kj hdn hlong,←hR];exact ⟨⟨Ao,co,rfl,HM.own (i:=0) rfl,hco⟩,HM.below⟩)
theorem qru (A:Option Addr) (c:Nat) (q:List Hb) (w:World) (hr:Rd w w.heap.size 5 A q.length (q.flatMap hbL)) (hQ:fA w q) (hok:∀h∈q,h.b.Ok) (hev:∀h∈q,h.b.evs.length≤1000000) (hn:q.length≤1000000) {R:List Nat} {er:Nat} (h:q9 (q.map Hb.b)=(R,er)):
  Calls Tryz.prog 94 #[.slice A q.length c] w (za w er R):=by
 have h1:=qp0 A c q w hr hQ hok hev hn
 rw [h] at h1
 exact h1
theorem qng (W w:World) (lim:Int) (A:Option Addr) (c:Nat) (out:List Nat) (fs:List Fact) (HW:Mem W w (.row (.slice A out.length c) out.length (out.map B8) 5 1::fs)) (hc:out.length≤c) (hout:out.length≤524288) (A2:Option Addr) (c2:Nat) (q:List Hb) (hr:Rd w w.heap.size 5 A2 q.length (q.flatMap hbL)) (hQ:fA w q) (hok:∀h∈q,h.b.Ok) (hev:∀h∈q,h.b.evs.length≤1000000) (hn:q.length≤1000000):
    Calls Tryz.prog 127 #[.agg #[vI lim,.slice A out.length c],.slice A2 q.length c2] w (tZ W lim (qu out (q.map Hb.b)).1 fs (qu out (q.map Hb.b)).2):=by
 have tC:=HW.rd (i:=0) rfl
 refine (iG Tryz.func127 33) ?_
 refine (JP∘JE) fun w2 g2=>(JA #[vI 0,vN]) fun w4 g4=>(Jp 1∘Jq) fun a Z HM=>?_
 obtain ⟨R,er,hws⟩:∃R er,q9 (q.map Hb.b)=(R,er):=⟨_,_,rfl⟩
 have hRl:R.length≤524288:=by have h:=Wz (q.map Hb.b);rw [hws] at h;exact h
 refine Jb Z HM ((JG∘JP∘Jp 1∘JK (h:=by exact fun HM=>qru A2 c2 q _ (HM.old hr) (fA.old hQ HM) hok hev hn hws)) fun OJ c10 rE vM=>(Jp 1∘Jx∘Jx∘Jp 2∘Jj∘JQ∘JP∘Jp 2∘aR∘Jj) (Jh (fun gG=>?_) fun gG=>?_))
 ·
  refine (JT∘JP∘Jy (v:= .agg #[vI lim,.slice A out.length c]) (h:=by exact Yl.qg rfl rfl zt rfl (fun _ h=>qb (h.blk (i:=2) rfl)))∘Jp 1∘JV zt dO) fun vC=>(Jp 1∘aY∘Jj∘JZ) fun a Z HM=>?_
  exact dP rfl Z (.cellS (i:=1) Z HM rfl rfl zt rfl) (.tmp Z rfl) (KX (WH hws om) rfl hc (HW.call HM.below))
 refine (JF∘aF∘JQ∘JP∘Jg 1 O2∘Jl∘Jp 1∘Jl∘Ja∘Jp 1∘fJ∘Jj) (Ji (fun lI=>?_) fun lI=>?_)
 ·
  refine (JT∘JP∘Jy (v:= .agg #[vI lim,.slice A out.length c]) (h:=by exact Yl.qg rfl rfl zt rfl (fun _ h=>qb (h.blk (i:=2) rfl)))∘JV zt dO) fun Ay=>(Jp 1∘aR∘Jj∘JZ) fun a Z HM=>?_
  exact dP rfl Z (.cellS (i:=1) Z HM rfl rfl zt rfl) (.tmp Z rfl) (KX (Km hws om om) rfl hc (HW.call HM.below))
 refine (JF∘aF∘JP) fun a Z HM=>?_
 refine fo Z 0 rfl rfl ?_
 refine Cc Z HM rfl aB rfl de ?_
 clear Z HM;intro a rM Gp Z HM
 refine Jb Z HM ((Jg 1 O3∘JD (out.map B8) 0 (fun _ _=>aZ) aB (hr:=by exact fun HM=>HM.old tC) (h1:=by exact zk _)) fun TT A28 c28 hc28=>fun a Z HM=>?_)
 rw [show []++(out.map B8)=out.map B8 from by rw [List.nil_append]] at HM
 refine Jb Z HM ((Jp 1∘JD (R.map B8) 0 (fun _ _=>aZ) aB (hr:=by exact fun HM=>HM.rd (i:=1) rfl) (h1:=by exact zk _)) fun I8 xu xw mJ=>fun a Z HM=>?_)
 rw [show (out.map B8)++(R.map B8)=(out++R).map B8 from by rw [List.map_append]] at HM
 refine Jb Z HM ((Jf 1∘JW jm dO) fun ajI=>(qI∘Jq) fun a Z HM=>?_)
 have j3:(0+out.length)+R.length=(out++R).length:=by rw [List.length_append,Nat.zero_add]
 replace HM:=HM.aV (i:=0) (ys:=(out++R).map B8) rfl j3 (rfl)
 rw [j3] at mJ
 replace HM:=HM.oK (i:=3) (ds:= #[vI lim,.slice xu (out++R).length xw]) rfl (by rw [j3];try rfl)
 refine Jb Z HM ((JG∘JP∘Jy (v:= .agg #[vI lim,.slice xu ((out++R).length) xw]) (h:=by exact Yl.qg rfl rfl zt rfl (fun _ h=>qb (h.blk (i:=3) rfl)))∘JV zt fF) fun rF=>(Jp 1∘aR∘Jj∘JZ) fun a Z HM=>?_)
 exact dP rfl Z (.cellS (i:=2) Z HM rfl rfl zt rfl) (.tmp Z rfl) (KX (Oc hws om om) rfl mJ (HW.wm (HM.pk [0])))
theorem Zj (W w:World) (lim:Int) (A:Option Addr) (c:Nat) (out:List Nat) (fs:List Fact) (HW:Mem W w (.row (.slice A out.length c) out.length (out.map B8) 5 1::fs)) (hc:out.length≤c) (hout:out.length≤524288) (A2:Option Addr) (c2:Nat) (q:List Hb) (hr:Rd w w.heap.size 5 A2 q.length (q.flatMap hbL)) (hQ:fA w q) (hok:∀h∈q,h.b.Ok) (hev:∀h∈q,h.b.evs.length≤1000000) (hn:q.length≤1000000) {o2:List Nat} {we:Nat} (h:qu out (q.map Hb.b)=(o2,we)):
  Calls Tryz.prog 127 #[.agg #[vI lim,.slice A out.length c],.slice A2 q.length c2] w (tZ W lim o2 fs we):=by
 have h1:=qng W w lim A c out fs HW hc hout A2 c2 q hr hQ hok hev hn
 rw [h] at h1
 exact h1
theorem Mem.q7n {W w:World} {f:Fact} {a t fs:List Fact} (h:Mem W w ((a++(t++[]))++(f::fs))):Mem W w (f::(a++(t++fs))):=by
 refine h.perm ?_
 rw [List.append_nil]
 exact List.perm_middle.trans (by rw [List.append_assoc])
theorem Mem.drop1 {W w:World} {f:Fact} {gs fs:List Fact} (h:Mem W w (f::(gs++fs))):Mem W w (f::fs):=h.rz (List.Sublist.cons_cons _ (List.sublist_append_right gs fs))
theorem qz2 (cpu:Nat) (bA:cpu<256) (A:Option Addr) (n c:Nat) (l:List It) (opn limit:Int) (hok:∀x∈l,x.Ok) (ho:aM opn) (hlm:aM limit) (w:World) (hr:Rd w w.heap.size 12 A n (l.flatMap bV)) (hc:n≤c) (hln:l.length=n) (hn:n≤1000000) {bs:List Bk} {ce:Nat} (h:bH cpu l opn limit=(bs,ce)):
  Calls Tryz.prog 58 #[vB cpu,.slice A n c,vI opn,vI limit] w (rV 242 80 w ce bs):=by
 have h1:=Zi cpu bA A n c l opn limit hok ho hlm w hr hc hln hn
 rw [h] at h1
 exact h1
theorem qvd (W w:World) (lim:Int) (A:Option Addr) (c:Nat) (out:List Nat) (fs:List Fact) (HW:Mem W w (.row (.slice A out.length c) out.length (out.map B8) 5 1::fs)) (hc:out.length≤c) (hout:out.length≤524288) (hlm:aM lim) (cpu:Nat) (bA:cpu<256) (A2:Option Addr) (c2:Nat) (l:List It) (opn:Int) (hok:∀x∈l,x.Ok) (ho:aM opn) (hr:Rd w w.heap.size 12 A2 l.length (l.flatMap bV)) (hc2:l.length≤c2) (hn:l.length≤999999):
    Calls Tryz.prog 65 #[.agg #[vI lim,.slice A out.length c],vB cpu,.slice A2 l.length c2,vI opn] w (BI W lim (fB out lim cpu l opn).1 fs (fB out lim cpu l opn).2.1 (fB out lim cpu l opn).2.2):=by
 have tC:=HW.rd (i:=0) rfl
 refine (uY Tryz.func65 39) ?_
 refine (JP∘JE) fun w4 g4=>(JA #[vI 0,vN]) fun w8 g8=>(Jp 2∘Jq) fun a Z HM=>?_
 obtain ⟨bs,ce,hcs⟩:∃bs ce,bH cpu l opn lim=(bs,ce):=⟨_,_,rfl⟩
 obtain ⟨o2,we,hwb⟩:∃o2 we,qu out bs=(o2,we):=⟨_,_,rfl⟩
 refine Jb Z HM ((JG∘JP∘Jp 3∘Jg 0 O1∘JL (h:=by exact fun HM=>qz2 cpu bA A2 l.length c2 l opn lim hok ho hlm _ ((HM.old hr)) hc2 rfl om hcs)) ?_)
 rintro HM _ uJ ⟨Ac,cc,q,rfl,qC,hcc,hm⟩
 have kW:bs.length=q.length:=by rw [←qC,List.length_map]
 rw [kW] at hm hcc⊢
 refine ⟨_,rfl,_,Mem.Fe (a:=[.blk g8 #[vI 0,vN] 146,.blk g4 #[vI lim,.slice A out.length c] 146]) HM hm,?_⟩
 refine (Jp 1∘Jx∘Jx∘Jp 2∘Jj∘JQ∘JP∘Jp 2∘aR∘Jj) (Ju (fun eD=>?_) fun eD=>?_)
 ·
  intro a Z HM
  have lI:=bne_iff_ne.1 eD
  refine Jb Z HM ((JT∘JP∘Jy (v:= .agg #[vI lim,.slice A out.length c]) (h:=by exact Yl.qg rfl rfl zt rfl (fun _ h=>qb (h.blk (i:=2) rfl)))∘Jp 1∘JV zt dO) fun vC=>(Jp 2∘Jj∘JZ) fun a Z HM=>?_)
  exact bE rfl Z (.cellS (i:=1) Z HM rfl rfl zt rfl) (.tmp Z rfl) (.tmp Z rfl) (QF (WI hcs om) rfl rfl hc (HW.call HM.below))
 intro a Z HM
 have lI:=bne_eq_false_iff_eq.1 eD
 have nE:qu out (q.map Hb.b)=(o2,we):=by rw [qC];exact hwb
 have hcg:=PE bA hok ho hcs
 have jX:∀h∈q,h.b.Ok:=fun h hh=>(hcg.1 h.b (by rw [←qC];exact List.mem_map_of_mem hh))
 have qD:∀h∈q,h.b.evs.length≤1000000:=fun h hh=>Nat.le_trans (hcg.2.1 h.b (by rw [←qC];exact List.mem_map_of_mem hh)) om
 have hbl:=hcg.2.2
 replace HM:Mem W _ (.row (.slice A out.length c) out.length (out.map B8) 5 1:: .row (.slice Ac q.length cc) q.length (q.flatMap hbL) 80 5:: .blk g8 #[vI 0,vN] 146:: .blk g4 #[vI lim,.slice A out.length c] 146::(bG 242 q++(fs))):=Mem.q7n (a:=[.row (.slice Ac q.length cc) q.length (q.flatMap hbL) 80 5,.blk g8 #[vI 0,vN] 146,.blk g4 #[vI lim,.slice A out.length c] 146]) (t:=bG 242 q) (HW.join HM)
 refine Jb Z HM ((JF∘aF∘JP∘Jy (v:= .agg #[vI lim,.slice A out.length c]) (h:=by exact Yl.qg rfl rfl zt rfl (fun _ h=>qb (h.blk (i:=3) rfl)))∘Jp 1∘JL (h:=by exact fun HM=>Zj W _ lim A c out _ (HM.pt 4 [0,1,2,3]) hc hout Ac cc q (HM.rd (i:=1) rfl) (Mem.KP (a:=[.row (.slice A out.length c) out.length (out.map B8) 5 1,.row (.slice Ac q.length cc) q.length (q.flatMap hbL) 80 5,.blk g8 #[vI 0,vN] 146,.blk g4 #[vI lim,.slice A out.length c] 146]) HM) jX qD om nE)) ?_)
 rintro HM _ EU ⟨PI,PK,rfl,hc29,eP⟩
 refine ⟨_,rfl,_,eP,?_⟩
 refine (Jp 1∘Jx∘Jx∘JV zt jm) fun ajM=>(Jp 1∘aI∘Jj∘JQ∘JP∘Jp 2∘aR∘Jj) (Jh (fun oq=>?_) fun oq=>?_)
 ·
  refine (JT∘JP∘Jy (v:= .agg #[vI lim,.slice PI o2.length PK]) (h:=by exact Yl.qg rfl rfl zt rfl (fun _ h=>qb (h.blk (i:=3) rfl)))∘Jp 1∘JV zt fF) fun ML=>(Jp 2∘Jj∘JZ) fun a Z HM=>?_
  exact bE rfl Z (.cellS (i:=2) Z HM rfl rfl zt rfl) (.tmp Z rfl) (.tmp Z rfl) (QF (Oe hcs om hwb om) rfl rfl hc29 (Mem.drop1 (HM.pt 4 [0])))
 refine (JF∘aF∘JP∘Jy (v:= .agg #[vI lim,.slice PI o2.length PK]) (h:=by exact Yl.qg rfl rfl zt rfl (fun _ h=>qb (h.blk (i:=3) rfl)))∘Jp 1∘Jl∘JV zt fF) fun ajN=>(Jp 2∘Jj∘JZ) fun a Z HM=>?_
 exact bE rfl Z (.cellS (i:=2) Z HM rfl rfl zt rfl) (.tmp Z rfl) (.tmp Z rfl) (QF (WJ hcs om hwb om) (by rw [kW]) rfl hc29 (Mem.drop1 (HM.pt 4 [0])))
theorem qve (W w:World) (lim:Int) (A:Option Addr) (c:Nat) (out:List Nat) (fs:List Fact) (HW:Mem W w (.row (.slice A out.length c) out.length (out.map B8) 5 1::fs)) (hc:out.length≤c) (hout:out.length≤524288) (next:Int) (hnx:aM next):
    Calls Tryz.prog 63 #[.agg #[vI lim,.slice A out.length c],vI next] w (tZ W lim (qu out [cZ next]).1 fs (qu out [cZ next]).2):=by
 have tC:=HW.rd (i:=0) rfl
 refine (iG Tryz.func63 13) ?_
 refine (JP∘JE) fun w2 g2=>(JA #[vI 0,vN]) fun w4 g4=>(Jp 1∘Jq) fun a Z HM=>?_
 replace HM:Mem W _ (.blk g4 #[vI 0,vN] 146:: .blk g2 #[vI lim,.slice A out.length c] 146:: .row (.slice A out.length c) out.length (out.map B8) 5 1::fs):=HW.join HM
 obtain ⟨o2,we,nE⟩:∃o2 we,qu out [cZ next]=(o2,we):=⟨_,_,rfl⟩
 refine Jb Z HM ((JG∘JP∘Jy (v:= .agg #[vI lim,.slice A out.length c]) (h:=by exact Yl.qg rfl rfl zt rfl (fun _ h=>qb (h.blk (i:=1) rfl)))∘Jp 1∘Jy (v:= .agg #[vB 2,vB 0,vI 0,vI next,vN]) (h:=by exact Yl.build (vs:=[(0,vB 2),(3,vI next)]) rfl kr kr)∘JU Ai #[vB 2,vB 0,vI 0,vI next,vN]) fun w9 g9=>(JL (h:=by exact fun HM=>Zj W _ lim A c out _ (HM.pt 4 [3,0,1,2]) hc hout _ 1 [⟨cZ next,none,0⟩] (HM.aU (i:=0) (n:=1) (size:=5) rfl rfl) (by intro x hx;rw [List.mem_singleton] at hx;subst hx;exact Rd.nil) (by intro x hx;rw [List.mem_singleton] at hx;subst hx;exact Kk hnx) (by intro x hx;rw [List.mem_singleton] at hx;subst hx;exact Nat.zero_le _) (by show 1≤1000000;decide) nE)) ?_)
 rintro HM _ rE ⟨OJ,c10,rfl,vM,eP⟩
 refine ⟨_,rfl,_,eP,?_⟩
 refine (Jx∘Jx∘JV zt fF) fun Au=>(Jp 1∘aI∘Jj∘JZ) fun a Z HM=>?_
 exact dP rfl Z (.cellS (i:=2) Z HM rfl rfl zt rfl) (.tmp Z rfl) (KX nE rfl vM (HM.pt 4 [0]))
theorem Zd (A A2:Option Addr) (c c2:Nat) (q q2:List Hb) (hqq:q.map Hb.b=q2.map Hb.b) (w:World) (hr:Rd w w.heap.size 5 A q.length (q.flatMap hbL)) (hr2:Rd w w.heap.size 5 A2 q2.length (q2.flatMap hbL)) (hQ:fA w q) (hQ2:fA w q2) (hev:∀h∈q,h.b.evs.length≤1000000) (hn:q.length≤1000000):
    Calls Tryz.prog 60 #[.slice A q.length c,.slice A2 q2.length c2] w (Is w (.bool true)):=by
 have hlq:q.length=q2.length:=by have h:=congrArg List.length hqq;rwa [List.length_map,List.length_map] at h
 refine (iG Tryz.func60 28) ?_
 refine (JP∘Jp 1∘Jj∘JQ∘JP∘Jp 1∘Jl∘Jp 1∘Jl∘Jp 1∘Jo (.bool false) (by rw [hlq];simp)∘dR∘Jj∘JF∘aF∘JQ∘JP∘Jp 1∘Jl∘Jp 1∘Jj∘JB) fun a Z HM=>?_
 refine qc (fun mS aS wS=>∃(k:Nat),(k≤q.length)∧mS=q.length-k∧Fr aS 28 [] [(14,vI k),(13,vI q.length),(12,.slice A q.length c),(11,.bool false),(4,.bool false),(0,.slice A q.length c),(1,.slice A2 q2.length c2)]∧Mem w wS []) (m:=q.length-0) ⟨0,Nat.zero_le _,rfl,Z.sub kr,HM.pk []⟩ ?_
 clear Z HM;rintro mS a w_ ⟨k,hk,rfl,Z,HM⟩
 refine Jb Z HM ((JP∘Jp 1∘Jj∘JQ) (Ju (fun eF=>?_) fun eF=>?_))
 ·
  intro a Z HM
  have iR:=of_decide_eq_true eF
  have BD:k<q.length:=by omega
  have hbe:(q.getD k Hb.zero).b=(q2.getD k Hb.zero).b:=Fg hqq om
  refine Jb Z HM ((JT∘aF∘JQ∘JB∘JP∘Jp 1) ?_)
  repeat (first|clear Z|clear HM)
  intro a Z HM
  obtain ⟨gA,oA,rfl,_⟩:=hr.qm (Nat.lt_of_le_of_lt (Nat.zero_le _) (show k<q.length from by omega)) de
  refine Jb Z HM ((Jy (h:=by exact Yl.ix gA oA k 5 rfl rfl rfl)∘Jy (v:= .agg ((q.getD k Hb.zero).b.cells (q.getD k Hb.zero).A (q.getD k Hb.zero).c)) (h:=by exact Yl.qg rfl rfl aA rfl (fun _ h=>(h.old hr).q8 nQ ((getD_at Hb.zero (k:=k) (by first|omega|(simp;omega))))))∘JA #[vB 0,vB 0,vI 0,vI 0,vN]) fun w6 g6=>(Jp 1∘JV aA aZ (h1:=by exact zy _ _ _)) fun Pz=>(Jj) fun a Z HM=>?_)
  refine wp_seq ?_
  refine Jb Z HM ((Vs .n []) fun ET=>(Vp [2,3]∘Vy 0 (v:= .agg ((q.getD k Hb.zero).b.cells (q.getD k Hb.zero).A (q.getD k Hb.zero).c)) (h:=by exact Yl.qg rfl rfl aA rfl (fun _ h=>qb (h.blk (i:=0) rfl)))) ?_)
  repeat (first|clear Z|clear HM|clear HS)
  intro a Z HM HS
  obtain ⟨rQ,rR,rfl,_⟩:=hr2.qm (Nat.lt_of_le_of_lt (Nat.zero_le _) (show k<q2.length from by omega)) de
  refine Vb Z HM HS ((Vy 4 (h:=by exact Yl.ix rQ rR k 5 rfl rfl rfl)∘Vy 5 (v:= .agg ((q2.getD k Hb.zero).b.cells (q2.getD k Hb.zero).A (q2.getD k Hb.zero).c)) (h:=by exact Yl.qg rfl rfl qi rfl (fun _ h=>(h.old hr2).q8 nQ ((getD_at Hb.zero (k:=k) (by first|omega|(simp;omega))))))∘VK 1 .n (h:=by exact fun HM=>Zb (q.getD k Hb.zero).b ((q.getD k Hb.zero).A) (q.getD k Hb.zero).c _ (HM.old (hQ.at BD)) (hev _ (q7 Hb.zero BD)))) fun KW c20 pK BA=>(VI 6 (.f .n) (h:=by exact fun HM=>Yb (q.getD k Hb.zero).b (q2.getD k Hb.zero).b KW ((q2.getD k Hb.zero).A) c20 (q2.getD k Hb.zero).c _ (HM.rd (i:=0) rfl) (HM.old (hQ2.at om)) (hev _ (q7 Hb.zero BD)))) fun rM hbw=>(Vq [7] [(26,.bool (!(decide ((q.getD k Hb.zero).b=(q2.getD k Hb.zero).b))))]∘Vo (.bool false) (by rw [decide_eq_true hbe];try rfl)∘Vd∘aI∘JF∘aF∘JR∘cK 1∘Jp 1∘aR∘Jq) fun a Z HM=>?_)
  exact ⟨_,om,k+1,by omega,rfl,Z.sub kr,HM.pk []⟩
 intro a Z HM
 have iR:=of_decide_eq_false eF
 exact Jb Z HM ((JF∘JX∘JG∘JP∘Jp 1∘Jj∘JZ) iX)
theorem qz5 (cpu:Nat) (bA:cpu<256) (A:Option Addr) (n c:Nat) (l:List It) (opn limit:Int) (hok:∀x∈l,x.Ok) (ho:aM opn) (hlm:aM limit) (w:World) (hr:Rd w w.heap.size 12 A n (l.flatMap bV)) (hc:n≤c) (hln:l.length=n) (hn:n≤1000000) {bs:List Bk} {ce:Nat} (h:bH cpu l opn limit=(bs,ce)):
  Calls Tryz.prog 58 #[vB cpu,.slice A n c,vI opn,vI limit] w (rV 242 80 w ce bs):=by
 have h1:=Zi cpu bA A n c l opn limit hok ho hlm w hr hc hln hn
 rw [h] at h1
 exact h1
theorem q5j (l:List It):∀v∈l.flatMap bV,v.oneCell'=true:=by
 intro v hv
 obtain ⟨x,_,hx⟩:=List.mem_flatMap.1 hv
 exact CZ x v hx
theorem qvf (cpu:Nat) (bA:cpu<256) (A:Option Addr) (c:Nat) (l:List It) (opn lim:Int) (hok:∀x∈l,x.Ok) (hop:aM opn) (hlm:aM lim) (B:Nat) (w:World) (hL:aL B w) (hB:B≤w.heap.size) (hr:Rd w w.heap.size 12 A l.length (l.flatMap bV)) (hc:l.length≤c) (hn:l.length≤100000):
    Calls Tryz.prog 24 #[vB cpu,.slice A l.length c,vI opn,vI lim] w (Is w (.bool true)):=by
 refine (uY Tryz.func24 85) ?_
 refine (JP∘Jp 1∘Jr) fun a Z HM=>?_
 refine fo Z 0 rfl rfl ?_
 refine Cc Z HM rfl gJ rfl de ?_
 clear Z HM;intro a EX g17 Z HM
 refine Jb Z HM ((Jp 1∘JD (l.flatMap bV) 0 (fun _ _=>aZ) gJ (hr:=by exact fun HM=>HM.old hr) (h1:=by exact q5j _)) fun uJ gL c19 hc19=>fun a Z HM=>?_)
 rw [show []++(l.flatMap bV)=l.flatMap bV from by rw [List.nil_append]] at HM
 refine Jb Z HM ((Jp 1∘bT∘Jq) fun a Z HM=>?_)
 have uf:0+l.length=l.length:=by rw [Nat.zero_add]
 replace HM:=HM.aV (i:=0) (ys:=l.flatMap bV) rfl uf (rfl)
 rw [uf] at hc19
 replace Z:=Z.sp 9 (.slice gL l.length c19) rfl (by rw [uf])
 obtain ⟨bs,ce,hcs⟩:∃bs ce,bH cpu l opn lim=(bs,ce):=⟨_,_,rfl⟩
 have hcg:=PE bA hok hop hcs
 have hbl:=hcg.2.2
 refine Jb Z HM ((JG∘JP∘Jp 4∘JL (h:=by exact fun HM=>Dk cpu bA gL l.length c19 l opn lim hok hop hlm B _ (hL.mem HM hB) (HM.le hB) (HM.rd (i:=0) rfl) om rfl om hcs)) ?_)
 rintro HM _ rM ⟨A1,c1,q,rfl,qC,hc1,hm⟩
 have kW:bs.length=q.length:=by rw [←qC,List.length_map]
 rw [kW] at hm hc1⊢
 refine ⟨_,rfl,_,Mem.Fe (a:=[.row (.slice gL l.length c19) l.length (l.flatMap bV) 75 12]) (b:=[]) HM hm,?_⟩
 refine (Jp 1∘Jx∘Jx∘Jp 2∘Jq) fun a Z HM=>?_
 have qD:∀h∈q,h.b.evs.length≤1000000:=fun h hh=>by have:=hcg.2.1 h.b (by rw [←qC];exact List.mem_map_of_mem hh);omega
 refine Jb Z HM ((JG∘JP∘Jp 2∘JK (h:=by exact fun HM=>Zh A l.length c l _ (HM.old hr) rfl om)) fun ug c31 JY hc31=>(Jp 2∘JL (h:=by exact fun HM=>qz5 cpu bA ug l.length c31 l opn lim hok hop hlm _ (HM.rd (i:=0) rfl) om rfl om hcs)) ?_)
 rintro HM _ U9 ⟨A2,c2,q2,rfl,GV,hc2,hm⟩
 have QM:bs.length=q2.length:=by rw [←GV,List.length_map]
 rw [QM] at hm hc2⊢
 refine ⟨_,rfl,_,Mem.Fe (a:=[.row (.slice ug l.length c31) l.length (l.flatMap bV) 244 12,.row (.slice A1 q.length c1) q.length (q.flatMap hbL) 85 5,.row (.slice gL l.length c19) l.length (l.flatMap bV) 75 12]) (b:=bG 73 q++[]) HM hm,?_⟩
 refine (Jp 1∘Jx∘Jx∘Jp 2∘Jj∘JQ∘JP∘Jp 3∘Jo (.bool false) (by simp)∘Jp 3∘JI (h:=by exact fun HM=>Zd A1 A2 c1 c2 q q2 (qC.trans GV.symm) _ (HM.rd (i:=2) rfl) (HM.rd (i:=0) rfl) (Mem.Qq (a:=[.row (.slice A2 q2.length c2) q2.length (q2.flatMap hbL) 80 5,.row (.slice ug l.length c31) l.length (l.flatMap bV) 244 12,.row (.slice A1 q.length c1) q.length (q.flatMap hbL) 85 5,.row (.slice gL l.length c19) l.length (l.flatMap bV) 75 12]) HM) (Mem.KP (a:=[.row (.slice A2 q2.length c2) q2.length (q2.flatMap hbL) 80 5,.row (.slice ug l.length c31) l.length (l.flatMap bV) 244 12,.row (.slice A1 q.length c1) q.length (q.flatMap hbL) 85 5,.row (.slice gL l.length c19) l.length (l.flatMap bV) 75 12]) HM) qD om)) fun IU hbw=>(Jp 2∘aI∘Jq) fun a Z HM=>?_
 replace HM:=Mem.q7i (a:=[.row (.slice A2 q2.length c2) q2.length (q2.flatMap hbL) 80 5,.row (.slice ug l.length c31) l.length (l.flatMap bV) 244 12,.row (.slice A1 q.length c1) q.length (q.flatMap hbL) 85 5,.row (.slice gL l.length c19) l.length (l.flatMap bV) 75 12]) HM
 replace HM:Mem w _ (.row (.slice A2 q2.length c2) q2.length (q2.flatMap hbL) 80 5:: .row (.slice ug l.length c31) l.length (l.flatMap bV) 244 12:: .row (.slice A1 q.length c1) q.length (q.flatMap hbL) 85 5:: .row (.slice gL l.length c19) l.length (l.flatMap bV) 75 12::(bG 73 q++([]))):=HM
 refine Jb Z HM ((JG∘JF∘aF∘JQ∘JP∘Jp 1∘Jl∘Jp 1∘Jj∘JB) fun a Z HM=>?_)
 refine qc (fun mS aS wS=>∃(i:Nat),(i≤q.length)∧mS=q.length-i∧Fr aS 85 [] [(48,vI i),(47,vI q.length),(45,.bool false),(10,.slice A1 q.length c1),(9,.slice gL l.length c19),(8,.bool false),(0,vB cpu),(1,.slice A l.length c),(2,vI opn),(3,vI lim)]∧Mem w wS (.row (.slice A2 q2.length c2) q2.length (q2.flatMap hbL) 80 5:: .row (.slice ug l.length c31) l.length (l.flatMap bV) 244 12:: .row (.slice A1 q.length c1) q.length (q.flatMap hbL) 85 5:: .row (.slice gL l.length c19) l.length (l.flatMap bV) 75 12::(bG 73 (q.drop i)++([])))) (m:=q.length-0) ⟨0,Nat.zero_le _,rfl,Z.sub kr,HM.pt 4 [0,1,2,3]⟩ ?_
 clear Z HM;rintro mS a w_ ⟨i,hi,rfl,Z,HM⟩
 refine Jb Z HM ((JP∘Jp 1∘Jj∘JQ) (Ju (fun ou=>?_) fun ou=>?_))
 ·
  intro a Z HM
  have Bj:=of_decide_eq_true ou
  have wu:i<q.length:=by omega
  obtain ⟨⟨b,Ab,cb⟩,hx⟩:∃x,q.getD i Hb.zero=x:=⟨_,rfl⟩
  have hbe:b.evs.length≤1000000:=by have:=qD _ (q7 Hb.zero wu);rw [hx] at this;exact this
  replace HM:=Mem.q7c (a:=[.row (.slice A2 q2.length c2) q2.length (q2.flatMap hbL) 80 5,.row (.slice ug l.length c31) l.length (l.flatMap bV) 244 12,.row (.slice A1 q.length c1) q.length (q.flatMap hbL) 85 5,.row (.slice gL l.length c19) l.length (l.flatMap bV) 75 12]) (q:=q) (k:=i) (b:=[]) HM wu
  rw [hx] at HM
  replace HM:Mem w _ (.row (.slice Ab b.evs.length cb) b.evs.length (b.evs.flatMap aN) 73 11:: .row (.slice A2 q2.length c2) q2.length (q2.flatMap hbL) 80 5:: .row (.slice ug l.length c31) l.length (l.flatMap bV) 244 12:: .row (.slice A1 q.length c1) q.length (q.flatMap hbL) 85 5:: .row (.slice gL l.length c19) l.length (l.flatMap bV) 75 12::(bG 73 (q.drop (i+1))++([]))):=HM
  refine Jb Z HM ((JT∘aF∘JQ∘JB∘JP∘Jp 2∘aR∘Jr∘Jp 2) ?_)
  repeat (first|clear Z|clear HM)
  intro a Z HM
  obtain ⟨KY,rfl⟩:=zb (HM.own (i:=3) rfl) (Nat.lt_of_le_of_lt (Nat.zero_le _) (show i<q.length from by omega))
  refine Jb Z HM ((Jy (h:=by exact Yl.j6 KY i 5 rfl rfl rfl)∘Jf 4∘Jy (v:= .slice ((q.getD i Hb.zero).A) ((q.getD i Hb.zero).b.evs.length) ((q.getD i Hb.zero).c)) (h:=by exact Yl.qn rfl rfl kr (fun _ h=>h.uz nQ (i:=3) rfl (k:=i) (off:=4) (x:=(q.getD i Hb.zero)) ((getD_at Hb.zero wu)) rfl))∘Jo (.slice Ab b.evs.length cb) (by rw [hx])∘Jl∘Jp 1∘Jq) fun a Z HM=>?_)
  replace HM:=HM.eY (i:=0) (ys:=(fI xX b.evs 0).flatMap aN) rfl (by rw [qu6])
  refine Jb Z HM ((JG∘JB) fun a Z HM=>?_)
  refine qc (fun mS aS wS=>∃(k:Nat),(k≤b.evs.length)∧mS=b.evs.length-k∧Fr aS 85 [] [(57,vI k),(56,vI b.evs.length),(14,vI i),(49,.bool true),(48,vI i),(47,vI q.length),(45,.bool false),(10,vS KY q.length c1),(9,.slice gL l.length c19),(8,.bool false),(0,vB cpu),(1,.slice A l.length c),(2,vI opn),(3,vI lim)]∧Mem w wS (.row (.slice Ab b.evs.length cb) b.evs.length ((fI xX b.evs k).flatMap aN) 73 11:: .row (.slice A2 q2.length c2) q2.length (q2.flatMap hbL) 80 5:: .row (.slice ug l.length c31) l.length (l.flatMap bV) 244 12:: .row (vS KY q.length c1) q.length (q.flatMap hbL) 85 5:: .row (.slice gL l.length c19) l.length (l.flatMap bV) 75 12::(bG 73 (q.drop (i+1))++([])))) (m:=b.evs.length-0) ⟨0,Nat.zero_le _,rfl,Z.sub kr,HM.pt 5 [0,1,2,3,4]⟩ ?_
  clear Z HM;rintro mS a w_ ⟨k,hk,rfl,Z,HM⟩
  refine Jb Z HM ((JP∘Jp 1∘Jj∘JQ) (Ju (fun kM=>?_) fun kM=>?_))
  ·
   intro a Z HM
   have AZ:=of_decide_eq_true kM
   have GX:k<b.evs.length:=by omega
   refine Jb Z HM ((JT∘aF∘JQ∘JB∘JP∘Jp 2∘aR∘Jj∘JR∘Jp 2∘Jy (h:=by exact Yl.j6 KY i 5 rfl rfl rfl)∘Jf 4∘Jy (v:= .slice ((q.getD i Hb.zero).A) ((q.getD i Hb.zero).b.evs.length) ((q.getD i Hb.zero).c)) (h:=by exact Yl.qn rfl rfl kr (fun _ h=>h.uz nQ (i:=3) rfl (k:=i) (off:=4) (x:=(q.getD i Hb.zero)) ((getD_at Hb.zero wu)) rfl))∘Jo (.slice Ab b.evs.length cb) (by rw [hx])∘Jp 1) ?_)
   repeat (first|clear Z|clear HM)
   intro a Z HM
   obtain ⟨gAb,rfl⟩:=zb (HM.own (i:=0) rfl) (Nat.lt_of_le_of_lt (Nat.zero_le _) (show k<b.evs.length from by omega))
   refine Jb Z HM ((Jy (h:=by exact Yl.j6 gAb k 11 rfl rfl rfl)∘Jf 0) fun a Z HM=>?_)
   refine fo Z 8 rfl rfl ?_
   refine yH Z HM (i:=0) rfl rfl rfl rfl kr rfl rfl (by simp only [Dx aN 11 qv,qzl];omega) fun Zp HM=>?_
   replace HM:=HM.eY (i:=0) (ys:=(fI xX b.evs (k+1)).flatMap aN) rfl ((qto aN 11 qv (fI xX b.evs k) k (b.evs.getD k Ev.zero) (xX (b.evs.getD k Ev.zero)) (q2q xX b.evs Ev.zero GX) 0 om (vI (-1)) (qu8 _)).trans (by rw [qu7 xX b.evs Ev.zero GX]))
   refine Jb Z HM ((qI∘Jj∘JR∘cK 1∘Jp 1∘bT∘Jq) fun a Z HM=>?_)
   exact ⟨_,om,k+1,by omega,rfl,Z.sub kr,HM.pt 5 [0,1,2,3,4]⟩
  intro a Z HM
  have AZ:=of_decide_eq_false kM
  refine Jb Z HM ((JF∘JX∘JG∘JR∘cK 1∘Jp 1∘aR∘Jq) fun a Z HM=>?_)
  exact ⟨_,om,i+1,by omega,rfl,Z.sub kr,HM.pt 5 [1,2,3,4]⟩
 intro a Z HM
 have Bj:=of_decide_eq_false ou
 refine Jb Z HM ((JF∘JX∘JG∘JQ∘JP∘Jp 1∘Jl∘Jp 1∘Jj∘JB) fun a Z HM=>?_)
 refine qc (fun mS aS wS=>∃(j:Nat),(j≤l.length)∧mS=l.length-j∧Fr aS 85 [] [(72,vI j),(71,vI l.length),(49,.bool false),(48,vI i),(47,vI q.length),(45,.bool false),(10,.slice A1 q.length c1),(9,.slice gL l.length c19),(8,.bool false),(0,vB cpu),(1,.slice A l.length c),(2,vI opn),(3,vI lim)]∧Mem w wS (.row (.slice A2 q2.length c2) q2.length (q2.flatMap hbL) 80 5:: .row (.slice ug l.length c31) l.length (l.flatMap bV) 244 12:: .row (.slice A1 q.length c1) q.length (q.flatMap hbL) 85 5:: .row (.slice gL l.length c19) l.length (l.flatMap bV) 75 12::(bG 73 (q.drop i)++([])))) (m:=l.length-0) ⟨0,Nat.zero_le _,rfl,Z.sub kr,HM.pt 4 [0,1,2,3]⟩ ?_
 clear Z HM;rintro mS a w_ ⟨j,hj,rfl,Z,HM⟩
 refine Jb Z HM ((JP∘Jp 1∘Jj∘JQ) (Ju (fun BK=>?_) fun BK=>?_))
 ·
  intro a Z HM
  have Ad:=of_decide_eq_true BK
  have aj5:j<l.length:=by omega
  refine Jb Z HM ((JT∘aF∘JQ∘JB∘JP∘Jp 2∘aR∘Jj) fun a Z HM=>?_)
  refine wp_seq ?_
  refine Jb Z HM ((Vs .n []) fun zC=>(Vp [0,1,4,5]) ?_)
  repeat (first|clear Z|clear HM|clear HS)
  intro a Z HM HS
  obtain ⟨QN,rfl⟩:=zb (HM.own (i:=3) rfl) (Nat.lt_of_le_of_lt (Nat.zero_le _) (show j<l.length from by omega))
  refine Vb Z HM HS ((Vy 2 (h:=by exact Yl.j6 QN j 12 rfl rfl rfl)∘Vy 3 (v:= .agg ((l.getD j It.zero).cells)) (h:=by exact Yl.qg rfl rfl jc rfl (fun _ h=>h.Sl zn (i:=3) rfl ((getD_at It.zero (k:=j) (by first|omega|(simp;omega))))))) ?_)
  repeat (first|clear Z|clear HM|clear HS)
  intro a Z HM HS
  obtain ⟨gA,oA,rfl,_⟩:=hr.qm (Nat.lt_of_le_of_lt (Nat.zero_le _) (show j<l.length from by omega)) de
  refine Vb Z HM HS ((Vy 6 (h:=by exact Yl.ix gA oA j 12 rfl rfl rfl)∘Vy 7 (v:= .agg ((l.getD j It.zero).cells)) (h:=by exact Yl.qg rfl rfl jc rfl (fun _ h=>(h.old hr).q8 zn ((getD_at It.zero (k:=j) (by first|omega|(simp;omega))))))∘Vy 8 (v:= .bool (!(decide ((l.getD j It.zero)=(l.getD j It.zero))))) (h:=by exact Yl.q7a rfl rfl rfl (q2y (l.getD j It.zero) (l.getD j It.zero)))∘Vo (.bool false) (by simp)∘Vd∘aI∘JF∘aF∘JR∘cK 1∘Jp 1∘aR∘Jq) fun a Z HM=>?_)
  exact ⟨_,om,j+1,by omega,rfl,Z.sub kr,HM.pt 4 [0,1,2,3]⟩
 intro a Z HM
 have Ad:=of_decide_eq_false BK
 exact Jb Z HM ((JF∘JX∘JG∘JP∘Jp 1∘Jj∘JZ) iX)
theorem ng.old {W w:World} {fs:List Fact} {x:kN} (h:ng W x) (HM:Mem W w fs):ng w x:=⟨h.cpu,h.ok,h.opn,h.next,h.hc,h.hm,HM.old h.rd⟩
theorem yg:SI Tryz.prog 70 5:=⟨by kernel_rfl,by kernel_rfl⟩
theorem Zk:EI Tryz.prog 71 70 (.agg kN.zero.cells) 5 48:=⟨by kernel_rfl,by kernel_rfl,rfl,by omega⟩
theorem q20 (lim:Int) (hl:aM lim) (h:lim<1∨4096<lim) (w:World):Calls Tryz.prog 61 #[vI lim] w (Is w (.tuple #[.pointer none,vI 2])):=
 (YL lim hl w).mono fun r w' h1 => by
  rcases h1 with ⟨_,h2⟩|⟨h2,_⟩
  ·exact h2
  ·omega
theorem qz3 (W w:World) (lim:Int) (A:Option Addr) (c:Nat) (out:List Nat) (fs:List Fact) (HW:Mem W w (.row (.slice A out.length c) out.length (out.map B8) 5 1::fs)) (hc:out.length≤c) (hout:out.length≤524288) (next:Int) (hnx:aM next) {o2:List Nat} {we:Nat} (h:qu out [cZ next]=(o2,we)):
  Calls Tryz.prog 63 #[.agg #[vI lim,.slice A out.length c],vI next] w (tZ W lim o2 fs we):=by
 have h1:=qve W w lim A c out fs HW hc hout next hnx
 rw [h] at h1
 exact h1
theorem qz4 (W w:World) (lim:Int) (A:Option Addr) (c:Nat) (out:List Nat) (fs:List Fact) (HW:Mem W w (.row (.slice A out.length c) out.length (out.map B8) 5 1::fs)) (hc:out.length≤c) (hout:out.length≤524288) (hlm:aM lim) (cpu:Nat) (bA:cpu<256) (A2:Option Addr) (c2:Nat) (l:List It) (opn:Int) (hok:∀x∈l,x.Ok) (ho:aM opn) (hr:Rd w w.heap.size 12 A2 l.length (l.flatMap bV)) (hc2:l.length≤c2) (hn:l.length≤999999) {o2:List Nat} {k we:Nat} (h:fB out lim cpu l opn=(o2,k,we)):
  Calls Tryz.prog 65 #[.agg #[vI lim,.slice A out.length c],vB cpu,.slice A2 l.length c2,vI opn] w (BI W lim o2 fs k we):=by
 have h1:=qvd W w lim A c out fs HW hc hout hlm cpu bA A2 c2 l opn hok ho hr hc2 hn
 rw [h] at h1
 exact h1
theorem qrv (lim:Int) (hlm:aM lim) (hbad:lim<1∨4096<lim) (A:Option Addr) (c:Nat) (acts:List kN) (w:World):
    Calls Tryz.prog 25 #[vI lim,.slice A acts.length c] w (Is w (.bool true)):=by
 refine (iG Tryz.func25 123) ?_
 refine (JP∘Jp 1∘Jr∘Jp 1∘JI (h:=by exact fun HM=>q20 lim hlm hbad _)) fun pK hbw=>(Jp 1∘Jx∘Jx∘Jp 2∘Jj∘JQ∘JP∘Jp 3) (Ji (fun hd25=>?_) fun hd25=>?_)
 ·
  exact (Jp 3∘fJ∘Jj∘JT∘JP∘Jv 4 [(32,.pointer none),(31,.bool true)]∘Jy (v:= .bool true) (h:=by exact Yl.oI rfl rfl rfl)∘Jp 2∘dR∘Jj∘JZ) iX
 refine (Jp 3∘fJ∘Jj) (Ju (fun fu=>?_) fun fu=>?_)
 ·
  intro a Z HM
  have hd28:=of_decide_eq_true fu
  exact Jb Z HM ((JT∘JP∘Jv 4 [(32,.pointer none),(31,.bool true)]∘Jy (v:= .bool true) (h:=by exact Yl.oI rfl rfl rfl)∘Jp 2∘dR∘Jj∘JZ) iX)
 intro a Z HM
 have hd28:=of_decide_eq_false fu
 exfalso;omega
theorem qrw (lim:Int) (hlm:aM lim) (hlim:1≤lim∧lim≤4096) (A:Option Addr) (c:Nat) (acts:List kN) (B:Nat) (w:World) (hL:aL B w) (hB:B≤w.heap.size) (hr:Rd w w.heap.size 5 A acts.length (acts.flatMap QE)) (hin:∀x∈acts,ng w x) (QG:∀x∈acts,x.l.length≤60) (hn:acts.length≤1000000):
    Calls Tryz.prog 25 #[vI lim,.slice A acts.length c] w (Is w (.bool true)):=by
 refine (iG Tryz.func25 123) ?_
 refine (JP∘Jp 1∘Jr∘Jp 1∘JL (h:=by exact fun HM=>PO lim _ hlim)) ?_
 rintro HM _ pK ⟨jk,rfl,hm⟩
 refine ⟨_,rfl,_,(HM.join hm).nil 5 1,?_⟩
 refine (Jp 1∘Jx∘Jx∘Jp 2∘Jj∘JQ∘JP∘Jp 3) (Ju (fun iI=>?_) fun iI=>?_)
 ·
  intro a Z HM
  have hd25:=of_decide_eq_true iI
  exfalso;omega
 intro a Z HM
 have hd25:=of_decide_eq_false iI
 refine Jb Z HM ((Jp 3∘fJ∘Jj) (Ju (fun fu=>?_) fun fu=>?_))
 ·
  intro a Z HM
  have hd28:=of_decide_eq_true fu
  exfalso;omega
 intro a Z HM
 have hd28:=of_decide_eq_false fu
 refine Jb Z HM ((JF∘aF∘JQ∘JP∘Jv 4 [(38,vP jk 0),(37,.bool false)]∘Jy (v:= .bool false) (h:=by exact Yl.oI rfl rfl rfl)∘Jp 1∘bT∘Jj∘JF∘aF∘JP∘Jp 1∘Jy (v:= .agg #[vI lim,vN]) (h:=by exact Yl.build (vs:=[(0,vI lim)]) rfl kr kr)∘JA #[vI 0,vN]) fun w7 g7=>(JV zt aZ) fun Nf=>(aY∘Jq) fun a Z HM=>?_)
 replace HM:=HM.nil 5 1
 refine Jb Z HM ((JG∘JQ∘JP∘Jp 1∘Jl∘Jp 1∘Jj∘JB) fun a Z HM=>?_)
 refine qc (fun mS aS wS=>∃(j:Nat) (out:List Nat) (Ao:Option Addr) (co:Nat) (Ap:Option Addr) (cp:Nat),(j≤acts.length)∧(out.length≤524288)∧(out.length≤co)∧(out.length≤cp)∧mS=acts.length-j∧Fr aS 123 [] [(45,vI j),(44,vI acts.length),(43,.slice A acts.length c),(7,vP g7 0),(5,vP jk 0),(4,.bool false),(0,vI lim)]∧Mem w wS [.row (.slice Ap out.length cp) out.length (out.map B8) 5 1,.blk g7 #[vI lim,.slice Ap out.length cp] 146,.row (.slice Ao out.length co) out.length (out.map B8) 5 1,.blk jk #[vI lim,.slice Ao out.length co] 171]) (m:=acts.length-0) ⟨0,[],none,0,none,0,Nat.zero_le _,by decide,Nat.le_refl _,Nat.le_refl _,rfl,Z.sub kr,HM.pk [0,1,2,3]⟩ ?_
 clear Z HM;rintro mS a w_ ⟨j,out,Ao,co,Ap,cp,hj,hout,hco,hcp,rfl,Z,HM⟩
 refine Jb Z HM ((JP∘Jp 1∘Jj∘JQ) (Ju (fun lK=>?_) fun lK=>?_))
 ·
  intro a Z HM
  have nN:=of_decide_eq_true lK
  have BJ:j<acts.length:=by omega
  obtain ⟨x,hx⟩:∃z,acts.getD j kN.zero=z:=⟨_,rfl⟩
  have hxi:ng w x:=by rw [←hx];exact hin _ (q7 kN.zero BJ)
  have ajU:x.l.length≤60:=by rw [←hx];exact QG _ (q7 kN.zero BJ)
  refine Jb Z HM ((JT∘aF∘JQ∘JB∘JP) ?_)
  repeat (first|clear Z|clear HM)
  intro a Z HM
  obtain ⟨gA,oA,rfl,_⟩:=hr.qm (Nat.lt_of_le_of_lt (Nat.zero_le _) (show j<acts.length from by omega)) de
  refine Jb Z HM ((Jy (h:=by exact Yl.ix gA oA j 5 rfl rfl rfl)∘Jy (v:= .agg ((acts.getD j kN.zero).cells)) (h:=by exact Yl.qg rfl rfl yg rfl (fun _ h=>(h.old hr).q8 q5g ((getD_at kN.zero BJ))))∘Jo (.agg x.cells) (by rw [hx])∘JA #[.bool false,vB 0,vN,vI 0,vI 0]) fun w9 g9=>(JV yg aZ (h1:=by exact q60 x)) fun ME=>(aY∘Jj) fun a Z HM=>?_)
  refine qw (fun aS wS=>∃(o2:List Nat) (Aw:Option Addr) (cw:Nat) (Ax:Option Addr) (cx:Nat),Fr aS 123 [] [(45,vI j),(44,vI acts.length),(43,.slice (some ⟨gA,oA,none⟩) acts.length c),(7,vP g7 0),(5,vP jk 0),(4,.bool false),(0,vI lim)]∧Mem w wS [.row (.slice Ax o2.length cx) o2.length (o2.map B8) 5 1,.blk g7 #[vI lim,.slice Ax o2.length cx] 146,.row (.slice Aw o2.length cw) o2.length (o2.map B8) 5 1,.blk jk #[vI lim,.slice Aw o2.length cw] 171]∧(o2.length≤524288)∧(o2.length≤cw)∧(o2.length≤cx)) ?_ ?_
  ·
   refine Jb Z HM ((JP∘Jg 0 O0∘Jj) (Ju (fun fD=>?_) fun fD=>?_))
   ·
    intro a Z HM
    obtain ⟨o2,we,nE⟩:∃o2 we,qu out [cZ x.next]=(o2,we):=⟨_,_,rfl⟩
    have ho2:o2.length≤524288:=by have h:=WB (bs:=[cZ x.next]) hout;rw [nE] at h;exact h
    refine Jb Z HM ((JT∘JP∘Jp 1∘Jg 4 O0∘JL (h:=by exact fun HM=>Gn (o2:=o2) (we:=we) _ _ jk lim Ao co out _ (HM.pk [4,3,0,1,2]) (by first|exact Nat.le_refl _|omega|exact Nat.zero_le _) hout om x.next hxi.next B (hL.mem HM hB) hB nE)) ?_)
    rintro HM _ pY ⟨rfl,xR,uK,sO,eP⟩
    refine ⟨_,rfl,_,eP,?_⟩
    refine (Jp 1∘bT∘Jr∘Jp 1∘Jr∘Jy (v:= .agg #[vI lim,.slice Ap out.length cp]) (h:=by exact Yl.qg rfl rfl zt rfl (fun _ h=>qb (h.blk (i:=4) rfl)))∘Jg 4 O2∘JL (h:=by exact fun HM=>qz3 w _ lim Ap cp out _ (HM.pk [3,0,1,2,4]) hcp hout x.next hxi.next nE)) ?_
    rintro HM _ OZ ⟨jd,c59,rfl,mV,eP⟩
    refine ⟨_,rfl,_,eP,?_⟩
    refine (Jp 1∘Jx∘Jx∘JV zt yL) fun xY=>(Jp 1∘aI∘Jr∘Jp 3∘Jo (.bool false) (by simp)∘aY∘Jj∘JF∘JS) fun a Z HM=>?_
    exact ⟨o2,xR,uK,jd,c59,Z.sub kr,HM.pk [0,4,2,1],ho2,sO,mV⟩
   intro a Z HM
   obtain ⟨o2,k,we,hpw⟩:∃o2 k we,fB out lim x.cpu x.l x.opn=(o2,k,we):=⟨_,_,_,rfl⟩
   have ho2:o2.length≤524288:=by have h:=q2z (lim:=lim) (cpu:=x.cpu) (l:=x.l) (opn:=x.opn) hout;rw [hpw] at h;exact h
   refine Jb Z HM ((JF∘JP∘Jp 1∘Jg 1 O0∘Jg 2 O0∘Jg 3 O0∘JL (h:=by exact fun HM=>YS (o2:=o2) (k:=k) (we:=we) _ _ jk lim Ao co out _ (HM.pk [4,3,0,1,2]) (by first|exact Nat.le_refl _|omega|exact Nat.zero_le _) hout om hlm x.cpu hxi.cpu x.A x.c x.l x.opn hxi.ok hxi.opn B (hL.mem HM hB) hB (HM.old hxi.rd) hxi.hc om hpw)) ?_)
   rintro HM _ w73 ⟨rfl,A73,c73,QI,eP⟩
   refine ⟨_,rfl,_,eP,?_⟩
   refine (Jp 1∘Jx∘Jx∘Jp 2∘Jr∘Jp 2∘Jj) fun a Z HM=>?_
   refine wp_seq ?_
   refine Jb Z HM ((Vs (.t (.t (.t (.f .n)))) [13]) fun zC=>(Vf 1 1∘Vf 3 2∘Vf 6 3∘Vy 0 (v:= .agg #[vI lim,.slice Ap out.length cp]) (h:=by exact Yl.qg rfl rfl zt rfl (fun _ h=>qb (h.blk (i:=3) rfl)))∘Vc 2 O2∘Vc 4 O2∘Vc 7 O2∘VK 5 (.t (.t (.t (.f .n)))) (h:=by exact fun HM=>Zh x.A x.l.length x.c x.l _ (HM.old hxi.rd) rfl om)) fun Df Dg X7 og=>fun a Z HM HS=>?_)
   refine s_on Z 8 rfl ?_
   refine iQ Z [.agg #[vI lim,.slice Ap out.length cp],vB x.cpu,.slice Df x.l.length Dg,vI x.opn] rfl rfl (qz4 w _ lim Ap cp out _ (HM.pk [4,0,1,2,3,5]) hcp hout hlm x.cpu hxi.cpu Df Dg x.l x.opn hxi.ok hxi.opn (HM.rd (i:=0) rfl) og om hpw) ?_
   rintro _ w85 ⟨A85,c85,rfl,QJ,eP⟩
   refine ⟨_,rfl,?_⟩
   replace HM:=eP
   clear Z;intro a Z
   refine aK (HM.pk [2,3,4,5]) (fun HS=>?_)
   refine Vb Z HM HS ((Vp [9]∘Vx 10∘Vx 11∘Vx 12) fun a Z HM HS=>?_)
   refine s_on Z 13 rfl (bN Z HM 5 rfl rfl rfl rfl rfl zt rfl rfl (by simp [Value.oneCell']) fun QK HM=>?_)
   refine fZ kr ?_
   refine ap Z (dJ kr) [14,15] (bt 16 []) [(15,vI we),(14,vI k)] fun a Z=>?_
   refine qd kr ?_
   refine Jb Z HM ((JP∘Jp 3∘Jo (.bool false) (by simp)∘Jp 4∘Jo (.bool false) (by simp)∘Jp 1∘aI∘Jj∘JF∘JS) fun a Z HM=>?_)
   exact ⟨o2,A73,c73,A85,c85,Z.sub kr,HM.pk [0,5,3,2],ho2,QI,QJ⟩
  clear Z HM;rintro a wC ⟨o2,Aw,cw,Ax,cx,Z,HM,ho2,hcw,hcx⟩
  refine Jb Z HM ((JP∘Jp 1∘JK (h:=by exact fun HM=>PL jk lim Aw cw o2 _ (HM.blk (i:=3) rfl) (HM.rd (i:=2) rfl) ho2 om)) fun Zl Zm w98 hc98=>(Jp 1∘aY∘Jj∘JQ) fun a Z HM=>?_)
  refine wp_seq ?_
  refine Jb Z HM ((Vs .n []) fun ajZ=>(Vp [0]∘Vf 2 1∘Vy 1 (h:=by exact Yl.str rfl rfl (fun _ h=>h.rd (i:=0) rfl))∘Vc 3 O2∘Vy 4 (h:=by exact Yl.str rfl rfl (fun _ h=>h.rd (i:=1) rfl))∘Vq [5] [(104,.bool (!(((eT o2)).toList==((eT o2)).toList)))]∘Vo (.bool false) (by simp)∘Vp [6,7]∘Vf 9 1∘Vc 10 O2∘Vl 11) fun a Z HM HS=>?_)
  refine s_on Z 8 rfl ?_
  refine iQ Z [vP jk 0] rfl rfl (PS jk lim Aw cw o2 _ (HM.blk (i:=4) rfl) om rfl) ?_
  rintro _ aj0 ⟨rfl,hbw⟩
  refine ⟨_,rfl,?_⟩
  replace HM:=HM.call hbw
  clear Z;intro a Z
  refine aK (HM.pk [0,1,2,3,4]) (fun HS=>?_)
  refine Vb Z HM HS ((Vq [12] [(111,.bool ((o2.length:Int) !=(o2.length:Int)))]∘Vo (.bool false) (by simp)∘Vp [13]∘Vd∘aI∘JF∘aF∘JP∘Jp 1∘Jl∘Jp 1∘Jj∘JB) fun a Z HM=>?_)
  refine qc (fun mS aS wS=>∃(i:Nat) (zs:List Nat),(i≤o2.length)∧(zs.length=o2.length)∧mS=o2.length-i∧Fr aS 123 [] [(115,vI i),(114,vI o2.length),(112,.bool false),(16,.slice Zl o2.length Zm),(45,vI j),(44,vI acts.length),(43,.slice (some ⟨gA,oA,none⟩) acts.length c),(7,vP g7 0),(5,vP jk 0),(4,.bool false),(0,vI lim)]∧Mem w wS [.row (.slice Zl o2.length Zm) o2.length (zs.map B8) 5 1,.row (.slice Ax o2.length cx) o2.length (o2.map B8) 5 1,.blk g7 #[vI lim,.slice Ax o2.length cx] 146,.row (.slice Aw o2.length cw) o2.length (o2.map B8) 5 1,.blk jk #[vI lim,.slice Aw o2.length cw] 171]) (m:=o2.length-0) ⟨0,o2,Nat.zero_le _,rfl,rfl,Z.sub kr,HM.pk [0,1,2,3,4]⟩ ?_
  clear Z HM;rintro mS a w_ ⟨i,zs,hi,hz,rfl,Z,HM⟩
  refine Jb Z HM ((JP∘Jp 1∘Jj∘JQ) (Ji (fun GU=>?_) fun GU=>?_))
  ·
   refine (JT∘aF∘JQ∘JB∘JP∘Jp 2∘aR∘Jj∘JR∘Jp 2) ?_
   repeat (first|clear Z|clear HM)
   intro a Z HM
   obtain ⟨QL,rfl⟩:=zb (HM.own (i:=0) rfl) (Nat.lt_of_le_of_lt (Nat.zero_le _) (show i<o2.length from by omega))
   refine Jb Z HM ((Jy (h:=by exact Yl.j6 QL i 1 rfl rfl rfl)) fun a Z HM=>?_)
   refine fo Z 3 rfl rfl ?_
   refine yH Z HM (i:=0) rfl rfl rfl rfl kr rfl rfl (by rw [List.length_map];omega) fun Zn HM=>?_
   replace HM:=HM.eY (i:=0) (ys:=(zs.set i 0).map B8) rfl (R8 B8 zs i 0 om)
   refine Jb Z HM ((uV∘Jj∘JR∘cK 1∘Jp 1∘aR∘Jq) fun a Z HM=>?_)
   exact ⟨_,om,i+1,(zs.set i 0),by omega,by rw [List.length_set];exact hz,rfl,Z.sub kr,HM.pk [0,1,2,3,4]⟩
  refine (JF∘JX∘JG∘JR∘cK 1∘Jp 1∘aR∘Jq) fun a Z HM=>?_
  exact ⟨_,om,j+1,o2,Aw,cw,Ax,cx,by omega,ho2,hcw,hcx,rfl,Z.sub kr,HM.pk [1,2,3,4]⟩
 intro a Z HM
 have nN:=of_decide_eq_false lK
 exact Jb Z HM ((JF∘JX∘JG∘JP∘Jp 1∘Jj∘JZ) iX)
theorem Zo (lim:Int) (hlm:aM lim) (A:Option Addr) (c:Nat) (acts:List kN) (B:Nat) (w:World) (hL:aL B w) (hB:B≤w.heap.size) (hr:Rd w w.heap.size 5 A acts.length (acts.flatMap QE)) (hin:∀x∈acts,ng w x) (QG:∀x∈acts,x.l.length≤60) (hn:acts.length≤1000000):
  Calls Tryz.prog 25 #[vI lim,.slice A acts.length c] w (Is w (.bool true)):=by
 by_cases h:lim<1∨4096<lim
 ·exact qrv lim hlm h A c acts w
 ·exact qrw lim hlm om A c acts B w hL hB hr hin QG hn
theorem Qr (A:Option Addr) (n c:Nat) (l:List Nat) (BB:Nat) (w:World) (hL:aL BB w) (hB:BB≤w.heap.size) (hr:Rd w w.heap.size 1 A n (l.map B8)) (hc:n≤c) (hl:∀b∈l,b<256) (hln:l.length=n) (hn:n≤100000000) {bs:List Bk} {er:Nat} (h:readAll l=(bs,er)):
  Calls Tryz.prog 71 #[.slice A n c] w (rV 73 85 w er bs):=by
 subst hln
 have h1:=qrb A c l BB w hL hB hr hc hl hn
 rw [h] at h1
 exact h1
theorem qzy (A:Option Addr) (n c:Nat) (l:List Nat) (w:World) (hr:Rd w w.heap.size 1 A n (l.map B8)) (hn:n≤140737488351232) (hln:l.length=n):
  Calls Tryz.prog 70 #[.slice A n c] w fun r w'=>(∃A c,r= .returned (.slice A n c)∧w'.ownsRow w.heap.size 5 1 (.slice A (n+12) c) (n+12) ((l++marks 12).map B8)∧n+12≤c)∧Below w.heap.size w w':=by
 have h:=q2x A n c l w hr hn hln
 unfold q3z at h
 rwa [hln] at h
theorem qzz (b b2:Bk) (A A2:Option Addr) (c c2:Nat) (w:World) (hr:Rd w w.heap.size 11 A b.evs.length (b.evs.flatMap aN)) (hr2:Rd w w.heap.size 11 A2 b2.evs.length (b2.evs.flatMap aN)) (hn:b.evs.length≤1000000) (he:b=b2):
  Calls Tryz.prog 78 #[.agg (b.cells A c),.agg (b2.cells A2 c2)] w (Is w (.bool true)):=by
 subst he
 have h:=Yb b b A A2 c c2 w hr hr2 hn
 rwa [decide_eq_true rfl] at h
theorem Qs (A A2:Option Addr) (c c2:Nat) (w:World) (hr:Rd w w.heap.size 11 A Bk.zero.evs.length (Bk.zero.evs.flatMap aN)):
  Calls Tryz.prog 41 #[.agg (Bk.zero.cells A c),.agg (Bk.zero.cells A2 c2)] w (Is w (.bool true)):=by
 have h:=q12 Bk.zero Bk.zero A A2 c c2 w hr Rd.nil de
 rwa [decide_eq_true rfl] at h
theorem q5f (A:Option Addr) (n c:Nat) (l:List Nat) (w:World) (hr:Rd w w.heap.size 1 A n (l.map B8)) (hc:n≤c) (hl:∀b∈l,b<256) (hln:l.length=n) (hn:n≤1000000) {bs:List Bk} {p e:Nat} (h:ku l=(bs,p,e)):
  Calls Tryz.prog 73 #[.slice A n c] w fun r w'=>∃A c q2,r= .returned (.tuple #[.slice A q2.length c,vI p,vI e])∧bs=q2.map Hb.b∧q2.length≤c∧Mem w w' (.row (.slice A q2.length c) q2.length (q2.flatMap hbL) 80 5::bG 242 q2):=by
 subst hln
 have h1:=q2o A c l w hr hc hl hn
 rw [h] at h1
 exact h1
theorem Mem.q5w {W w w':World} {f:Fact} {a:List Fact} {t t2:TypeId} {q q2:List Hb} (h:Mem W w (a++(bG t q++[]))) (k:Mem w w' (f::bG t2 q2)):Mem W w' (f::(a++(bG t q++(bG t2 q2++[])))):=by
 have h1:=Mem.Fe (a:=a++bG t q) (b:=[]) (by rwa [List.append_nil,←List.append_nil (bG t q)]) k
 rwa [List.append_assoc] at h1
theorem qz0 {l:List Nat} (hl:∀x∈l,x<256) {b:Bk} {m er:Nat} (h:bg l=(b,m,er)):b.evs.length≤1000000:=by
 rw [←Nw hl] at h
 unfold jR at h
 split at h
 ·injection h with h;subst h;simp [Bk.zero]
 ·split at h
  ·rename_i b' hb
   injection h with h;subst h
   unfold dW at hb
   split at hb
   ·cases hb
   ·split at hb
    ·cases hb
    ·split at hb
     ·cases hb
     ·split at hb
      ·cases hb
      ·split at hb
       ·cases hb
       ·injection hb with hb;subst hb;exact Pt _ _
  ·injection h with h;subst h;simp [Bk.zero]
theorem Qt:∀{f:Nat} {L:List Nat} {bs:List Bk} {P e:Nat},(∀x∈L,x<256)→qf f L=(bs,P,e)→∀b∈bs,b.evs.length≤1000000
 |_,_,[],_,_,_,_=>fun _ h=>by cases h
 |f,L,b::t,P,e,hl,h=>by
  obtain ⟨m,h1,_,_,_,h5⟩:=Qh h
  intro x hx
  rcases List.mem_cons.1 hx with rfl|hx
  ·exact qz0 hl h1
  ·exact Qt (f:=f-1) (zj hl m) h5 x hx
theorem qpy (A:Option Addr) (c:Nat) (l:List Nat) (bs ra:List Bk) (p e:Nat) (hS:ku l=(bs,p,e)) (hra:readAll l=(ra,e)) (B:Nat) (w:World) (hL:aL B w) (hB:B≤w.heap.size) (hr:Rd w w.heap.size 1 A l.length (l.map B8)) (hc:l.length≤c) (hl:∀b∈l,b<256) (hn:l.length≤6000):
    Calls Tryz.prog 27 #[.slice A l.length c] w (Is w (.bool true)):=by
 have hfull:qf l.length l=(bs,p,e):=by rw [←qvb hn];exact hS
 have hbl:=Y0 hfull
 refine (dh Tryz.func27 147) ?_
 refine (JP∘Jp 1∘Jr∘Jp 1∘JK (h:=by exact fun HM=>qzy _ l.length _ l _ (HM.old hr) om rfl)) fun gL c19 uJ hc19=>(Jp 1∘aY∘Jr∘Jp 1∘JL (h:=by exact fun HM=>Qr (bs:=ra) (er:=e) gL l.length c19 l B _ (hL.mem HM hB) (HM.le hB) ((HM.rd (i:=0) rfl).pre rfl om) om hl rfl om hra)) ?_
 rintro HM _ Ew ⟨vY,uG,q1,rfl,hq1,hc22,hm⟩
 have GD:ra.length=q1.length:=by rw [←hq1,List.length_map]
 rw [GD] at hm hc22⊢
 refine ⟨_,rfl,_,Mem.Fe (a:=[.row (.slice gL (l.length+12) c19) (l.length+12) ((l++marks 12).map B8) 5 1]) (b:=[]) HM hm,?_⟩
 refine (Jp 1∘Jx∘Jx∘Jp 2∘Jr∘Jp 1∘JI (h:=by exact fun HM=>PU gL l.length c19 l B _ (hL.mem HM hB) (HM.le hB) ((HM.rd (i:=1) rfl).pre rfl om) om hl rfl om hS)) fun OX hbw=>(Jp 1∘Jx∘Jx∘Jx∘Jp 3∘Jr∘Jp 1∘JL (h:=by exact fun HM=>q5f A l.length c l _ (HM.old hr) hc hl rfl om hS)) ?_
 rintro HM _ Ey ⟨jh,iZ,q2,rfl,hq2,kH,hm⟩
 refine ⟨_,rfl,_,Mem.q5w (a:=[.row (.slice vY q1.length uG) q1.length (q1.flatMap hbL) 85 5,.row (.slice gL (l.length+12) c19) (l.length+12) ((l++marks 12).map B8) 5 1]) HM hm,?_⟩
 intro a Z HM
 have ajh:bs.length=q2.length:=by rw [hq2,List.length_map]
 refine Jb Z HM ((Jp 1∘Jx∘Jx∘Jx∘Jp 3∘Jr∘Jp 1∘JL (h:=by exact fun HM=>YO gL c19 l _ ((HM.rd (i:=2) rfl).pre rfl om) om)) ?_)
 rintro HM _ yX ⟨mG,dx,dw,rfl,hc38,hm⟩
 refine ⟨_,rfl,_,HM.join hm,?_⟩
 refine (Jp 1∘aY∘Jj∘JQ) fun a Z HM=>?_
 refine qw (fun aS wS=>Fr aS 147 [] [(86,.bool false),(12,vP mG 0),(11,vI e),(10,vI p),(9,.slice jh q2.length iZ),(3,.slice gL l.length c19),(2,.bool false),(0,.slice A l.length c)]∧Mem w wS (.blk mG #[.bool true,vI (0:Nat),.slice dx l.length dw] 174:: .row (.slice dx l.length dw) l.length (l.map B8) 5 1:: .row (.slice jh q2.length iZ) q2.length (q2.flatMap hbL) 80 5:: .row (.slice vY q1.length uG) q1.length (q1.flatMap hbL) 85 5:: .row (.slice gL (l.length+12) c19) (l.length+12) ((l++marks 12).map B8) 5 1::(bG 73 q1++(bG 242 q2++([]))))) ?_ ?_
 ·
  refine wN ?_
  refine Jb Z HM ((Jp 1∘Jy (v:= .bool false) (h:=by exact Yl.oI rfl rfl rfl)∘Jp 4∘Jo (.bool false) (by simp)∘Jp 5∘Jo (.bool false) (by simp)∘Jp 4∘Jl∘Jp 1∘Jo (.bool false) (by rw [hq2,List.length_map];simp)∘Jp 5∘Jo (.bool false) (by simp)∘Jp 5) (Ju (fun BF=>?_) fun BF=>?_))
  ·
   intro a Z HM
   have Qu:=eq_of_beq BF
   have he0:e=0:=by omega
   have hqq:q1.map Hb.b=q2.map Hb.b:=by rw [hq1,←hq2];unfold readAll at hra;rw [hS,if_neg (by simpa using he0)] at hra;injection hra with h _;exact h.symm
   have bK:∀h∈q1,h.b.evs.length≤1000000:=fun h hh=>Qt hl hfull _ (by rw [hq2,←hqq];exact List.mem_map_of_mem hh)
   have kW:q1.length=q2.length:=by have h:=congrArg List.length hqq;rwa [List.length_map,List.length_map] at h
   refine Jb Z HM ((Jp 2∘JI (h:=by exact fun HM=>Zd vY jh uG iZ q1 q2 hqq _ (HM.rd (i:=3) rfl) (HM.rd (i:=2) rfl) (Mem.KP (a:=[.blk mG #[.bool true,vI (0:Nat),.slice dx l.length dw] 174,.row (.slice dx l.length dw) l.length (l.map B8) 5 1,.row (.slice jh q2.length iZ) q2.length (q2.flatMap hbL) 80 5,.row (.slice vY q1.length uG) q1.length (q1.flatMap hbL) 85 5,.row (.slice gL (l.length+12) c19) (l.length+12) ((l++marks 12).map B8) 5 1]) HM) (Mem.Qq (a:=[.blk mG #[.bool true,vI (0:Nat),.slice dx l.length dw] 174,.row (.slice dx l.length dw) l.length (l.map B8) 5 1,.row (.slice jh q2.length iZ) q2.length (q2.flatMap hbL) 80 5,.row (.slice vY q1.length uG) q1.length (q1.flatMap hbL) 85 5,.row (.slice gL (l.length+12) c19) (l.length+12) ((l++marks 12).map B8) 5 1]) HM) bK om)) fun OT hbw=>(Jp 1∘Jo (.bool false) (by simp)∘Jp 5∘Jo (.bool false) (by simp [he0])∘Jp 9∘JL (h:=by exact fun HM=>Y9 _ _ l.length _ _ l _ (HM.rd (i:=4) rfl) hc19 (HM.old hr) om rfl)) ?_)
   rintro HM _ w84 ⟨rfl,hbw⟩
   refine ⟨_,rfl,_,HM.call hbw,?_⟩
   refine (Jp 1∘Jo (.bool false) (by simp)∘Jp 1∘aI∘Jq) fun a Z HM=>?_
   replace Z:=Z.to [(86,.bool false),(12,vP mG 0),(11,vI e),(10,vI p),(9,.slice jh q2.length iZ),(3,.slice gL l.length c19),(2,.bool false),(0,.slice A l.length c)]
   exact ⟨Z.sub kr,HM.pt 5 [0,1,2,3,4]⟩
  intro a Z HM
  have Qu:=ne_of_beq_false BF
  have he0:e≠0:=by omega
  have Qv:q1.length=0:=by unfold readAll at hra;rw [hS,if_pos (by simpa using he0)] at hra;injection hra with h _;rw [←GD,←h];rfl
  refine Jb Z HM ((Jv 9 [(74,.bool ((e:Int) !=(0:Int))),(72,.bool false)]∘Jo (.bool true) (by simp [he0])∘Jp 2∘Jl∘Jp 1∘Jo (.bool false) (by rw [Qv];try rfl)∘Jp 5∘JL (h:=by exact fun HM=>Y9 _ _ l.length _ _ l _ (HM.rd (i:=4) rfl) hc19 (HM.old hr) om rfl)) ?_)
  rintro HM _ w84 ⟨rfl,hbw⟩
  refine ⟨_,rfl,_,HM.call hbw,?_⟩
  refine (Jp 1∘Jo (.bool false) (by simp)∘Jp 1∘aI∘Jq) fun a Z HM=>?_
  replace Z:=Z.to [(86,.bool false),(12,vP mG 0),(11,vI e),(10,vI p),(9,.slice jh q2.length iZ),(3,.slice gL l.length c19),(2,.bool false),(0,.slice A l.length c)]
  exact ⟨Z.sub kr,HM.pt 5 [0,1,2,3,4]⟩
 clear Z HM;rintro a w6 ⟨Z,HM⟩
 refine Jb Z HM ((JF∘aF∘JP∘Jp 1∘JO (h:=by exact fun HM=>q2p w _ gL l.length c19 ((l++marks 12).map B8) (by simp [marks]) _ (HM.pt 5 [4,0,1,2,3]) hc19 om)) fun w88=>(SF∘Jj∘JQ∘JP∘Jp 1∘Jl∘Jp 1∘Jj∘JB) fun a Z HM=>?_)
 refine qc (fun mS aS wS=>∃(k:Nat) (pp:Nat) (f:Nat),(k≤bs.length)∧(pp≤l.length)∧(l.length-pp≤f)∧(pp≤p)∧(qf f (l.drop pp)=(bs.drop k,p-pp,e))∧mS=bs.length-k∧Fr aS 147 [] [(91,vI k),(90,vI q2.length),(86,.bool false),(12,vP mG 0),(11,vI e),(10,vI p),(9,.slice jh q2.length iZ),(3,.slice gL l.length c19),(2,.bool false),(0,.slice A l.length c)]∧Mem w wS (.blk mG #[.bool true,vI pp,.slice dx l.length dw] 174:: .row (.slice dx l.length dw) l.length (l.map B8) 5 1:: .row (.slice jh q2.length iZ) q2.length (q2.flatMap hbL) 80 5:: .row (.slice vY q1.length uG) q1.length (q1.flatMap hbL) 85 5::(bG 73 q1++(bG 242 q2++([]))))) (m:=bs.length-0) ⟨0,0,l.length,Nat.zero_le _,Nat.zero_le _,Nat.sub_le _ _,Nat.zero_le _,hfull,rfl,Z.sub kr,HM.pt 4 [0,1,2,3]⟩ ?_
 clear Z HM;rintro mS a w_ ⟨k,pp,f,hk,hpl,hfl,hpp,hg,rfl,Z,HM⟩
 refine Jb Z HM ((JP∘Jp 1∘Jj∘JQ) (Ju (fun BG=>?_) fun BG=>?_))
 ·
  intro a Z HM
  have Qw:=of_decide_eq_true BG
  have GH:k<bs.length:=by omega
  rw [q5c GH] at hg
  obtain ⟨m,hnx,ajk,hf0,hmP,hg2⟩:=q5a hg
  have hbn:=Qt hl hfull _ (q7 Bk.zero GH)
  have hbq:(bs.getD k Bk.zero)=(q2.getD k Hb.zero).b:=by rw [hq2,q5b om]
  have hmb:=WK hl hpl hnx
  have tV:=hnx
  unfold nextR at tV
  rw [if_neg om] at tV
  have vF:=(CQ (zj hl pp) tV).least
  refine Jb Z HM ((JT∘aF∘JQ∘JB∘JP∘Jp 2∘aR∘Jr∘Jp 1∘JL (h:=by exact fun HM=>KS _ _ mG pp dx dw l _ (HM.pt 4 [0,1,2,3]) om (by first|exact Nat.le_refl _|omega|exact Nat.zero_le _) hl om B (hL.mem HM hB) hB (hnx))) ?_)
  rintro HM _ w96 ⟨Dl,Dm,rfl,hc96,eP⟩
  refine ⟨_,rfl,_,eP,?_⟩
  refine (Jp 1∘Jx∘Jx∘JA #[vB 0,vB 0,vI 0,vI 0,vN]) fun Cy g14=>(JV aA aZ (h1:=by exact zy _ _ _)) fun Gu=>(Jp 1∘Jj) fun a Z HM=>?_
  refine wp_seq ?_
  refine Jb Z HM ((Vs .n []) fun sj=>(Vp [0]∘Vq [1] [(100,.bool false)]∘Vo (.bool false) (by simp)∘Vp [2,5,6]∘Vy 3 (v:= .agg ((bs.getD k Bk.zero).cells Dl Dm)) (h:=by exact Yl.qg rfl rfl aA rfl (fun _ h=>qb (h.blk (i:=0) rfl)))) ?_)
  repeat (first|clear Z|clear HM|clear HS)
  intro a Z HM HS
  obtain ⟨GI,rfl⟩:=zb (HM.own (i:=4) rfl) (Nat.lt_of_le_of_lt (Nat.zero_le _) (show k<q2.length from by omega))
  refine Vb Z HM HS ((Vy 7 (h:=by exact Yl.j6 GI k 5 rfl rfl rfl)∘Vy 8 (v:= .agg ((q2.getD k Hb.zero).b.cells (q2.getD k Hb.zero).A (q2.getD k Hb.zero).c)) (h:=by exact Yl.qg rfl rfl qi rfl (fun _ h=>h.Sl nQ (i:=4) rfl ((getD_at Hb.zero (k:=k) (by first|omega|(simp;omega))))))∘VK 4 .n (h:=by exact fun HM=>Zb (bs.getD k Bk.zero) Dl Dm _ (HM.rd (i:=1) rfl) hbn)) fun GJ GK ajm Ze=>(VI 9 (.f .n) (h:=by exact fun HM=>qzz (bs.getD k Bk.zero) (q2.getD k Hb.zero).b GJ ((q2.getD k Hb.zero).A) GK (q2.getD k Hb.zero).c _ (HM.rd (i:=0) rfl) ((Mem.Qq (a:=[.row (.slice GJ ((bs.getD k Bk.zero).evs.length) GK) ((bs.getD k Bk.zero).evs.length) ((bs.getD k Bk.zero).evs.flatMap aN) 242 11,.blk g14 ((bs.getD k Bk.zero).cells Dl Dm) 85,.row (.slice Dl ((bs.getD k Bk.zero).evs.length) Dm) ((bs.getD k Bk.zero).evs.length) ((bs.getD k Bk.zero).evs.flatMap aN) 73 11,.blk mG #[.bool true,vI (pp+m:Nat),.slice dx l.length dw] 174,.row (.slice dx l.length dw) l.length (l.map B8) 5 1,.row (vS GI q2.length iZ) q2.length (q2.flatMap hbL) 80 5,.row (.slice vY q1.length uG) q1.length (q1.flatMap hbL) 85 5]) HM).at om) hbn hbq)) fun Qx hbw=>(Vp [10,11]∘Vd∘aI∘JF∘aF∘JR∘cK 1∘Jp 1∘aR∘Jq) fun a Z HM=>?_)
  exact ⟨_,om,k+1,(pp+m),(f-1),by omega,by omega,by omega,by omega,by rw [hg2,Nat.sub_sub],rfl,Z.sub kr,HM.pt 7 [3,4,5,6]⟩
 intro a Z HM
 have Qw:=of_decide_eq_false BG
 rw [List.drop_of_length_le (by omega:bs.length≤k)] at hg
 obtain ⟨hP0,hlast⟩:=qzv hl hpl hfl hg
 have hpe:pp=p:=by omega
 refine Jb Z HM ((JF∘JX∘JG∘JQ∘JP∘Jp 1∘Jj∘JB) fun a Z HM=>?_)
 refine qc (fun mS aS wS=>∃(j:Nat),(j≤2)∧mS=2-j∧Fr aS 147 [] [(112,vI j),(92,.bool false),(91,vI k),(90,vI q2.length),(86,.bool false),(12,vP mG 0),(11,vI e),(10,vI p),(9,.slice jh q2.length iZ),(3,.slice gL l.length c19),(2,.bool false),(0,.slice A l.length c)]∧Mem w wS (.blk mG #[.bool true,vI pp,.slice dx l.length dw] 174:: .row (.slice dx l.length dw) l.length (l.map B8) 5 1:: .row (.slice jh q2.length iZ) q2.length (q2.flatMap hbL) 80 5:: .row (.slice vY q1.length uG) q1.length (q1.flatMap hbL) 85 5::(bG 73 q1++(bG 242 q2++([]))))) (m:=2-0) ⟨0,by omega,rfl,Z.sub kr,HM.pt 4 [0,1,2,3]⟩ ?_
 clear Z HM;rintro mS a w_ ⟨j,hj,rfl,Z,HM⟩
 refine Jb Z HM ((JP∘Jp 1∘Jj∘JQ) (Ji (fun hd113=>?_) fun hd113=>?_))
 ·
  refine (JT∘aF∘JQ∘JB∘JP∘Jp 1∘JL (h:=by exact fun HM=>KS _ _ mG pp dx dw l _ (HM.pt 4 [0,1,2,3]) (hpl) (by first|exact Nat.le_refl _|omega|exact Nat.zero_le _) hl om B (hL.mem HM hB) hB (hlast) (p2:=pp) (rfl))) ?_
  rintro HM _ ajn ⟨vZ,c116,rfl,Zf,eP⟩
  refine ⟨_,rfl,_,eP,?_⟩
  refine (Jp 1∘Jx∘Jx∘JA #[vB 0,vB 0,vI 0,vI 0,vN]) fun w16 g16=>(JV aA aZ (h1:=by exact zy _ _ _)) fun Zg=>(Jp 1∘Jj) fun a Z HM=>?_
  refine qw (fun aS wS=>Fr aS 147 [] [(145,.bool false),(17,vI (tL e)),(16,vP g16 0),(113,.bool true),(112,vI j),(92,.bool false),(91,vI k),(90,vI q2.length),(86,.bool false),(12,vP mG 0),(11,vI e),(10,vI p),(9,.slice jh q2.length iZ),(3,.slice gL l.length c19),(2,.bool false),(0,.slice A l.length c)]∧Mem w wS (.blk g16 (Bk.zero.cells vZ c116) 85:: .row (.slice vZ Bk.zero.evs.length c116) Bk.zero.evs.length (Bk.zero.evs.flatMap aN) 73 11:: .blk mG #[.bool true,vI (pp:Nat),.slice dx l.length dw] 174:: .row (.slice dx l.length dw) l.length (l.map B8) 5 1:: .row (.slice jh q2.length iZ) q2.length (q2.flatMap hbL) 80 5:: .row (.slice vY q1.length uG) q1.length (q1.flatMap hbL) 85 5::(bG 73 q1++(bG 242 q2++([]))))) ?_ ?_
  ·
   refine wN ?_
   refine Jb Z HM ((Jy (v:= .agg (Bk.zero.cells vZ c116)) (h:=by exact Yl.qg rfl rfl aA rfl (fun _ h=>qb (h.blk (i:=0) rfl)))∘Jy (v:= .agg #[vB 0,vB 0,vI 0,vI 0,vN]) (h:=by exact Yl.build (vs:=[]) rfl kr kr)∘JI (h:=by exact fun HM=>Qs vZ none c116 0 _ (HM.rd (i:=1) rfl))) fun ajo hbw=>(Jp 3∘JI (h:=by exact fun HM=>YP mG pp dx dw l _ (HM.blk (i:=2) rfl))) fun ajp hbw=>(Jp 2∘Jo (.bool false) (by rw [hpe];simp)∘Jp 5) (Ju (fun tX=>?_) fun tX=>?_))
   ·
    intro a Z HM
    have GL:=eq_of_beq tX
    have he1:e=0:=by omega
    have hE:tL e=6:=if_pos he1
    refine Jb Z HM ((Jp 2∘Jo (.bool false) (by rw [hE];simp)∘Jp 5∘Jo (.bool false) (by simp [he1])∘Jp 6∘aI∘Jq) fun a Z HM=>?_)
    exact ⟨Z.sub kr,HM.pt 6 [0,1,2,3,4,5]⟩
   intro a Z HM
   have GL:=ne_of_beq_false tX
   have he1:e≠0:=by omega
   have hE:tL e=e:=if_neg he1
   refine Jb Z HM ((Jp 7∘Jo (.bool true) (by simp [he1])∘Jp 4∘Jo (.bool false) (by rw [hE];simp)∘Jp 2∘aI∘Jq) fun a Z HM=>?_)
   exact ⟨Z.sub kr,HM.pt 6 [0,1,2,3,4,5]⟩
  clear Z HM;rintro a uJ ⟨Z,HM⟩
  refine Jb Z HM ((JF∘aF∘JR∘cK 1∘Jp 1∘aR∘Jq) fun a Z HM=>?_)
  exact ⟨_,om,j+1,by omega,rfl,Z.sub kr,HM.pt 6 [2,3,4,5]⟩
 exact (JF∘JX∘JG∘JP∘Jp 1∘Jj∘JZ) iX
theorem qrs (A:Option Addr) (c:Nat) (l:List Nat) (B:Nat) (w:World) (hL:aL B w) (hB:B≤w.heap.size) (hr:Rd w w.heap.size 1 A l.length (l.map B8)) (hc:l.length≤c) (hl:∀b∈l,b<256) (hn:l.length≤6000):
  Calls Tryz.prog 27 #[.slice A l.length c] w (Is w (.bool true)):=by
 obtain ⟨bs,p,e,hS⟩:∃bs p e,ku l=(bs,p,e):=⟨_,_,_,rfl⟩
 have h2:(readAll l).2=e:=by
  unfold readAll
  rw [hS]
  split
  ·rfl
  ·rename_i h;dsimp only at h⊢;omega
 exact qpy A c l bs (readAll l).1 p e hS (by rw [←h2]) B w hL hB hr hc hl hn
theorem QO (n:Nat):(madeCells #[.int .u8 0] (n*1)).toList=(List.replicate n 0).map B8:=by
 rw [Nat.mul_one,List.map_replicate]
 unfold madeCells
 simp only [B8,Array.toList_ofFn,List.size_toArray,List.length_cons,List.length_nil,Nat.mod_one,Array.getD_eq_getD_getElem?]
 rw [List.eq_replicate_iff]
 refine ⟨by simp,fun b hb=>?_⟩
 simp [Nat.mod_one] at hb
 exact hb.2.symm
theorem QS (n:Nat):∀b∈List.replicate n 0,b<256:=fun b hb=>by rw [List.eq_of_mem_replicate hb];decide
theorem wz (n:Nat):(List.replicate n 0).length=n:=List.length_replicate
theorem qvg:ku (List.replicate 524289 0)=([],0,3):=if_pos (by rw [wz];decide)
theorem qrx:readAll (List.replicate 524289 0)=([],3):=WC (by rw [wz];decide)
theorem qry (m:Nat):bg (List.replicate (m+4) 0)=(Bk.zero,0,101):=by
 have h1:¬(List.replicate (m+4) 0).length<4:=by rw [wz];omega
 have h2:dS (List.replicate (m+4) 0)=0:=rfl
 have h3:aC (List.replicate (m+4) 0)=(0,101):=by unfold aC;rw [if_neg h1,h2];rfl
 unfold bg
 rw [h3]
 rfl
theorem qz7 (m:Nat) (hm:m+4≤524288):readAll (List.replicate (m+4) 0)=([],101):=
 WE (by rw [wz];omega) (by rw [wz,Kh om (by rw [wz];omega) (qry m) de]) de
theorem qvh:readAll (List.replicate 524288 0)=([],101):=qz7 524284 de
theorem qrz {α:Type} (f:α→List Value) (sz:Nat) (hf:∀x,(f x).length=sz) (h0:0<sz) (z:α) (m:Nat):(madeCells (f z).toArray (m*sz)).toList=(List.replicate m z).flatMap f:=by
 unfold madeCells
 have hl:((List.replicate m z).flatMap f).length=m*sz:=by rw [Dx f sz hf,List.length_replicate]
 refine List.ext_getElem (by rw [hl];simp) fun i h1 h2=>?_
 have h3:i<m*sz:=by rw [←hl];exact h2
 have hk:i/sz<(List.replicate m z).length:=by rw [List.length_replicate];exact Nat.div_lt_of_lt_mul (by rw [Nat.mul_comm];exact h3)
 have hj:=Nat.mod_lt i h0
 have h4:=wI f sz hf (List.replicate m z) (i/sz) (i%sz) hk hj
 rw [show i/sz*sz+i%sz=i by rw [Nat.mul_comm];exact Nat.div_add_mod i sz,List.getElem?_eq_getElem h2,List.getElem_replicate] at h4
 rw [List.getElem?_eq_getElem (by rw [hf];exact hj)] at h4
 injection h4 with h4
 rw [h4]
 simp [hf]
 rw [List.getElem?_eq_getElem (by rw [hf];exact hj)]
 rfl
def lT:Hb:=⟨cZ 1,none,0⟩
def j4 (k:Nat):List Hb:=List.replicate k lT++List.replicate (40329-k) Hb.zero
theorem GY {k:Nat} (h:k≤40329):(j4 k).length=40329:=by unfold j4;rw [List.length_append,List.length_replicate,List.length_replicate];omega
theorem GZ:(madeCells #[.int .u8 0,.int .u8 0,.int .i64 0,.int .i64 0,.slice none 0 0] (40329*5)).toList=(j4 0).flatMap hbL:=qrz hbL 5 nQ de Hb.zero 40329
theorem q5k {k:Nat} (h:k<40329):(j4 k).set k lT=j4 (k+1):=by
 unfold j4
 rw [List.set_append_right _ _ (by rw [List.length_replicate];omega),List.length_replicate,Nat.sub_self,show 40329-k=40329- (k+1)+1 by omega,List.replicate_succ,List.set_cons_zero,List.replicate_succ' (n:=k),List.append_assoc]
 rfl
theorem KZ:j4 40329=List.replicate 40329 lT:=List.append_nil _
theorem q5l {k:Nat} (h:k<40329):putAt ((j4 k).flatMap hbL) (k*5) (hbL lT)=(j4 (k+1)).flatMap hbL:=(Iu hbL 5 nQ (j4 k) k lT (by rw [GY om];exact h)).trans (by rw [q5k h])
def dA (k:Nat):List Nat:=bD (List.replicate k (cZ 1))
theorem K3:(cZ 1).err=0:=by decide+kernel
theorem K4:(cZ 1).out.length=13:=by decide+kernel
theorem QT (k:Nat):dA (k+1)=dA k++(cZ 1).out:=by
 unfold dA
 rw [List.replicate_succ',WA]
 unfold bD
 rw [List.flatMap_singleton]
theorem wB (k:Nat):(dA k).length=13*k:=by
 induction k with
 |zero=>rfl
 |succ k ih=>rw [QT,List.length_append,ih,K4];omega
theorem QU (k:Nat) (l:List Bk):cO (List.replicate k (cZ 1)++l)=cO l:=by
 induction k with
 |zero=>rfl
 |succ k ih=>rw [List.replicate_succ,List.cons_append,cO,if_pos K3,ih]
theorem G5:q9 [cZ 1]=((cZ 1).out,0):=by
 have h:=Kj (bs:=[cZ 1]) (by rw [cO,if_pos K3];rfl) (by unfold bD;rw [List.flatMap_singleton,K4];decide)
 rw [h]
 unfold bD
 rw [List.flatMap_singleton]
theorem q22 {k:Nat} (h:k<40329):qu (dA k) [cZ 1]=(dA (k+1),0):=by
 rw [Oc G5 rfl (by rw [wB,K4];omega),QT]
theorem qz8:qu (dA 40329) [cZ 1]=(dA 40329,3):=Km G5 rfl (by rw [wB,K4];decide)
theorem G6 (k:Nat) (l:List Hb):(List.replicate k lT++l).map Hb.b=List.replicate k (cZ 1)++l.map Hb.b:=by rw [List.map_append,List.map_replicate];rfl
theorem wlk {n:Nat} (h:13*n≤524288):q9 ((List.replicate n lT).map Hb.b)=(dA n,0):=by
 have e:(List.replicate n lT).map Hb.b=List.replicate n (cZ 1):=List.map_replicate
 rw [e]
 have h2:=QU n []
 rw [List.append_nil] at h2
 exact Kj h2 (by have:=wB n;unfold dA at this;omega)
theorem wl1:q9 ((j4 40329).map Hb.b)=(dA 40329,0):=by rw [KZ];exact wlk de
theorem QV {n:Nat} (h:524288<13*n+13):q9 ((List.replicate n lT++[lT]).map Hb.b)=([],3):=by
 rw [G6]
 refine N9 ((QU n _).trans ?_) ?_
 ·exact if_pos K3
 ·have h1:=wB (n+1)
  rw [QT] at h1
  rw [WA]
  show 524288<(dA n++bD [cZ 1]).length
  unfold bD
  rw [List.flatMap_singleton,h1]
  omega
theorem wl2:q9 ((j4 40329++[lT]).map Hb.b)=([],3):=by rw [KZ];exact QV de
theorem q23:Bk.zero.err=107:=by decide+kernel
theorem wl3:q9 ((j4 40329++[lT,Hb.zero]).map Hb.b)=([],107):=by
 rw [KZ,G6]
 have e:cO (List.replicate 40329 (cZ 1)++[lT,Hb.zero].map Hb.b)=107:=by
  rw [QU]
  show (if (cZ 1).err=0 then (if Bk.zero.err=0 then 0 else Bk.zero.err) else _)=107
  rw [if_pos K3,q23]
  rfl
 rw [N8 (by rw [e];decide),e]
theorem yh:∀h∈j4 40329,h.b.Ok∧h.A=none∧h.b.evs=[]:=fun h hh=>by
 rw [KZ] at hh
 rw [List.eq_of_mem_replicate hh]
 exact ⟨Kk (by unfold aM;decide),rfl,rfl⟩
theorem q32 {l:List Hb} (hl:∀h∈l,h.b.Ok∧h.A=none∧h.b.evs=[]):∀h∈j4 40329++l,h.b.Ok∧h.A=none∧h.b.evs=[]:=fun h hh=>by
 rcases List.mem_append.1 hh with hh|hh
 ·exact yh h hh
 ·exact hl h hh
theorem G7 {q:List Hb} {w:World} (h:∀h∈q,h.b.Ok∧h.A=none∧h.b.evs=[]):fA w q:=fun x hx=>by
 obtain ⟨_,h1,h2⟩:=h x hx
 rw [h1,h2]
 exact Rd.nil
theorem yj:∀h∈[lT],h.b.Ok∧h.A=none∧h.b.evs=[]:=fun h hh=>by rw [List.mem_singleton.1 hh];exact ⟨Kk (by unfold aM;decide),rfl,rfl⟩
theorem G8:∀h∈[lT,Hb.zero],h.b.Ok∧h.A=none∧h.b.evs=[]:=fun h hh=>by
 rcases List.mem_cons.1 hh with rfl|hh
 ·exact yj _ (List.mem_singleton.2 rfl)
 ·rw [List.mem_singleton.1 hh];exact ⟨⟨by decide,by decide,by show aM 0;unfold aM;decide,by show aM 0;unfold aM;decide,by intro e he;cases he⟩,rfl,rfl⟩
theorem q61:bH 0 [] 1 1=([⟨1,0,1,0,[]⟩],0):=by decide+kernel
theorem QW:fB (dA 40329) 1 0 [] 1=(dA 40329,0,3):=by
 obtain ⟨R,hR,hl⟩:∃R,q9 [⟨1,0,1,0,[]⟩]=(R,0)∧12≤R.length:=⟨(Bk.out ⟨1,0,1,0,[]⟩),by decide+kernel,by decide+kernel⟩
 exact Oe q61 rfl (Km hR rfl (by rw [wB];omega)) de
theorem QX (A:Option Addr) (n c:Nat) (q:List Hb) (B:Nat) (w:World) (hL:aL B w) (hB:B≤w.heap.size) (hq:q.length=n) (hr:Rd w w.heap.size 5 A n (q.flatMap hbL)) (hk:∀h∈q,h.b.Ok∧h.A=none∧h.b.evs=[]) (hn:n≤1000000) {R:List Nat} {er:Nat} (h:q9 (q.map Hb.b)=(R,er)):
  Calls Tryz.prog 47 #[.slice A n c] w (za w er R):=by
 subst hq
 exact YM A c q B w hL hB hr (G7 hk) (fun h hh=>(hk h hh).1) (fun h hh=>by rw [(hk h hh).2.2];decide) hn h
def ni:List Int:=[-9223372036854775808,-1,0,1,2,3,63,64,4096,4097,281474976710651,281474976710653,281474976710654,281474976710656,281474976710657,9223372036854775807]
theorem q5m {k:Nat} (hk:k<16):aM (ni.getD k 0):=by
 have h:∀k,k<16→aM (ni.getD k 0):=by unfold aM;decide
 exact h k hk
def nk (m:Nat) (n:Int):List It:=[⟨{mM with cpu:=m},3⟩,⟨mY,n⟩]
theorem wD {m:Nat} {n:Int} (hm:m<256) (hn:aM n):∀x∈nk m n,x.Ok:=by
 intro x hx
 rcases List.mem_cons.1 hx with rfl|hx
 ·exact ⟨{VE with cpu:=hm},by show aM 3;unfold aM;decide⟩
 ·rw [List.mem_singleton.1 hx];exact ⟨YQ,hn⟩
theorem G9 {m:Nat} {n:Int} (hm:m<256) (hn:aM n):∀x∈(nk m n).take 1,x.Ok:=fun x hx=>wD hm hn x (List.mem_of_mem_take hx)
def QY (i:Nat):It:=⟨{Ev.zero with seq:=((1+i:Nat):Int),cpu:=1,kind:=6},((i/1010*100:Nat):Int)⟩
def bM (k:Nat):List It:=(List.range k).map QY
theorem BL (k:Nat):(bM k).length=k:=by unfold bM;rw [List.length_map,List.length_range]
theorem qvi (k:Nat):bM (k+1)=bM k++[QY k]:=by unfold bM;rw [List.range_succ,List.map_append];rfl
theorem q24 {k:Nat} (hk:k≤1030):∀x∈bM k,x.Ok:=by
 intro x hx
 unfold bM at hx
 obtain ⟨i,hi,rfl⟩:=List.mem_map.1 hx
 have hi:=List.mem_range.1 hi
 exact ⟨⟨show aM ((1+i:Nat):Int) by unfold aM;omega,by show aM 0;unfold aM;decide,by show 1<256;decide,by show 6<256;decide,qz,qz,qz,qz,qz,by show 0<18446744073709551616;decide,qz⟩,show aM ((i/1010*100:Nat):Int) by unfold aM;omega⟩
def Dn:List Int:=[1017,1019,1030]
theorem q62 {k:Nat} (hk:k<3):∃n:Nat,Dn.getD k 0=(n:Int)∧n≤1030:=by
 obtain rfl|rfl|rfl:k=0∨k=1∨k=2:=by omega
 ·exact ⟨1017,rfl,by decide⟩
 ·exact ⟨1019,rfl,by decide⟩
 ·exact ⟨1030,rfl,by decide⟩
def BM:List Int:=[0,1,128,16384,2097152,140737488355328]
theorem q63 {k:Nat} (hk:k<6):aM (BM.getD k 0):=by
 have h:∀k,k<6→aM (BM.getD k 0):=by unfold aM;decide
 exact h k hk
def yt:Bk:=⟨1,2,9,0,[]⟩
def Dp:Bk:=⟨2,0,0,300,[]⟩
theorem Zq:yt.Ok:=⟨by decide,by decide,by show aM 9;unfold aM;decide,by show aM 0;unfold aM;decide,by intro e he;cases he⟩
theorem Zr:Dp.Ok:=⟨by decide,by decide,by show aM 0;unfold aM;decide,by show aM 300;unfold aM;decide,by intro e he;cases he⟩
def kD:List Nat:=yt.out++Dp.out
theorem QZ:∀x∈kD,x<256:=fun x hx=>by
 rcases List.mem_append.1 hx with hx|hx
 ·exact UU Zq x hx
 ·exact UU Zr x hx
theorem q5n:kD.length≤100:=by decide+kernel
theorem q64 (i:Nat):∀x∈kD.take i++[13,0,0,0],x<256:=fun x hx=>by
 rcases List.mem_append.1 hx with hx|hx
 ·exact QZ x (List.mem_of_mem_take hx)
 ·have:∀x∈[13,0,0,0],x<256:=by decide
  exact this x hx
theorem wE (cpu:Nat) (bA:cpu<256) (A:Option Addr) (n c:Nat) (l:List It) (opn lim:Int) (hok:∀x∈l,x.Ok) (hop:aM opn) (hlm:aM lim) (B:Nat) (w:World) (hL:aL B w) (hB:B≤w.heap.size) (hln:l.length=n) (hr:Rd w w.heap.size 12 A n (l.flatMap bV)) (hc:n≤c) (hn:n≤100000):
  Calls Tryz.prog 24 #[.int .u8 (cpu:Int),.slice A n c,.int .i64 opn,.int .i64 lim] w (Is w (.bool true)):=by
 subst hln
 exact qvf cpu bA A c l opn lim hok hop hlm B w hL hB hr hc hn
theorem Q0 (A:Option Addr) (n c:Nat) (l:List Nat) (B:Nat) (w:World) (hL:aL B w) (hB:B≤w.heap.size) (hln:l.length=n) (hr:Rd w w.heap.size 1 A n (l.map B8)) (hc:n≤c) (hl:∀b∈l,b<256) (hn:n≤6000):
  Calls Tryz.prog 27 #[.slice A n c] w (Is w (.bool true)):=by
 subst hln
 exact qrs A c l B w hL hB hr hc hl hn
def BN (g:Nat):List kN:=[⟨false,2,some ⟨g,0,none⟩,2,nk 2 0,0,0⟩]
def BO (g:Nat) (n:Int):List kN:=[⟨false,2,some ⟨g,0,none⟩,2,nk 2 0,n,0⟩,⟨true,0,none,0,[],0,n⟩,⟨false,2,none,0,[],1,0⟩]
theorem je:aM 0∧aM 1:=⟨qz,by unfold aM;decide⟩
theorem q5o {g:Nat} {w:World} (h:Rd w w.heap.size 12 (some ⟨g,0,none⟩) 2 ((nk 2 0).flatMap bV)):∀x∈BN g,ng w x:=fun x hx=>by
 rw [List.mem_singleton.1 hx]
 exact ⟨by show 2<256;decide,wD de je.1,je.1,je.1,Nat.le_refl _,by show 2≤maxLen;unfold maxLen;decide,h⟩
theorem q5p {g:Nat} {n:Int} {w:World} (hn:aM n) (h:Rd w w.heap.size 12 (some ⟨g,0,none⟩) 2 ((nk 2 0).flatMap bV)):∀x∈BO g n,ng w x:=fun x hx=>by
 rcases List.mem_cons.1 hx with rfl|hx
 ·exact ⟨by show 2<256;decide,wD de je.1,hn,je.1,Nat.le_refl _,by show 2≤maxLen;unfold maxLen;decide,h⟩
 rcases List.mem_cons.1 hx with rfl|hx
 ·exact ⟨by show 0<256;decide,fun y hy=>(nomatch hy),je.1,hn,Nat.le_refl _,by show 0≤maxLen;unfold maxLen;decide,Rd.nil⟩
 rw [List.mem_singleton.1 hx]
 exact ⟨by show 2<256;decide,fun y hy=>(nomatch hy),je.2,je.1,Nat.le_refl _,by show 0≤maxLen;unfold maxLen;decide,Rd.nil⟩
theorem q5q (g:Nat):∀x∈BN g,x.l.length≤60:=fun x hx=>by rw [List.mem_singleton.1 hx];show 2≤60;decide
theorem q5r (g:Nat) (n:Int):∀x∈BO g n,x.l.length≤60:=fun x hx=>by
 rcases List.mem_cons.1 hx with rfl|hx
 ·show 2≤60;decide
 rcases List.mem_cons.1 hx with rfl|hx
 ·show 0≤60;decide
 rw [List.mem_singleton.1 hx]
 show 0≤60;decide
theorem Zt (p:Option Addr) (w:World) (hno:∀w',Below w.heap.size w w'→Calls Tryz.prog 125 #[.pointer p] w' (Is w' (.bool true))):Calls Tryz.prog 64 #[.pointer p,vB 64,vN,vI (-1)] w (Is w (.tuple #[vI 0,vI 1])):=by
 refine (uY Tryz.func64 35) ?_
 refine (JP∘Jp 2∘Jj∘JQ∘JP∘Jp 1∘JL (h:=by exact fun HM=>hno _ HM.below)) ?_
 rintro HM _ nD ⟨rfl,hbw⟩
 refine ⟨_,rfl,_,HM.call hbw,?_⟩
 exact (aR∘Jj∘JT∘JP∘Jp 2∘Jj∘JZ) SK
theorem Zu (p:Option Addr) (w:World) (hno:∀w',Below w.heap.size w w'→Calls Tryz.prog 125 #[.pointer p] w' (Is w' (.bool true))):Calls Tryz.prog 62 #[.pointer p,vI 0] w (Is w (vI 1)):=by
 refine (iG Tryz.func62 12) ?_
 refine (JP∘Jp 1∘Jj∘JQ∘JP∘Jp 1∘JL (h:=by exact fun HM=>hno _ HM.below)) ?_
 rintro HM _ w6 ⟨rfl,hbw⟩
 refine ⟨_,rfl,_,HM.call hbw,?_⟩
 exact (aR∘Jj∘JT∘JP∘Jp 1∘Jj∘JZ) iX
theorem Zv (p:Option Addr) (w:World) (hno:∀w',Below w.heap.size w w'→Calls Tryz.prog 125 #[.pointer p] w' (Is w' (.bool true))):Calls Tryz.prog 67 #[.pointer p] w (Is w (vI 0)):=by
 refine (dh Tryz.func67 10) ?_
 refine (JP∘Jp 1∘Jj∘JQ∘JP∘Jp 1∘JL (h:=by exact fun HM=>hno _ HM.below)) ?_
 rintro HM _ w4 ⟨rfl,hbw⟩
 refine ⟨_,rfl,_,HM.call hbw,?_⟩
 exact (aR∘Jj∘JT∘JP∘Jp 1∘Jj∘JZ) iX
theorem Zw (p:Option Addr) (w:World) (hno:∀w',Below w.heap.size w w'→Calls Tryz.prog 125 #[.pointer p] w' (Is w' (.bool true))):Calls Tryz.prog 66 #[.pointer p] w (Is w (vN)):=by
 refine (dh Tryz.func66 10) ?_
 refine (JP∘Jp 1∘Jj∘JQ∘JP∘Jp 1∘JL (h:=by exact fun HM=>hno _ HM.below)) ?_
 rintro HM _ w4 ⟨rfl,hbw⟩
 refine ⟨_,rfl,_,HM.call hbw,?_⟩
 exact (aR∘Jj∘JT∘JP∘Jp 1∘Jj∘JZ) iX
theorem q25 (w:World):Calls Tryz.prog 77 #[.pointer none] w (Is w (.tuple #[.agg (Bk.zero.cells none 0),vI 1])):=by
 refine (dh Tryz.func77 52) ?_
 refine (JP∘JA #[vB 0,vB 0,vI 0,vI 0,vN]) fun w2 g2=>(Jp 1∘Jj∘JQ∘JP∘Jp 1∘Jy (v:= .bool true) (h:=by exact Yl.oI rfl rfl rfl)∘Jp 7∘aI∘Jj∘JT∘JP∘Jy (v:= .agg #[vB 0,vB 0,vI 0,vI 0,vN]) (h:=by exact Yl.build (vs:=[]) rfl kr kr)∘JV aA aZ) fun pJ=>(Jp 1∘aR∘Jj∘JZ) fun a Z HM=>?_
 exact dP rfl Z (.cellS (i:=0) Z HM rfl rfl aA rfl) (.tmp Z rfl) (⟨rfl,HM.below⟩)
theorem qvj (w:World):Calls Tryz.prog 80 #[.pointer none] w (Is w (vI 0)):=by
 refine (dh Tryz.func80 9) ?_
 exact (JP∘Jp 1∘Jj∘JQ∘JP∘Jp 1∘Jy (v:= .bool true) (h:=by exact Yl.oI rfl rfl rfl)∘aR∘Jj∘JT∘JP∘Jp 1∘Jj∘JZ) iX
theorem q0a (g:Nat) (w:World) (hg:w.heap[g]?=some (.cells #[.bool false,vI 0,vN] 174 (0,0))):Calls Tryz.prog 77 #[vP g 0] w (Is w (.tuple #[.agg (Bk.zero.cells none 0),vI 1])):=by
 refine (dh Tryz.func77 52) ?_
 refine (JP∘JA #[vB 0,vB 0,vI 0,vI 0,vN]) fun w2 g2=>(Jp 1∘Jj∘JQ∘JP∘Jp 1∘Jy (v:= .bool false) (h:=by exact Yl.oI rfl rfl rfl)∘Jp 2∘Jn∘Jf 0∘Jy (v:= .bool false) (h:=by exact Yl.qn rfl rfl kr (fun _ h=>h.qy hg rfl))∘Jp 2∘aI∘Jj∘JT∘JP∘Jy (v:= .agg #[vB 0,vB 0,vI 0,vI 0,vN]) (h:=by exact Yl.build (vs:=[]) rfl kr kr)∘JV aA aZ) fun pJ=>(Jp 1∘aR∘Jj∘JZ) fun a Z HM=>?_
 exact dP rfl Z (.cellS (i:=0) Z HM rfl rfl aA rfl) (.tmp Z rfl) (⟨rfl,HM.below⟩)
theorem qr0 (g:Nat) (w:World) (hg:w.heap[g]?=some (.cells #[.bool false,vI 0,vN] 174 (0,0))):Calls Tryz.prog 80 #[vP g 0] w (Is w (vI 0)):=by
 refine (dh Tryz.func80 9) ?_
 exact (JP∘Jp 1∘Jj∘JQ∘JP∘Jp 1∘Jy (v:= .bool false) (h:=by exact Yl.oI rfl rfl rfl)∘aR∘Jj∘JF∘aF∘JP∘Jp 1∘Jn∘Jf 1∘Jy (v:=vI 0) (h:=by exact Yl.qn rfl rfl kr (fun _ h=>h.qy hg rfl))∘Jp 1∘dR∘Jj∘JZ) iX
theorem He:EI Tryz.prog 172 142 (.pointer none) 1 8:=⟨by kernel_rfl,by kernel_rfl,rfl,by omega⟩
theorem Hf:EI Tryz.prog 175 162 (.pointer none) 1 8:=⟨by kernel_rfl,by kernel_rfl,rfl,by omega⟩
theorem K5 {g:Nat} {w:World} (hg:w.heap[g]?=some (.cells #[vI 0,vN] 171 (0,0))):∀w',Below w.heap.size w w'→Calls Tryz.prog 125 #[vP g 0] w' (Is w' (.bool true)):=
 fun w' hb=>YI g 0 none 0 0 w' ((hb.block g (kQ hg)).trans hg)
theorem qr1 (B:Nat) (w:World) (hL:aL B w) (hB:B≤w.heap.size):Calls Tryz.prog 28 #[] w (Is w (.bool true)):=by
 refine (Eh Tryz.func28 113) ?_
 refine (JP∘Jp 1∘Jj∘JQ∘JP∘Jy (v:= .agg #[vI 0,vN]) (h:=by exact Yl.build (vs:=[]) rfl kr kr)∘JE) fun EX g17=>(JU He #[.pointer none,vP g17 0]) fun qJ g18=>(Jl∘Jp 1∘Jj∘JB) fun a Z HM=>?_
 refine qc (fun mS aS wS=>∃(k:Nat),(k≤2)∧mS=2-k∧Fr aS 113 [] [(20,vI k),(19,vI 2),(18,vS g18 2 2),(0,.bool false)]∧Mem w wS [.blk g18 #[.pointer none,vP g17 0] 142,.blk g17 #[vI 0,vN] 171]) (m:=2-0) ⟨0,Nat.zero_le _,rfl,Z.sub kr,HM.pk [0,1]⟩ ?_
 clear Z HM;rintro mS a w_ ⟨k,hk,rfl,Z,HM⟩
 refine Jb Z HM ((JP∘Jp 1∘Jj∘JQ) (Ji (fun gF=>?_) fun gF=>?_))
 ·
  refine (JT∘aF∘JQ∘JB∘JQ) ?_
  repeat (first|clear Z|clear HM)
  intro a Z HM
  obtain rfl|rfl:k=0∨k=1:=by omega
  ·
   refine Jb Z HM ((JR∘Jy (h:=by exact Yl.j6 g18 0 1 rfl rfl rfl)∘Jc O0∘Jp 1∘aY∘Jr∘Jp 1∘JL (h:=by exact fun HM=>Zt none _ (fun w' hb=>KR w'))) ?_)
   rintro HM _ Dh ⟨rfl,hbw⟩
   refine ⟨_,rfl,_,HM.call hbw,?_⟩
   refine (Jp 1∘Jx∘Jx∘Jp 2∘Jr∘Jv 8 [(36,.pointer none),(35,.bool false)]∘JL (h:=by exact fun HM=>Zu none _ (fun w' hb=>KR w'))) ?_
   rintro HM _ zR ⟨rfl,hbw⟩
   refine ⟨_,rfl,_,HM.call hbw,?_⟩
   refine (Jv 4 [(41,.pointer none),(40,.bool false)]∘JL (h:=by exact fun HM=>Zv none _ (fun w' hb=>KR w'))) ?_
   rintro HM _ w42 ⟨rfl,hbw⟩
   refine ⟨_,rfl,_,HM.call hbw,?_⟩
   refine (Jv 4 [(46,.pointer none),(45,.bool false)]∘JL (h:=by exact fun HM=>Zw none _ (fun w' hb=>KR w'))) ?_
   rintro HM _ Ya ⟨rfl,hbw⟩
   refine ⟨_,rfl,_,HM.call hbw,?_⟩
   refine (Jl∘Jv 2 [(50,.bool false)]∘aI∘Jj∘JF∘aF∘JR∘cK 1∘Jp 1∘aR∘Jq) fun a Z HM=>?_
   exact ⟨_,om,1,by omega,rfl,Z.sub kr,HM.pk [0,1]⟩
  ·
   refine Jb Z HM ((JR∘Jy (h:=by exact Yl.j6 g18 1 1 rfl rfl rfl)∘Jc O0∘Jp 1∘aY∘Jr∘Jp 1∘JL (h:=by exact fun HM=>Zt (some ⟨g17,0,none⟩) _ (K5 (HM.blk (i:=1) rfl)))) ?_)
   rintro HM _ Dh ⟨rfl,hbw⟩
   refine ⟨_,rfl,_,HM.call hbw,?_⟩
   refine (Jp 1∘Jx∘Jx∘Jp 2∘Jr∘Jv 8 [(36,vP g17 0),(35,.bool false)]∘JL (h:=by exact fun HM=>Zu (some ⟨g17,0,none⟩) _ (K5 (HM.blk (i:=1) rfl)))) ?_
   rintro HM _ zR ⟨rfl,hbw⟩
   refine ⟨_,rfl,_,HM.call hbw,?_⟩
   refine (Jv 4 [(41,vP g17 0),(40,.bool false)]∘JL (h:=by exact fun HM=>Zv (some ⟨g17,0,none⟩) _ (K5 (HM.blk (i:=1) rfl)))) ?_
   rintro HM _ w42 ⟨rfl,hbw⟩
   refine ⟨_,rfl,_,HM.call hbw,?_⟩
   refine (Jv 4 [(46,vP g17 0),(45,.bool false)]∘JL (h:=by exact fun HM=>Zw (some ⟨g17,0,none⟩) _ (K5 (HM.blk (i:=1) rfl)))) ?_
   rintro HM _ Ya ⟨rfl,hbw⟩
   refine ⟨_,rfl,_,HM.call hbw,?_⟩
   refine (Jl∘Jv 2 [(50,.bool false)]∘aI∘Jj∘JF∘aF∘JR∘cK 1∘Jp 1∘aR∘Jq) fun a Z HM=>?_
   exact ⟨_,om,2,by omega,rfl,Z.sub kr,HM.pk [0,1]⟩
 refine (JF∘JX∘JG∘JQ∘JP∘Jy (v:= .agg #[.bool false,vI 0,vN]) (h:=by exact Yl.build (vs:=[]) rfl kr kr)∘JE) fun MF Dq=>(JU Hf #[.pointer none,vP Dq 0]) fun pY qN=>(Jl∘Jp 1∘Jj∘JB) fun a Z HM=>?_
 refine qc (fun mS aS wS=>∃(j:Nat),(j≤2)∧mS=2-j∧Fr aS 113 [] [(56,vI j),(55,vI 2),(54,vS qN 2 2),(21,.bool false),(20,vI k),(19,vI 2),(18,vS g18 2 2),(0,.bool false)]∧Mem w wS [.blk qN #[.pointer none,vP Dq 0] 162,.blk Dq #[.bool false,vI 0,vN] 174,.blk g18 #[.pointer none,vP g17 0] 142,.blk g17 #[vI 0,vN] 171]) (m:=2-0) ⟨0,Nat.zero_le _,rfl,Z.sub kr,HM.pk [0,1,2,3]⟩ ?_
 clear Z HM;rintro mS a w_ ⟨j,hj,rfl,Z,HM⟩
 refine Jb Z HM ((JP∘Jp 1∘Jj∘JQ) (Ji (fun Q5=>?_) fun Q5=>?_))
 ·
  refine (JT∘aF∘JQ∘JB∘JQ) ?_
  repeat (first|clear Z|clear HM)
  intro a Z HM
  obtain rfl|rfl:j=0∨j=1:=by omega
  ·
   refine Jb Z HM ((JR∘Jy (h:=by exact Yl.j6 qN 0 1 rfl rfl rfl)∘Jc O0∘Jp 1∘aY∘Jr∘Jp 1∘JL (h:=by exact fun HM=>q25 _)) ?_)
   rintro HM _ Zx ⟨rfl,hbw⟩
   refine ⟨_,rfl,_,HM.call hbw,?_⟩
   refine (Jp 1∘Jx∘Jx∘JA #[vB 0,vB 0,vI 0,vI 0,vN]) fun w7 g7=>(JV aA aZ (h1:=by exact zy _ _ _)) fun wY=>(Jp 1∘Jr∘Jv 3 [(67,.bool false)]∘Jy (v:= .agg (Bk.zero.cells none 0)) (h:=by exact Yl.qg rfl rfl aA rfl (fun _ h=>qb (h.blk (i:=0) rfl)))∘Jy (v:= .agg #[vB 0,vB 0,vI 0,vI 0,vN]) (h:=by exact Yl.build (vs:=[]) rfl kr kr)∘JI (h:=by exact fun HM=>Qs none none 0 0 _ Rd.nil)) fun w70 hbw=>(Jp 4∘JL (h:=by exact fun HM=>qvj _)) ?_
   rintro HM _ Zy ⟨rfl,hbw⟩
   refine ⟨_,rfl,_,HM.call hbw,?_⟩
   refine (Jv 2 [(77,.bool false)]∘aI∘Jj∘JF∘aF∘JR∘cK 1∘Jp 1∘aR∘Jq) fun a Z HM=>?_
   exact ⟨_,om,1,by omega,rfl,Z.sub kr,HM.pk [1,2,3,4]⟩
  ·
   refine Jb Z HM ((JR∘Jy (h:=by exact Yl.j6 qN 1 1 rfl rfl rfl)∘Jc O0∘Jp 1∘aY∘Jr∘Jp 1∘JL (h:=by exact fun HM=>q0a Dq _ (HM.blk (i:=1) rfl))) ?_)
   rintro HM _ Zx ⟨rfl,hbw⟩
   refine ⟨_,rfl,_,HM.call hbw,?_⟩
   refine (Jp 1∘Jx∘Jx∘JA #[vB 0,vB 0,vI 0,vI 0,vN]) fun w7 g7=>(JV aA aZ (h1:=by exact zy _ _ _)) fun wY=>(Jp 1∘Jr∘Jv 3 [(67,.bool false)]∘Jy (v:= .agg (Bk.zero.cells none 0)) (h:=by exact Yl.qg rfl rfl aA rfl (fun _ h=>qb (h.blk (i:=0) rfl)))∘Jy (v:= .agg #[vB 0,vB 0,vI 0,vI 0,vN]) (h:=by exact Yl.build (vs:=[]) rfl kr kr)∘JI (h:=by exact fun HM=>Qs none none 0 0 _ Rd.nil)) fun w70 hbw=>(Jp 4∘JL (h:=by exact fun HM=>qr0 Dq _ (HM.blk (i:=2) rfl))) ?_
   rintro HM _ Zy ⟨rfl,hbw⟩
   refine ⟨_,rfl,_,HM.call hbw,?_⟩
   refine (Jv 2 [(77,.bool false)]∘aI∘Jj∘JF∘aF∘JR∘cK 1∘Jp 1∘aR∘Jq) fun a Z HM=>?_
   exact ⟨_,om,2,by omega,rfl,Z.sub kr,HM.pk [1,2,3,4]⟩
 refine (JF∘JX∘JG∘JP) fun a Z HM=>?_
 refine fo Z 0 rfl rfl ?_
 refine D8 Z HM (m:=524289) rfl aB rfl rfl om om rfl de ?_
 clear Z HM;intro a w80 g80 Z HM
 refine Jb Z HM ((JL (h:=by exact fun HM=>Qr (some ⟨g80,0,none⟩) 524289 524289 (List.replicate 524289 0) B _ (hL.mem HM hB) (HM.le hB) (by rw [←QO];exact HM.rd (i:=0) rfl) (Nat.le_refl _) (QS _) (wz _) de qrx)) ?_)
 rintro HM _ w81 ⟨A81,c81,q81,rfl,Q6,akE,hm⟩
 obtain rfl:=List.map_eq_nil_iff.1 Q6
 refine ⟨_,rfl,_,HM.aQ hm.below (hm.own (i:=0) rfl),?_⟩
 refine (Jp 1∘Jx∘Jx∘Jp 2∘aI∘Jr) fun a Z HM=>?_
 refine fo Z 0 rfl rfl ?_
 refine D8 Z HM (m:=524289) rfl aB rfl rfl om om rfl de ?_
 clear Z HM;intro a w85 g85 Z HM
 refine Jb Z HM ((JI (h:=by exact fun HM=>PU (some ⟨g85,0,none⟩) 524289 524289 (List.replicate 524289 0) B _ (hL.mem HM hB) (HM.le hB) (by rw [←QO];exact HM.rd (i:=0) rfl) (Nat.le_refl _) (QS _) (wz _) de qvg)) fun X5 hbw=>(Jp 1∘Jx∘Jx∘Jx∘Jp 3∘Jr) fun a Z HM=>?_)
 refine fo Z 0 rfl rfl ?_
 refine D8 Z HM (m:=524288) rfl aB rfl rfl om om rfl de ?_
 clear Z HM;intro a w91 g91 Z HM
 refine Jb Z HM ((JL (h:=by exact fun HM=>Qr (some ⟨g91,0,none⟩) 524288 524288 (List.replicate 524288 0) B _ (hL.mem HM hB) (HM.le hB) (by rw [←QO];exact HM.rd (i:=0) rfl) (Nat.le_refl _) (QS _) (wz _) de qvh)) ?_)
 rintro HM _ w92 ⟨Yu,Yv,q92,rfl,tV,Gd,hm⟩
 obtain rfl:=List.map_eq_nil_iff.1 tV
 refine ⟨_,rfl,_,HM.aQ hm.below (hm.own (i:=0) rfl),?_⟩
 exact (Jp 1∘Jx∘Jx∘Jp 2∘aI∘Jr∘Jv 19 [(0,.bool true)]∘aI∘Jj∘JZ) iX
theorem qnk (B:Nat) (w:World) (hL:aL B w) (hB:B≤w.heap.size):Calls Tryz.prog 29 #[] w (Is w (.bool true)):=by
 refine (Eh Tryz.func29 106) ?_
 refine (JP∘Jp 1∘Jr∘JL (h:=by exact fun HM=>PO 1 _ de)) ?_
 rintro HM _ nD ⟨kP,rfl,hm⟩
 refine ⟨_,rfl,_,(HM.join hm).nil 5 1,?_⟩
 refine (Jp 1∘Jx∘Jx∘Jp 2∘Jj∘JQ∘JP∘Jv 4 [(19,vP kP 0),(18,.bool false)]∘Jy (v:= .bool false) (h:=by exact Yl.oI rfl rfl rfl)∘Jp 1∘bT∘Jj∘JF∘aF∘JP) fun a Z HM=>?_
 refine fo Z 0 rfl rfl ?_
 refine D8 Z HM (m:=40329) rfl sw rfl rfl om om rfl de ?_
 clear Z HM;intro a Ew g22 Z HM
 refine Jb Z HM ((Jp 1∘aR∘Jq) fun a Z HM=>?_)
 replace HM:=HM.eY (i:=0) (ys:=(j4 0).flatMap hbL) rfl (GZ)
 refine Jb Z HM ((JG∘JQ∘JP∘Jp 1∘Jl∘Jp 1∘Jj∘JB) fun a Z HM=>?_)
 refine qc (fun mS aS wS=>∃(k:Nat) (Ao:Option Addr) (co:Nat),(k≤40329)∧((dA k).length≤co)∧mS=40329-k∧Fr aS 106 [] [(25,vI k),(24,vI 40329),(3,vS g22 40329 40329),(21,.bool false),(2,vI 0),(1,vP kP 0),(0,.bool false)]∧Mem w wS [.row (vS g22 40329 40329) 40329 ((j4 k).flatMap hbL) 85 5,.row (.slice Ao ((dA k).length) co) ((dA k).length) ((dA k).map B8) 5 1,.blk kP #[vI 1,.slice Ao ((dA k).length) co] 171]) (m:=40329-0) ⟨0,none,0,Nat.zero_le _,Nat.le_refl _,rfl,Z.sub kr,HM.pk [0,1,2]⟩ ?_
 clear Z HM;rintro mS a w_ ⟨k,Ao,co,hk,hco,rfl,Z,HM⟩
 refine Jb Z HM ((JP∘Jp 1∘Jj∘JQ) (Ju (fun dG=>?_) fun dG=>?_))
 ·
  intro a Z HM
  have ow:=of_decide_eq_true dG
  refine Jb Z HM ((JT∘aF∘JQ∘JB∘JP∘Jp 2∘aR∘Jr∘Jp 2∘Jy (v:= .agg #[vB 2,vB 0,vI 0,vI 1,vN]) (h:=by exact Yl.build (vs:=[(0,vB 2),(3,vI 1)]) rfl kr kr)∘Jy (h:=by exact Yl.j6 g22 k 5 rfl rfl rfl)) fun a Z HM=>?_)
  refine fo Z 4 rfl rfl ?_
  refine qqe Z HM (i:=0) (sz:=5) rfl rfl rfl rfl aA rfl (by simp [Value.oneCell']) rfl (by rw [Dx hbL 5 nQ,GY om];omega) fun Pw HM=>?_
  replace HM:=HM.eY (i:=0) (ys:=(j4 (k+1)).flatMap hbL) rfl (q5l om)
  refine Jb Z HM ((yN∘Jr∘Jp 1∘JL (h:=by exact fun HM=>Gn (o2:=(dA (k+1))) (we:=0) _ _ kP 1 Ao co (dA k) _ (HM.pk [2,1,0]) (by first|exact Nat.le_refl _|omega|exact Nat.zero_le _) (by rw [wB];omega) de 1 (by unfold aM;decide) B (hL.mem HM hB) hB (q22 om))) ?_)
  rintro HM _ Ey ⟨rfl,jh,iZ,kH,eP⟩
  refine ⟨_,rfl,_,eP,?_⟩
  refine (Jv 1 [(34,.bool false)]∘aY∘Jj∘JF∘aF∘JR∘cK 1∘Jp 1∘aR∘Jq) fun a Z HM=>?_
  exact ⟨_,om,k+1,jh,iZ,by omega,kH,rfl,Z.sub kr,HM.pk [2,1,0]⟩
 intro a Z HM
 have ow:=of_decide_eq_false dG
 revert HM;revert a;repeat (first|clear Z|clear HM)
 intro a Z HM
 obtain rfl:k=40329:=by omega
 refine Jb Z HM ((JF∘JX∘JG∘JP∘Jp 1∘JK (h:=by exact fun HM=>QX (R:=(dA 40329)) (er:=0) (some ⟨g22,0,none⟩) 40329 40329 (j4 40329) B _ (hL.mem HM hB) (HM.le hB) (GY de) (HM.rd (i:=0) rfl) yh de wl1)) fun dx dw yX hc38=>(Jp 1∘Jx∘Jx∘Jp 2∘Jr∘Jp 1∘Jy (v:= .agg #[vB 2,vB 0,vI 0,vI 1,vN]) (h:=by exact Yl.build (vs:=[(0,vB 2),(3,vI 1)]) rfl kr kr)∘JU sw #[vB 2,vB 0,vI 0,vI 1,vN]) fun Nh g44=>fun a Z HM=>?_)
 refine fo Z 3 rfl rfl ?_
 refine R5 Z HM (xs:=(j4 40329).flatMap hbL) (news:=(hbL lT)) rfl sw rfl rfl (HM.rd (i:=2) rfl) (HM.aU (i:=0) (n:=1) (size:=5) rfl rfl) om om (fun h=>nomatch h) om om rfl de ?_
 clear Z HM;intro a Cw g45 OP Z HM FQ
 refine Jb Z HM ((JK (h:=by exact fun HM=>QX (R:=([]:List Nat)) (er:=3) (some ⟨g45,0,none⟩) (40329+1) OP (j4 40329++[lT]) B _ (hL.mem HM hB) (HM.le hB) (by rw [List.length_append,GY de];rfl) (by rw [List.flatMap_append,List.flatMap_singleton];exact HM.rd (i:=0) rfl) (q32 yj) de wl2)) fun nK c46 Eu lD=>(Jp 1∘Jx∘Jx∘Jp 2∘Jr∘Jp 1∘Jy (v:= .agg #[vB 2,vB 0,vI 0,vI 1,vN]) (h:=by exact Yl.build (vs:=[(0,vB 2),(3,vI 1)]) rfl kr kr)∘Jy (v:= .agg #[vB 0,vB 0,vI 0,vI 0,vN]) (h:=by exact Yl.build (vs:=[]) rfl kr kr)∘JU sw #[vB 2,vB 0,vI 0,vI 1,vN,vB 0,vB 0,vI 0,vI 0,vN]) fun MF Dq=>fun a Z HM=>?_)
 refine fo Z 4 rfl rfl ?_
 refine R5 Z HM (xs:=(j4 40329).flatMap hbL) (news:=([lT,Hb.zero].flatMap hbL)) rfl sw rfl rfl (HM.rd (i:=5) rfl) (HM.aU (i:=0) (n:=2) (size:=5) rfl rfl) om om (fun h=>nomatch h) om om rfl de ?_
 clear Z HM;intro a pY qN uK Z HM sO
 refine Jb Z HM ((JK (h:=by exact fun HM=>QX (R:=([]:List Nat)) (er:=107) (some ⟨qN,0,none⟩) (40329+2) uK (j4 40329++[lT,Hb.zero]) B _ (hL.mem HM hB) (HM.le hB) (by rw [List.length_append,GY de];rfl) (by rw [List.flatMap_append];exact HM.rd (i:=0) rfl) (q32 G8) de wl3)) fun kJ kK vL fC=>(Jp 1∘Jx∘Jx∘Jp 2∘aI∘Jr∘Jp 1∘JL (h:=by exact fun HM=>YS (o2:=(dA 40329)) (k:=0) (we:=3) _ _ kP 1 Ao co (dA 40329) _ (HM.pk [9,8,0,1,2,3,4,5,6,7]) (by first|exact Nat.le_refl _|omega|exact Nat.zero_le _) (by rw [wB];decide) de (by unfold aM;decide) 0 de none 0 [] 1 (by intro x hx;cases hx) (by unfold aM;decide) B (hL.mem HM hB) hB (Rd.nil) (Nat.zero_le _) de QW)) ?_)
 rintro HM _ xG ⟨rfl,A60,c60,akL,eP⟩
 refine ⟨_,rfl,_,eP,?_⟩
 refine (Jp 1∘Jx∘Jx∘Jp 2∘Jr∘Jv 4 [(66,.slice dx ((dA 40329).length) dw),(65,.bool true)]∘Jl∘Jp 1∘Jl∘Jv 2 [(71,.bool ((((dA 40329).length:Nat):Int)==(524277:Int)))]∘Jo (.bool true) (by rw [wB];try rfl)∘Jv 7 [(78,.slice nK (([]:List Nat).length) c46),(77,.bool true)]∘Jl∘Jp 1∘Jo (.bool true) (by exact rfl)∘Jv 15 [(95,vP kP 0),(94,.bool true)]∘JL (h:=by exact fun HM=>Gn (o2:=(dA 40329)) (we:=3) _ _ kP 1 A60 c60 (dA 40329) _ (HM.pk [0,1,2,3,4,5,6,7,8,9]) (by first|exact Nat.le_refl _|omega|exact Nat.zero_le _) (by rw [wB];decide) de 1 (by unfold aM;decide) B (hL.mem HM hB) hB qz8)) ?_
 rintro HM _ w96 ⟨rfl,Dl,Dm,hc96,eP⟩
 refine ⟨_,rfl,_,eP,?_⟩
 refine (Jv 4 [(100,vP kP 0),(99,.bool true)]∘JL (h:=by exact fun HM=>PS kP 1 Dl Dm (dA 40329) _ (HM.blk (i:=0) rfl) de rfl)) ?_
 rintro HM _ akM ⟨rfl,hbw⟩
 refine ⟨_,rfl,_,HM.call hbw,?_⟩
 refine (Jp 1∘Jl∘Jp 1∘Jo (.bool true) (by simp)∘Jp 2∘aI∘Jq) fun a Z HM=>?_
 replace Z:=Z.to [(0,.bool true),(2,vI 0),(26,.bool false),(25,vI 40329),(24,vI 40329),(3,vS g22 40329 40329),(21,.bool false),(1,vP kP 0)]
 exact Jb Z HM ((JG∘JZ) iX)
theorem qkg (B:Nat) (w:World) (hL:aL B w) (hB:B≤w.heap.size):Calls Tryz.prog 5 #[] w (Is w (.bool true)):=by
 refine (Eh Tryz.func5 183) ?_
 refine (JP∘Jp 1∘Jj∘JQ∘JP∘JU yx #[vI (-9223372036854775808),vI (-1),vI 0,vI 1,vI 2,vI 3,vI 63,vI 64,vI 4096,vI 4097,vI 281474976710651,vI 281474976710653,vI 281474976710654,vI 281474976710656,vI 281474976710657,vI 9223372036854775807]) fun w16 g16=>(Jl∘Jp 1∘Jq) fun a Z HM=>?_
 replace HM:=(HM.dz (i:=0) (n:=16) (size:=1) rfl rfl de).eY (i:=0) (ys:=ni.map dQ) rfl (rfl)
 refine Jb Z HM ((JG∘JB) fun a Z HM=>?_)
 refine qc (fun mS aS wS=>∃(k:Nat),(k≤16)∧mS=16-k∧Fr aS 183 [] [(18,vI k),(17,vI 16),(16,vS g16 16 16),(0,.bool false)]∧Mem w wS [.row (vS g16 16 16) 16 (ni.map dQ) 3 1]) (m:=16-0) ⟨0,Nat.zero_le _,rfl,Z.sub kr,HM.pk [0]⟩ ?_
 clear Z HM;rintro mS a w_ ⟨k,hk,rfl,Z,HM⟩
 refine Jb Z HM ((JP∘Jp 1∘Jj∘JQ) (Ju (fun fO=>?_) fun fO=>?_))
 ·
  intro a Z HM
  have lH:=of_decide_eq_true fO
  have vX:k<ni.length:=by show k<16;omega
  obtain ⟨n,hnk⟩:∃n,ni.getD k 0=n:=⟨_,rfl⟩
  have hni:aM n:=by rw [←hnk];exact q5m vX
  obtain ⟨m,hm,hmn⟩:∃m:Nat,m<256∧(m:Int)=n%256:=⟨(n%256).toNat,by omega,by omega⟩
  refine Jb Z HM ((JT∘aF∘JQ∘JB∘JP∘Jy (h:=by exact Yl.j6 g16 k 1 rfl rfl rfl (vX))∘Jy (v:=vI (ni.getD k 0)) (h:=by exact Yl.r1 0 k 0 vX rfl rfl rfl)∘Jo (vI n) (by rw [hnk])∘Jp 1∘aY∘Jr∘JL (h:=by exact fun HM=>PV _)) ?_)
  rintro HM _ Ew ⟨g22,rfl,ho,hbw⟩
  refine ⟨_,rfl,_,HM.aQ hbw ho,?_⟩
  refine (Jp 1∘aR∘Jj∘JQ∘JP∘Jp 2∘JI (h:=by exact fun HM=>wE 2 de (some ⟨g22,0,none⟩) 2 2 (nk 2 0) n 1 (wD de (by unfold aM;decide)) hni (by unfold aM;decide) B _ (hL.mem HM hB) (HM.le hB) (rfl) (HM.rd (i:=0) rfl) de (by first|decide|omega))) fun rM hbw=>(Jp 4∘JI (h:=by exact fun HM=>wE 2 de (some ⟨g22,0,none⟩) 2 2 (nk 2 0) 2 n (wD de (by unfold aM;decide)) (by unfold aM;decide) hni B _ (hL.mem HM hB) (HM.le hB) (rfl) (HM.rd (i:=0) rfl) de (by first|decide|omega))) fun I8 hbw=>(Jp 4∘Jv 1 [(35,vB (IntKind.u8.wrap n))]∘Jo (vB m) (by rw [IntKind.wrap_u8];congr 1;omega)∘Jp 1∘JI (h:=by exact fun HM=>wE m hm (some ⟨g22,0,none⟩) 2 2 (nk 2 0) 2 2 (wD de (by unfold aM;decide)) (by unfold aM;decide) (by unfold aM;decide) B _ (hL.mem HM hB) (HM.le hB) (rfl) (HM.rd (i:=0) rfl) de (by first|decide|omega))) fun zR hbw=>(Jp 4∘Jv 1 [(42,vB (IntKind.u8.wrap n))]∘Jo (vB m) (by rw [IntKind.wrap_u8];congr 1;omega)∘Jp 1∘JI (h:=by exact fun HM=>wE m hm none 0 0 ([]:List It) n 2 (by intro x hx;cases hx) hni (by unfold aM;decide) B _ (hL.mem HM hB) (HM.le hB) (rfl) (Rd.nil) (Nat.le_refl _) (by first|decide|omega))) fun Nh hbw=>(Jp 5∘Jy (v:= .agg #[.bool false,vB 2,vS g22 2 2,vI 0,vI 0]) (h:=by exact Yl.build (vs:=[(1,vB 2),(2,vS g22 2 2)]) rfl kr kr)∘JU Zk #[.bool false,vB 2,vS g22 2 2,vI 0,vI 0]) fun IV g51=>(JI (h:=by exact fun HM=>Zo n hni (some ⟨g51,0,none⟩) 1 (BN g22) B _ (hL.mem HM hB) (HM.le hB) (HM.aU (i:=0) (n:=1) (size:=5) rfl rfl) (q5o (HM.rd (i:=1) rfl)) (q5q _) (by show 1≤_;decide))) fun Yw hbw=>(Jp 5∘Jy (v:= .agg #[.bool false,vB 2,vS g22 2 2,vI n,vI 0]) (h:=by exact Yl.build (vs:=[(1,vB 2),(2,vS g22 2 2),(3,vI n)]) rfl kr kr)∘Jp 1∘Jy (v:= .agg #[.bool true,vB 0,vN,vI 0,vI n]) (h:=by exact Yl.build (vs:=[(0,.bool true),(4,vI n)]) rfl kr kr)∘Jy (v:= .agg #[.bool false,vB 2,vN,vI 1,vI 0]) (h:=by exact Yl.build (vs:=[(1,vB 2),(3,vI 1)]) rfl kr kr)∘JU Zk #[.bool false,vB 2,vS g22 2 2,vI n,vI 0,.bool true,vB 0,vN,vI 0,vI n,.bool false,vB 2,vN,vI 1,vI 0]) fun Zx g62=>(JI (h:=by exact fun HM=>Zo 2 (by unfold aM;decide) (some ⟨g62,0,none⟩) 3 (BO g22 n) B _ (hL.mem HM hB) (HM.le hB) (HM.aU (i:=0) (n:=3) (size:=5) rfl rfl) (q5p hni (HM.rd (i:=2) rfl)) (q5r _ _) (by show 3≤_;decide))) fun w63 hbw=>(Jp 2∘aI∘Jj∘JF∘aF∘JP∘Jp 2∘Jy (v:=vP g22 12) (h:=by exact Yl.indexAddr (ad:=⟨g22,0,none⟩) (y:=1) (sz:=12) rfl rfl rfl de kr)∘Jf 11) fun a Z HM=>?_
  refine fo Z 4 rfl rfl ?_
  refine yH Z HM (i:=2) rfl rfl rfl rfl kr rfl rfl (by show _≤24;decide) fun akP HM=>?_
  replace HM:=HM.eY (i:=2) (ys:=(nk 2 n).flatMap bV) rfl (rfl)
  refine Jb Z HM ((yN∘Jj∘JQ∘JP∘Jp 1∘JI (h:=by exact fun HM=>wE 2 de (some ⟨g22,0,none⟩) 2 2 (nk 2 n) 0 4 (wD de hni) (by unfold aM;decide) (by unfold aM;decide) B _ (hL.mem HM hB) (HM.le hB) (rfl) (HM.rd (i:=2) rfl) de (by first|decide|omega))) fun w71 hbw=>(Jp 3∘JI (h:=by exact fun HM=>wE 2 de (some ⟨g22,0,none⟩) 2 2 (nk 2 n) 1 1 (wD de hni) (by unfold aM;decide) (by unfold aM;decide) B _ (hL.mem HM hB) (HM.le hB) (rfl) (HM.rd (i:=2) rfl) de (by first|decide|omega))) fun Zy hbw=>(Jp 2∘aI∘Jj∘JF∘aF∘JP∘Jp 3∘Jv 1 [(81,vB (IntKind.u8.wrap n))]∘Jo (vB m) (by rw [IntKind.wrap_u8];congr 1;omega)∘Jy (v:=vP g22 0) (h:=by exact Yl.indexAddr (ad:=⟨g22,0,none⟩) (y:=0) (sz:=12) rfl rfl rfl de kr)∘Jf 0∘Jf 2) fun a Z HM=>?_)
  refine fo Z 7 rfl rfl ?_
  refine yH Z HM (i:=2) rfl rfl rfl rfl kr rfl rfl (by show _≤24;decide) fun Zz HM=>?_
  replace HM:=HM.eY (i:=2) (ys:=(nk m n).flatMap bV) rfl (rfl)
  refine Jb Z HM ((Jy (v:=vP g22 12) (h:=by exact Yl.indexAddr (ad:=⟨g22,0,none⟩) (y:=1) (sz:=12) rfl rfl rfl de kr)∘Jf 11) fun a Z HM=>?_)
  refine fo Z 10 rfl rfl ?_
  refine yH Z HM (i:=2) rfl rfl rfl rfl kr rfl rfl (by show _≤24;decide) fun Q7 HM=>?_
  replace HM:=HM.eY (i:=2) (ys:=(nk m 0).flatMap bV) rfl (rfl)
  refine Jb Z HM ((qI∘Jr∘Jp 1∘JI (h:=by exact fun HM=>wE 2 de (some ⟨g22,0,none⟩) 2 2 (nk m 0) 0 4 (wD hm (by unfold aM;decide)) (by unfold aM;decide) (by unfold aM;decide) B _ (hL.mem HM hB) (HM.le hB) (rfl) (HM.rd (i:=2) rfl) de (by first|decide|omega))) fun w88 hbw=>(Jp 3∘Jy (h:=by exact Yl.q0 gJ (j:=1) rfl rfl rfl om)∘JI (h:=by exact fun HM=>wE 2 de (some ⟨g22,0,none⟩) 1 2 ((nk m 0).take 1) 0 4 (G9 hm (by unfold aM;decide)) (by unfold aM;decide) (by unfold aM;decide) B _ (hL.mem HM hB) (HM.le hB) (rfl) (Rd.Ah (l:=nk m 0) zn (HM.rd (i:=2) rfl) (by show 1≤2;decide)) de (by first|decide|omega))) fun IY hbw=>(Jp 2∘aI∘Jq) fun a Z HM=>?_)
  replace Z:=Z.to [(95,.bool false),(77,.bool false),(65,.bool false),(3,vS g22 2 2),(2,vI n),(19,.bool true),(18,vI k),(17,vI 16),(16,vS g16 16 16),(0,.bool false)]
  refine Jb Z HM ((JG∘JF∘aF∘JR∘cK 1∘Jp 1∘aR∘Jq) fun a Z HM=>?_)
  exact ⟨_,om,k+1,by omega,rfl,Z.sub kr,HM.pk [3]⟩
 intro a Z HM
 have lH:=of_decide_eq_false fO
 refine Jb Z HM ((JF∘JX∘JG∘JP∘Jp 1∘Jq) fun a Z HM=>?_)
 replace HM:=HM.nil 75 12
 refine Jb Z HM ((JG∘JQ∘JP∘Jp 1∘Jj∘JB) fun a Z HM=>?_)
 refine qc (fun mS aS wS=>∃(i:Nat) (Am:Option Addr) (cm:Nat),(i≤1030)∧((bM i).length≤cm)∧mS=1030-i∧Fr aS 183 [] [(97,vI i),(4,.slice Am ((bM i).length) cm),(19,.bool false),(18,vI k),(17,vI 16),(16,vS g16 16 16),(0,.bool false)]∧Mem w wS [.row (.slice Am ((bM i).length) cm) ((bM i).length) ((bM i).flatMap bV) 75 12,.row (vS g16 16 16) 16 (ni.map dQ) 3 1]) (m:=1030-0) ⟨0,none,0,Nat.zero_le _,Nat.le_refl _,rfl,Z.sub kr,HM.pk [0,1]⟩ ?_
 clear Z HM;rintro mS a w_ ⟨i,Am,cm,hi,hcm,rfl,Z,HM⟩
 refine Jb Z HM ((JP∘Jp 1∘Jj∘JQ) (Ju (fun BP=>?_) fun BP=>?_))
 ·
  intro a Z HM
  have hd98:=of_decide_eq_true BP
  have hml:=BL i
  refine Jb Z HM ((JT∘aF∘JQ∘JB∘JP∘Jp 2∘aR∘Jj∘JR∘Jp 3∘Jo (vI (1+i:Nat)) (by exact zq om om)∘Jy (v:= .agg #[vI (1+i:Nat),vI 0,vB 1,vB 6,vI 0,vI 0,vI 0,vI 0,vI 0,vQ 0,vI 0]) (h:=by exact Yl.build (vs:=[(0,vI (1+i:Nat)),(2,vB 1),(3,vB 6)]) rfl kr kr)∘Jp 2∘Jo (vI (i/1010:Nat)) (by exact qH .i64 1010 (by show _≤9223372036854775807;omega))∘Jp 1∘Jo (vI ((i/1010)*100:Nat)) (by exact zq om om)∘Jy (v:= .agg #[vI (1+i:Nat),vI 0,vB 1,vB 6,vI 0,vI 0,vI 0,vI 0,vI 0,vQ 0,vI 0,vI ((i/1010)*100:Nat)]) (h:=by exact Yl.build (vs:=[(0,.agg #[vI (1+i:Nat),vI 0,vB 1,vB 6,vI 0,vI 0,vI 0,vI 0,vI 0,vQ 0,vI 0]),(1,vI ((i/1010)*100:Nat))]) rfl kr kr)∘JU gJ #[vI (1+i:Nat),vI 0,vB 1,vB 6,vI 0,vI 0,vI 0,vI 0,vI 0,vQ 0,vI 0,vI ((i/1010)*100:Nat)]) fun Qx akQ=>(JD (bV (QY i)) 1 (fun _ _=>dO) gJ (hr:=by exact fun HM=>HM.aU (i:=0) (n:=1) (size:=12) rfl rfl) (h1:=by exact CZ _)) fun akR Hg c109 yu=>(Jp 1∘aI∘Jq) fun a Z HM=>?_)
  have oD:(bM i).length+1=(bM (i+1)).length:=by rw [BL,BL]
  replace HM:=HM.aV (i:=1) (ys:=(bM (i+1)).flatMap bV) rfl oD (by rw [qvi,List.flatMap_append,List.flatMap_singleton])
  rw [oD] at yu
  replace Z:=Z.sp 4 (.slice Hg ((bM (i+1)).length) c109) rfl (by rw [oD])
  refine Jb Z HM ((JG∘JR∘cK 1∘Jp 1∘aR∘Jq) fun a Z HM=>?_)
  exact ⟨_,om,i+1,Hg,c109,by omega,yu,rfl,Z.sub kr,HM.pk [1,2]⟩
 intro a Z HM
 have hd98:=of_decide_eq_false BP
 revert HM;revert a;repeat (first|clear Z|clear HM)
 intro a Z HM
 obtain rfl:i=1030:=by omega
 refine Jb Z HM ((JF∘JX∘JG∘JQ∘JP∘JU yx #[vI 1017,vI 1019,vI 1030]) fun akS qF=>(Jl∘Jp 1∘Jq) fun a Z HM=>?_)
 replace HM:=(HM.dz (i:=0) (n:=3) (size:=1) rfl rfl de).eY (i:=0) (ys:=Dn.map dQ) rfl (rfl)
 refine Jb Z HM ((JG∘JB) fun a Z HM=>?_)
 refine qc (fun mS aS wS=>∃(j:Nat),(j≤3)∧mS=3-j∧Fr aS 183 [] [(113,vI j),(112,vI 3),(111,vS qF 3 3),(98,.bool false),(97,vI 1030),(4,.slice Am ((bM 1030).length) cm),(19,.bool false),(18,vI k),(17,vI 16),(16,vS g16 16 16),(0,.bool false)]∧Mem w wS [.row (vS qF 3 3) 3 (Dn.map dQ) 3 1,.row (.slice Am ((bM 1030).length) cm) ((bM 1030).length) ((bM 1030).flatMap bV) 75 12]) (m:=3-0) ⟨0,Nat.zero_le _,rfl,Z.sub kr,HM.pk [0,1]⟩ ?_
 clear Z HM;rintro mS a w_ ⟨j,hjl,rfl,Z,HM⟩
 refine Jb Z HM ((JP∘Jp 1∘Jj∘JQ) (Ju (fun uh=>?_) fun uh=>?_))
 ·
  intro a Z HM
  have hd114:=of_decide_eq_true uh
  have hj:j<Dn.length:=by show j<3;omega
  obtain ⟨nn,hnj,hnn⟩:=q62 hj
  refine Jb Z HM ((JT∘aF∘JQ∘JB∘JP∘Jy (h:=by exact Yl.j6 qF j 1 rfl rfl rfl (hj))∘Jy (v:=vI (Dn.getD j 0)) (h:=by exact Yl.r1 0 j 0 hj rfl rfl rfl)∘Jo (vI nn) (by rw [hnj])∘Jp 1∘aY∘Jr∘JU yx #[vI 0,vI 1,vI 128,vI 16384,vI 2097152,vI 140737488355328]) fun akU BQ=>(Jl∘Jp 1∘Jq) fun a Z HM=>?_)
  replace HM:=(HM.dz (i:=0) (n:=6) (size:=1) rfl rfl de).eY (i:=0) (ys:=BM.map dQ) rfl (rfl)
  refine Jb Z HM ((JG∘JB) fun a Z HM=>?_)
  refine qc (fun mS aS wS=>∃(q:Nat),(q≤6)∧mS=6-q∧Fr aS 183 [] [(119,vI q),(118,vI 6),(117,vS BQ 6 6),(7,vI nn),(114,.bool true),(113,vI j),(112,vI 3),(111,vS qF 3 3),(98,.bool false),(97,vI 1030),(4,.slice Am ((bM 1030).length) cm),(19,.bool false),(18,vI k),(17,vI 16),(16,vS g16 16 16),(0,.bool false)]∧Mem w wS [.row (vS BQ 6 6) 6 (BM.map dQ) 3 1,.row (vS qF 3 3) 3 (Dn.map dQ) 3 1,.row (.slice Am ((bM 1030).length) cm) ((bM 1030).length) ((bM 1030).flatMap bV) 75 12]) (m:=6-0) ⟨0,Nat.zero_le _,rfl,Z.sub kr,HM.pk [0,1,2]⟩ ?_
  clear Z HM;rintro mS a w_ ⟨q,kW,rfl,Z,HM⟩
  refine Jb Z HM ((JP∘Jp 1∘Jj∘JQ) (Ju (fun uj=>?_) fun uj=>?_))
  ·
   intro a Z HM
   have Hl:=of_decide_eq_true uj
   have hq:q<BM.length:=by show q<6;omega
   obtain ⟨o,hoq⟩:∃n,BM.getD q 0=n:=⟨_,rfl⟩
   have hoi:aM o:=by rw [←hoq];exact q63 hq
   refine Jb Z HM ((JT∘aF∘JQ∘JB∘JP∘Jy (h:=by exact Yl.j6 BQ q 1 rfl rfl rfl (hq))∘Jy (v:=vI (BM.getD q 0)) (h:=by exact Yl.r1 0 q 0 hq rfl rfl rfl)∘Jo (vI o) (by rw [hoq])∘Jp 1∘aY∘Jr∘Jp 2∘Jy (h:=by exact Yl.q0 gJ (j:=nn) rfl rfl rfl (by rw [BL] at hcm;omega))∘Jp 1∘JI (h:=by exact fun HM=>wE 1 de Am nn cm ((bM 1030).take nn) o 4096 (fun x hx=>q24 de x (List.mem_of_mem_take hx)) hoi (by unfold aM;decide) B _ (hL.mem HM hB) (HM.le hB) (by rw [List.length_take,BL];omega) (Rd.Ah zn (HM.rd (i:=2) rfl) (by rw [BL];exact hnn)) (by rw [BL] at hcm;omega) (by first|decide|omega))) fun akV hbw=>(Jp 1∘fJ∘Jj∘JF∘aF∘JR∘cK 1∘Jp 1∘aR∘Jq) fun a Z HM=>?_)
   exact ⟨_,om,q+1,by omega,rfl,Z.sub kr,HM.pk [0,1,2]⟩
  intro a Z HM
  have Hl:=of_decide_eq_false uj
  refine Jb Z HM ((JF∘JX∘JG∘JR∘cK 1∘Jp 1∘aR∘Jq) fun a Z HM=>?_)
  exact ⟨_,om,j+1,by omega,rfl,Z.sub kr,HM.pk [1,2]⟩
 intro a Z HM
 have hd114:=of_decide_eq_false uh
 refine Jb Z HM ((JF∘JX∘JG∘JP∘Jy (v:= .agg #[vB 1,vB 2,vI 9,vI 0,vN]) (h:=by exact Yl.build (vs:=[(0,vB 1),(1,vB 2),(2,vI 9)]) rfl kr kr)∘JK (h:=by exact fun HM=>Pb yt Zq none 0 _ Rd.nil de)) fun akW akX akY ZA=>(Jp 1∘Jx∘Jx∘Jp 2∘kg∘Jr∘Jy (v:= .agg #[vB 2,vB 0,vI 0,vI 300,vN]) (h:=by exact Yl.build (vs:=[(0,vB 2),(3,vI 300)]) rfl kr kr)∘JK (h:=by exact fun HM=>Pb Dp Zr none 0 _ Rd.nil de)) fun akZ c138 ak0 ZB=>(Jp 1∘Jx∘Jx∘Jp 2∘kg∘Jq) fun a Z HM=>?_)
 have hla:=E8 yt
 have hlb:=E8 Dp
 refine Jb Z HM ((JG∘JP) fun a Z HM=>?_)
 refine fo Z 0 rfl rfl ?_
 refine Cc Z HM rfl aB rfl de ?_
 clear Z HM;intro a ak1 ak2 Z HM
 refine Jb Z HM ((Jp 1∘JD (yt.out.map B8) 0 (fun _ _=>aZ) aB (hr:=by exact fun HM=>HM.rd (i:=2) rfl) (h1:=by exact zk _)) fun ak3 ak4 c143 ZC=>fun a Z HM=>?_)
 rw [show []++(yt.out.map B8)=[]++yt.out.map B8 from rfl] at HM
 refine Jb Z HM ((Jp 1∘JD (Dp.out.map B8) 0 (fun _ _=>aZ) aB (hr:=by exact fun HM=>HM.rd (i:=1) rfl) (h1:=by exact zk _)) fun Qg mZ c145 tK=>(Jp 1∘aI∘Jq) fun a Z HM=>?_)
 have oF:0+yt.out.length+Dp.out.length=kD.length:=by unfold kD;rw [List.length_append,Nat.zero_add]
 replace HM:=HM.aV (i:=0) (ys:=kD.map B8) rfl oF (by unfold kD;rw [List.nil_append,List.map_append])
 rw [oF] at tK
 replace Z:=Z.sp 14 (.slice mZ kD.length c145) rfl (by rw [oF])
 have hab:=q5n
 refine Jb Z HM ((JG∘JQ∘JP∘Jp 1∘Jl∘cK 1∘Jp 1∘Jj∘JB) fun a Z HM=>?_)
 refine qc (fun mS aS wS=>∃(r:Nat),(r≤kD.length+1)∧mS=kD.length+1-r∧Fr aS 183 [] [(149,vI r),(148,vI (kD.length+1:Nat)),(14,.slice mZ kD.length c145),(114,.bool false),(113,vI j),(112,vI 3),(111,vS qF 3 3),(98,.bool false),(97,vI 1030),(4,.slice Am ((bM 1030).length) cm),(19,.bool false),(18,vI k),(17,vI 16),(16,vS g16 16 16),(0,.bool false)]∧Mem w wS [.row (.slice mZ kD.length c145) kD.length (kD.map B8) 5 1]) (m:=kD.length+1-0) ⟨0,Nat.zero_le _,rfl,Z.sub kr,HM.pk [0]⟩ ?_
 clear Z HM;rintro mS a w_ ⟨r,hrl,rfl,Z,HM⟩
 refine Jb Z HM ((JP∘Jp 1∘Jj∘JQ) (Ju (fun uo=>?_) fun uo=>?_))
 ·
  intro a Z HM
  have hd150:=of_decide_eq_true uo
  have hir:r≤kD.length:=by omega
  refine Jb Z HM ((JT∘aF∘JQ∘JB∘JP∘Jp 2∘aR∘Jr∘Jp 2∘Jy (h:=by exact Yl.q0 aB (j:=r) rfl rfl rfl om)∘JI (h:=by exact fun HM=>Q0 mZ r c145 (kD.take r) B _ (hL.mem HM hB) (HM.le hB) (by rw [List.length_take];omega) ((HM.rd (i:=0) rfl).mh om) om (fun x hx=>QZ x (List.mem_of_mem_take hx)) om)) fun ak5 hbw=>(Jp 4∘Jy (h:=by exact Yl.sliceFrom aB (j:=r) rfl rfl rfl om)∘JI (h:=by exact fun HM=>Q0 (if c145=r then mZ else mZ.map (·.add (r*1))) (kD.length-r) (c145-r) (kD.drop r) B _ (hL.mem HM hB) (HM.le hB) (by rw [List.length_drop]) (Rd.qZ (HM.rd (i:=0) rfl) om tK) om (zj QZ r) om)) fun ak6 hbw=>(Jp 3) fun a Z HM=>?_)
  refine fo Z 13 rfl rfl ?_
  refine Cc Z HM rfl aB rfl de ?_
  clear Z HM;intro a ak7 ak8 Z HM
  refine Jb Z HM ((Jp 2∘Jy (h:=by exact Yl.q0 aB (j:=r) rfl rfl rfl om)∘JD ((kD.take r).map B8) 0 (fun _ _=>aZ) aB (hr:=by exact fun HM=>(HM.rd (i:=1) rfl).mh om) (h1:=by exact zk _)) fun ak9 ala alb ZE=>(JU aB #[vB 13,vB 0,vB 0,vB 0]) fun alc ald=>(JD ([13,0,0,0].map B8) 1 (fun _ _=>dO) aB (hr:=by exact fun HM=>HM.aU (i:=0) (n:=4) (size:=1) rfl rfl) (h1:=by exact zk _)) fun ale Q8 c171 ZF=>(JI (h:=by exact fun HM=>Q0 Q8 (0+r+4) c171 (kD.take r++[13,0,0,0]) B _ (hL.mem HM hB) (HM.le hB) (by rw [List.length_append,List.length_take];simp only [List.length_cons,List.length_nil];omega) (by rw [List.map_append];exact HM.rd (i:=1) rfl) om (q64 r) om)) fun alf hbw=>(Jp 2∘aI∘Jj∘JF∘aF∘JR∘cK 1∘Jp 1∘aR∘Jq) fun a Z HM=>?_)
  exact ⟨_,om,r+1,by omega,rfl,Z.sub kr,HM.pk [2]⟩
 intro a Z HM
 have hd150:=of_decide_eq_false uo
 exact Jb Z HM ((JF∘JX∘JG∘JP∘JI (h:=by exact fun HM=>qr1 B _ (hL.mem HM hB) (HM.le hB))) fun alg hbw=>(Jp 1∘JI (h:=by exact fun HM=>qnk B _ (hL.mem HM hB) (HM.le hB))) fun alh hbw=>(Jp 2∘JI (h:=by exact fun HM=>qva B _ (hL.mem HM hB) (HM.le hB))) fun ali hbw=>(Jp 2∘aI∘Jj∘JZ) iX)
end Go.Proofs.YtekiimhdnigmcaaGreatDoor
