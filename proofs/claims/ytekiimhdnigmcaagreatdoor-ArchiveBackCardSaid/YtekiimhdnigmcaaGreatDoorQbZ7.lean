/- Parts. -/
import Derived.Test.YtekiimhdnigmcaaGreatDoorQbZ6
set_option linter.all false
set_option maxRecDepth 100000
set_option maxHeartbeats 1000000
namespace Go.Proofs.YtekiimhdnigmcaaGreatDoor
open Go.RowKit
open Go renaming World→aiM,Value→aiN,Program→aiO,TypeId→aiP,Ending→aiQ,Operand→aiR,Oper→aiS
open List renaming length→abo
open _root_.Go.Proofs.Tryz renaming prog→abp
open _root_.List renaming length_append→abq,getD_eq_getElem?_getD→abt,append_assoc→abv,length_map→abw,length_take→abx,length_drop→abE,length_set→abK,append_nil→abM,mem_of_mem_drop→abU,length_cons→abV,map_append→abZ,flatMap_append→ab1,mem_append→acg,drop_of_length_le→acs,perm_append_comm→acD,mem_of_mem_take→acG,mem_append_right→acP,mem_flatMap→acV,length→acW,sublist_append_left→aep,sublist_append_right→aeG,set_set→afk,mem_singleton→afA
open Nat renaming le_refl→abu,zero_le→abz,zero_add→aci
open _root_.ByteArray renaming mk→aby
open Value renaming bool→abN
open Bool renaming not_eq_true'→acL,not_eq_false'→aec
open Hb renaming b→ac2
open List.Perm renaming append_right→aen
open List.Sublist renaming append_left→ahe
variable {w W:aiM} {p:Pm} {A:aiW} {b a T F:List aiX} {L:List Pl} {q:List Pm}
def qxe (A:aiW) (c:Nat) (q:List Hb) (B:Nat) (w:aiM) (U:aR B w) (O:B<=w.heap.size) (hr:Rd w w.heap.size 5 A (abo q) (q.flatMap hbL)) (V:oQ w q) (J:∀h∈q,h.b.Ok) (K:∀h∈q,abo h.b.evs<=1000000) (hn:abo q<=1000000):
    Calls abp 47 #[.slice A (abo q) c] w (mh w (q9 (q.map ac2)).2 (q9 (q.map ac2)).1):=by
 refine (fE Tryz.func47 41) ?_
 refine (aM 2∘bg 1∘bg 1∘Jq∘JC (h:=by exact λd=>d.nil 5 1)∘JG∘bN 1∘Jl∘bM 1∘JB) λa Z d=>?_
 refine qg (λP W X=>∃(k:Nat) (I:Bool) (R:List Nat) (u:aiW) (co:Nat),(k<=abo q)/\(fV (q.map ac2)=fV ((q.drop k).map ac2))/\(I=decide (524288<abo (bT ((q.take k).map ac2))))/\(I=false->R=bT ((q.take k).map ac2))/\(abo R<=524288)/\(abo R<=co)/\P=abo q-k/\Fr W 41 [] (ahY 12 k 11 (abo q) [(10,abl A q c),(5,.bool I),(4,abl u R co),(3,vI 0),(2,vN)])/\Mem w X [abm u R co B8 5 1]) (m:=abo q-0) ⟨0,false,[],none,0,abz _,by rw [List.drop_zero],rfl,by intro _;rfl,by simp,abu _,rfl,Z.sub kr,d.pk [0]⟩ ?_
 clear Z d;rintro P a w_ ⟨k,I,R,u,co,hk,s,o,L,y,t,rfl,Z,d⟩
 refine Jb Z d ((dh 1∘JQ) (Ji (λz=>?_) λz=>?_))
 ·
  have f:k<abo q:=by omega
  have C:=Zz f
  have M:=congrArg acW (ZA f)
  rw [abq] at M
  have Y:=QM (q.getD k Hb.zero).b
  have htk:=q50 (q:=q) k
  refine (eY∘JP) ?_
  obtain ⟨gA,oA,rfl,_⟩:=hr.sat k
  refine (iC k 5∘Jy (v:= .agg ((q.getD k Hb.zero).b.cells (q.getD k Hb.zero).A (q.getD k Hb.zero).c)) (h:=by exact Pe rfl rfl aG rfl (λ_ h=>(h.old hr).vv GN ((getD_at Hb.zero (k:=k) (by first|omega|(simp;omega))))))∘JA aiE) λw7 g7=>(JV aG aO (h1:=by exact uQ _ _ _)) λQ=>(bU∘Jr∘eH aG O0∘JK (h:=by exact λd=>q5p (q.getD k Hb.zero).b (J _ (qf Hb.zero f)) ((q.getD k Hb.zero).A) (q.getD k Hb.zero).c B _ (U.mem d O) (d.le O) (d.old (V.at f)) (K _ (qf Hb.zero f)) rfl rfl)) λOH c18 xW S=>(Jp 1∘Jx∘Jx∘bM 2∘bN 2∘aL∘Jj) (Jh (λD=>?_) λD=>?_)
  ·
   have x:fV (q.map ac2)=(q.getD k Hb.zero).b.err:=by rw [s,C,if_neg om]
   exact (JT∘bE 3∘bW) λd=>G9 d.below (q06 (by rw [x];omega)) (by rw [x])
  have x:fV (q.map ac2)=fV ((q.drop (k+1)).map ac2):=by rw [s,C,if_pos om]
  refine (aQ∘aM 2) (Ju (λl=>?_) λl=>?_)
  ·
   have e:524288<abo (bT ((q.take k).map ac2)):=of_decide_eq_true (o.symm.trans l)
   refine (Jv 8 [(5,.bool true)]∘bU∘bg 2∘aL∘Jj∘aQ∘JR∘dA 1∘Jp 1∘aL∘Jq) λa Z d=>?_
   exact ⟨_,om,k+1,true,R,u,co,by omega,x,(decide_eq_true om).symm,(by intro h;cases h),y,t,rfl,Z.sub kr,d.pk [2]⟩
  have e:¬524288<abo (bT ((q.take k).map ac2)):=of_decide_eq_false (o.symm.trans l)
  have p:=L l
  have T:abo R=abo (bT ((q.take k).map ac2)):=by rw [p]
  refine (Jp 1∘Jl∘Jp 1∘Jl∘Ja∘Jp 3∘aJ∘bg 2∘aL∘Jj) (Ju (λg=>?_) λg=>?_)
  ·
   have E:=of_decide_eq_false ((acL _).mp g)
   intro a Z d
   replace Z:=Z.on 5 ((acL _).mp g)
   refine Jb Z d ((JT∘JR∘Jp 2∘JD ((q.getD k Hb.zero).b.out.map B8) 2 (λ_ _=>iG) bA (hr:=by exact λd=>d.rd (i:=0) rfl) (h1:=by exact tK _)) λEJ F G r=>λa Z d=>?_)
   rw [show (R.map B8)++((q.getD k Hb.zero).b.out.map B8)=(R++(q.getD k Hb.zero).b.out).map B8 from by rw [abZ]] at d
   refine Jb Z d ((Jp 1∘eP∘Jq) ?_)
   have j:abo R+((q.getD k Hb.zero).b.out.length)=abo (R++(q.getD k Hb.zero).b.out):=by rw [abq]
   rw [j] at r
   refine (JC (h:=by exact λd=>d.bC (i:=2) (ys:=(R++(q.getD k Hb.zero).b.out).map B8) rfl j (rfl))∘Jk 4 (.slice F (abo (R++(q.getD k Hb.zero).b.out)) G) (h:=by exact iW j)∘JG∘JR∘dA 1∘Jp 1∘aL∘Jq) λa Z d=>?_
   exact ⟨_,om,k+1,false,(R++(q.getD k Hb.zero).b.out),F,G,by omega,x,(decide_eq_false om).symm,(by intro _;rw [p,ZA f]),(by rw [abq];omega),r,rfl,Z.sub kr,d.pk [2]⟩
  have E:=of_decide_eq_true ((aec _).mp g)
  intro a Z d
  replace Z:=Z.on 5 ((aec _).mp g)
  refine Jb Z d ((aQ∘JR∘dA 1∘Jp 1∘aL∘Jq) λa Z d=>?_)
  exact ⟨_,om,k+1,true,R,u,co,by omega,x,(decide_eq_true om).symm,(by intro h;cases h),y,t,rfl,Z.sub kr,d.pk [2]⟩
 have hkn:k=abo q:=by omega
 have H:fV (q.map ac2)=0:=by rw [s,acs om];rfl
 have N:q.take k=q:=List.take_of_length_le om
 rw [N] at o L
 refine (JF∘JX∘JG∘JQ∘dh 1) (Ju (λn=>?_) λn=>?_)
 ·
  have e:524288<abo (bT (q.map ac2)):=of_decide_eq_true (o.symm.trans n)
  exact (JT∘bE 2∘bW) λd=>G9 d.below (Zy H e) rfl
 have e:¬524288<abo (bT (q.map ac2)):=of_decide_eq_false (o.symm.trans n)
 have p:=L n
 exact (aQ∘bE 3∘bW) λd=>by rw [Rn H e,<-p];exact ⟨⟨u,co,rfl,d.own (i:=0) rfl,t⟩,d.below⟩
abbrev aiH:Array aiN:=#[vI 0,vI 0,vQ 0,vN,vN,vN,vN,vN,vN]
def q3c (A:aiW) (c:Nat) (l:List Pm) (B:Nat) (w:aiM) (W:aR B w) (S:B<=w.heap.size) (hr:Rd w w.heap.size 9 A (abo l) (l.flatMap gQ)) (X:∀p∈l,fB p/\gq w p) (hc:abo l<=c) (hn:abo l<=1000000):
    Calls abp 15 #[.slice A (abo l) c] w (Is w (.tuple #[vI (pX (l.map Pm.v)).1,vI ((pX (l.map Pm.v)).2:Int)])):=by
 refine (fE Tryz.func15 52) ?_
 refine (dh 2∘bN 1∘Jl∘Jp 1∘bU∘Jj) (Ji (λy=>?_) λy=>?_)
 ·
  exact (JT∘bE 2∘bW) λd=>Bt (m:=5) (if_pos (by rw [abw];omega)) rfl d.below
 refine (aQ∘dh 1∘bN 1∘Jl∘bM 1∘JB) λa Z d=>?_
 refine qg (λC J K=>∃(i:Nat) (last:Int),(i<=abo l)/\(aX last)/\(pX (l.map Pm.v)=lT ((l.map Pm.v).drop i) last i)/\C=abo l-i/\Fr J 52 [] (ahY 16 i 15 (abo l) [(14,abl A l c),(4,vI last),(13,.bool false),(3,vI 0),(2,vI 0),(0,abl A l c)])/\Mem w K []) (m:=abo l-0) ⟨0,0,abz _,(show aX (0:Int) from by unfold aX;decide),(if_neg (by rw [abw];omega)),rfl,Z.sub kr,d.pk []⟩ ?_
 clear Z d;rintro C a Y ⟨i,last,hi,L,g,rfl,Z,d⟩
 refine Jb Z d ((dh 1∘JQ) (Ji (λD=>?_) λD=>?_))
 ·
  have j:i<abo l:=by omega
  obtain ⟨x,M⟩:∃x,(l.getD i Pm.zero)=x:=⟨_,rfl⟩
  obtain ⟨e,o⟩:=X x (by rw [<-M];exact qf Pm.zero j)
  have n:=zla (last:=last) j
  rw [M] at n
  have N:=e.nx
  intro a Z d
  unfold aX at N
  have hxl:=e.len
  refine Jb Z d ((eY∘aM 1) ?_)
  obtain ⟨gA,T,rfl,_⟩:=hr.sat i
  refine (iC i 9∘qD Pm.cells Ov hr cO i Pm.zero (hk:=j)∘Jo (.agg x.cells) (by rw [M])∘JA aiH) λw6 U=>(Jp 1∘JV cO aO (h1:=by exact zS x)) λV=>(Jj∘JQ∘JP∘Jf 0∘Jy (v:= .agg x.z.cells) (h:=by exact Pe rfl rfl zo rfl (λ_ h=>h.sub (i:=0) rfl 0 rfl))∘JI (h:=by exact λd=>U6 x.z e.ok e.few e.cap _ (o.st.old d))) λQk E=>(Jp 1∘eP∘bg 2∘aL∘Jj) (Jh (λF=>?_) λF=>?_)
  ·
   exact (JT∘bE 4∘bW) λd=>Bt (g.trans (n.trans (if_pos om))) rfl d.below
  refine (aQ∘JQ∘JP∘Jg 8 O0∘Jl∘bM 1∘JB) λa Z d=>?_
  refine qg (λC J K=>∃(k:Nat),(k<=abo x.q)/\(fV (x.q.map ac2)=fV ((x.q.drop k).map ac2))/\C=abo x.q-k/\Fr J 52 [] (ahY 31 k 30 (abo x.q) ((29,abl x.A x.q x.c)::(25,.bool false)::ahY 7 (dP x.z) 5 i ((6,vP U 0)::(17,.bool true)::ahY 16 i 15 (abo l) [(14,abl (some ⟨gA,T,none⟩) l c),(4,vI last),(13,.bool false),(3,vI 0),(2,vI 0),(0,abl (some ⟨gA,T,none⟩) l c)])))/\Mem w K [.blk U x.cells 53]) (m:=abo x.q-0) ⟨0,abz _,rfl,rfl,Z.sub kr,d.pk [0]⟩ ?_
  clear Z d;rintro C a Y ⟨k,hk,r,rfl,Z,d⟩
  refine Jb Z d ((dh 1∘JQ) (Ji (λG=>?_) λG=>?_))
  ·
   have f:k<abo x.q:=by omega
   have t:=Zz f
   refine (eY∘JP) ?_
   obtain ⟨O,P,u,_⟩:=Rd.sat o.bl k
   have s:=o.bl;rw [u] at s
   refine (Jk 29 (.slice (some ⟨O,P,none⟩) (abo x.q) x.c) (h:=by rw [u];try rfl)∘iC k 5∘Jy (v:= .agg ((x.q.getD k Hb.zero).b.cells (x.q.getD k Hb.zero).A (x.q.getD k Hb.zero).c)) (h:=by exact Pe rfl rfl aG rfl (λ_ h=>(h.old s).vv GN ((getD_at Hb.zero f))))∘JA aiE) λw9 g9=>(JV aG aO (h1:=by exact uQ _ _ _)) λQ=>(bU∘Jr∘eH aG O0∘JL (h:=by exact λd=>q01 (x.q.getD k Hb.zero).b (e.Ow _ (qf Hb.zero f)) ((x.q.getD k Hb.zero).A) (x.q.getD k Hb.zero).c B _ (W.mem d S) (d.le S) (d.old (o.ev.at f)) (e.UC _ (qf Hb.zero f)))) ?_
   rintro d _ w36 ⟨rfl,E⟩
   refine ⟨_,rfl,_,d.call E,?_⟩
   refine (Jp 1∘bU∘bg 2∘aL∘Jj) (Jh (λH=>?_) λH=>?_)
   ·
    exact (JT∘bE 4∘bW) λd=>Bt (g.trans (n.trans ((if_neg om).trans (if_pos (by rw [r,t,if_neg om];omega))))) (by rw [r,t,if_neg om]) d.below
   refine (aQ∘JR∘dA 1∘Jp 1∘aL∘Jq) λa Z d=>?_
   replace Z:=Z.sp 29 (abl x.A x.q x.c) rfl (by rw [u])
   exact ⟨_,om,k+1,by omega,(r.trans (by rw [t,if_pos om])),rfl,Z.sub kr,d.pk [1]⟩
  have he0:fV (x.q.map ac2)=0:=by rw [r,acs om];rfl
  refine (JF∘JX∘JG∘JQ∘JP∘Jf 0∘Jg 0 O0∘Jp 2∘eP∘Jj) (Ji (λI=>?_) λI=>?_)
  ·
   exact (JT∘bE 3∘bW) λd=>Bt (m:=411) (g.trans (n.trans ((if_neg om).trans ((if_neg om).trans (if_pos om))))) rfl d.below
  refine (aQ∘JR∘Jf 0∘Jg 0 O0∘Jp 1∘bU∘Jj∘JR∘dA 1∘Jp 1∘aL∘Jq) λa Z d=>?_
  exact ⟨_,om,i+1,x.z.next,by omega,e.nx,(g.trans (by rw [n,if_neg om,if_neg om,if_neg om])),rfl,Z.sub kr,d.pk []⟩
 have R:i=abo l:=by omega
 exact (JF∘JX∘JG∘bE 2∘bW) λd=>Bt (m:=0) (g.trans (by rw [R];exact q9b)) rfl d.below
def Pg (A:aiW) (c:Nat) (l:List Pm) (B:Nat) (w:aiM) (a:aR B w) (b:B<=w.heap.size) (hr:Rd w w.heap.size 9 A (abo l) (l.flatMap gQ)) (d:∀p∈l,fB p/\gq w p) (hc:abo l<=c) (e:abo l<=1000000) {ci:Int} {ce:Nat} (h:pX (l.map Pm.v)=(ci,ce)):Calls abp 15 #[.slice A (abo l) c] w (Is w (.tuple #[vI ci,vI ce])):=by
 have k:=q3c A c l B w a b hr d hc e
 rwa [h] at k
def zfu (A:aiW) (c:Nat) (q:List Hb) (B:Nat) (w:aiM) (e:aR B w) (f:B<=w.heap.size) (hr:Rd w w.heap.size 5 A (abo q) (q.flatMap hbL)) (g:oQ w q) (a:∀h∈q,h.b.Ok) (d:∀h∈q,abo h.b.evs<=1000000) (i:abo q<=1000000) {l:List Nat} {m:Nat} (h:q9 (q.map ac2)=(l,m)):Calls abp 47 #[.slice A (abo q) c] w (mh w m l):=by
 have k:=qxe A c q B w e f hr g a d i
 rwa [h] at k
def zmd (l:List Nat):∀b∈([113,97,1]++l.flatMap ak),b<256:=λb a=>by
 rcases acg.1 a with h|h
 ·simp only [List.mem_cons,List.not_mem_nil,or_false] at h
  omega
 ·obtain ⟨x,_,c⟩:=acV.1 h
  exact yM x b c
def kL (l:List Pm):List Nat:=[113,97,1]++(dB l (abo l)).flatMap ak
def zme (l:List Pm):∀b∈kL l,b<256:=zmd _
def zfv {l:List Pm} (a:abo l<=100000):abo (kL l)<=16777216:=by
 unfold kL
 rw [abq]
 have b:=uH (dB l (abo l))
 have c:=Kn (l:=l) (abo l) (abu _)
 have d:abo ([113,97,1]:List Nat)=3:=rfl
 omega
def V5 {l:List Pm}:aY (kL l)=headA (l.map Pm.v):=by unfold headA kL;rw [q9c]
def zak {p:List Nat×Nat} {h R d:List Nat} {c:Nat} (b:p=(h++d,0)) (e:R=h) (a:W.ownsRow w.heap.size 5 1 (.slice A (abo R+abo d) c) (abo R+abo d) (R.map B8++d.map B8)) (hc:abo R+abo d<=c) (hb:Below w.heap.size w W):mh w p.2 p.1 (.returned (.tuple #[.slice A (abo R+abo d) c,vI 0])) W:=by
 subst b e
 rw [<-abq] at a hc⊢
 rw [<-abZ] at a
 exact ⟨⟨A,c,rfl,a,hc⟩,hb⟩
def zfw {l:List Pm} (a:abo l<=100000):abo (aY (kL l))<=10000000:=by
 unfold kL
 rw [pY,abq]
 have b:=uH (dB l (abo l))
 have c:=Kn (l:=l) (abo l) (abu _)
 have d:abo ([113,97,1]:List Nat)=3:=rfl
 omega
def V6 (A:aiW) (c:Nat) (l:List Pm) (B:Nat) (w:aiM) (hL:aR B w) (J:B<=w.heap.size) (hr:Rd w w.heap.size 9 A (abo l) (l.flatMap gQ)) (hP:∀p∈l,fB p/\gq w p) (hc:abo l<=c) (hn:abo l<=100000):
    Calls abp 16 #[.slice A (abo l) c] w (mh w (nZ (l.map Pm.v)).2 (nZ (l.map Pm.v)).1):=by
 refine (fE Tryz.func16 104) ?_
 refine (aM 2∘Jq) ?_
 obtain ⟨ci,ce,t⟩:∃ci ce,pX (l.map Pm.v)=(ci,ce):=⟨_,_,rfl⟩
 refine (JG∘bN 1∘JI (h:=by exact λf=>Pg A c l B _ (hL.mem f J) (f.le J) (f.old hr) (λp hp=>⟨(hP p hp).1,(hP p hp).2.old f⟩) hc om t)) λNU hbw=>(Jp 1∘Jx∘Jx∘Jp 2∘aJ∘bg 2∘aL∘Jj) (Jh (λW=>?_) λW=>?_)
 ·
  exact (JT∘bE 3∘bW) λf=>G9 f.below (q2y t om) rfl
 have u:ce=0:=by omega
 refine (aQ∘aM 1∘Jl∘Jw .u64∘JU kM #[vQ (abo l)]) λEC L=>(Jp 1∘fJ∘Jq) λa Z f=>?_
 replace f:=(f.fU (i:=0) (n:=1) (size:=1) rfl rfl de).dG (i:=0) (ys:=(dB l 0).map bF) rfl (rfl)
 replace f:Mem w _ [.row (vS L (abo (dB l 0)) 1) (abo (dB l 0)) ((dB l 0).map bF) 41 1]:=f
 replace Z:=Z.sp 6 (.slice (some ⟨L,0,none⟩) (abo (dB l 0)) 1) rfl rfl
 refine Jb Z f ((JG∘aM 1∘Jq∘JC (h:=by exact λf=>f.nil 5 1)∘JG∘dh 1∘bN 1∘Jl∘bM 1∘JB) λa Z f=>?_)
 refine qg (λmS aS wS=>∃(i:Nat) (An:aiW) (X:Nat) (d:List Nat) (V:aiW) (M:Nat) (N:Bool),(i<=abo l)/\(stA (l.map Pm.v) i=(d,N))/\(abo (dB l i)<=X)/\(abo d<=M)/\(abo d<=16777216)/\mS=abo l-i/\Fr aS 104 [] (ahY 31 i 30 (abo l) [(29,abl A l c),(8,.bool N),(7,abl V d M),(6,abl An (dB l i) X),(23,.bool false),(5,vI ce),(3,vI 0),(2,vN),(0,abl A l c)])/\Mem w wS [abm V d M B8 5 1,abm An (dB l i) X bF 41 1]) (m:=abo l-0) ⟨0,some ⟨L,0,none⟩,1,[],none,0,false,abz _,rfl,abu _,abu _,abz _,rfl,Z.sub kr,f.pk [0,1]⟩ ?_
 clear Z f;rintro mS a w_ ⟨i,An,X,d,V,M,N,hi,y,hcn,O,P,rfl,Z,f⟩
 refine Jb Z f ((dh 1∘JQ) (Ji (λY=>?_) λY=>?_))
 ·
  have j:i<abo l:=by omega
  obtain ⟨x,Q⟩:∃x,(l.getD i Pm.zero)=x:=⟨_,rfl⟩
  obtain ⟨s,R⟩:=hP x (by rw [<-Q];exact qf Pm.zero j)
  obtain ⟨C,we,S⟩:∃C we,q9 (x.q.map ac2)=(C,we):=⟨_,_,rfl⟩
  have hwl:abo C<=524288:=by have h:=MZ (x.q.map ac2);rwa [S] at h
  have hol:=qzk x.z
  have hns:=q2x j Q S
  have hnl:=Kn (l:=l) i hi
  refine (eY∘JP) ?_
  obtain ⟨gA,oA,rfl,_⟩:=hr.sat i
  refine (iC i 9∘qD Pm.cells Ov hr cO i Pm.zero (hk:=j)∘Jo (.agg x.cells) (by rw [Q])∘JA #[vI 0,vI 0,vQ 0,vN,vN,vN,vN,vN,vN]) λsG g10=>(JV cO aO (h1:=by exact zS x)) λGi=>(bU∘Jr∘Jf 0∘Jy (v:= .agg x.z.cells) (h:=by exact Pe rfl rfl zo rfl (λ_ h=>h.sub (i:=0) rfl 0 rfl))∘JK (h:=by exact λf=>q23 x.z s.ok s.few s.cap B _ (hL.mem f J) (f.le J) (R.st.old f))) λA38 c38 X8 hc38=>(Jp 1∘Jx∘Jx∘Jp 2∘mJ∘Jr∘Jg 8 O1∘JK (h:=by exact λf=>zfu x.A x.c x.q B _ (hL.mem f J) (f.le J) (f.old R.bl) (R.ev.old f) s.Ow s.UC s.len S)) λKO KP QK DX=>(Jp 1∘Jx∘Jx∘Jp 2∘bg 1∘Jf 0∘Jg 0 O2∘Jv 1 [(51,vQ (IntKind.u64.wrap x.z.next))]∘Jo (vQ (aK x.z.next)) (by exact RL _)∘Jp 1∘Jl∘Jw .u64∘Jp 1∘Jl∘Jw .u64∘JU kM #[vQ (aK x.z.next),vQ (abo (dz x.z):Nat),vQ (abo C)]) λGY g58=>(JD ([aK x.z.next,abo (dz x.z),abo C].map bF) 5 (λ_ _=>rC) kM (hr:=by exact λf=>f.bB (i:=0) (n:=3) (size:=1) rfl rfl) (h1:=by exact wz _)) λTQ D E V7=>(Jp 1∘aJ∘Jq) ?_
  have o:(abo (dB l i))+3=abo (dB l (i+1)):=by rw [hns,abq];rfl
  rw [o] at V7
  refine (JC (h:=by exact λf=>f.bC (i:=5) (ys:=(dB l (i+1)).map bF) rfl o (by rw [hns,abZ]))∘Jk 6 (.slice D (abo (dB l (i+1))) E) (h:=by exact iW o)∘JG∘aM 2) (Ju (λF=>?_) λF=>?_)
  ·
   have G:N=true:=by simpa using F
   refine (Jv 15 [(8,.bool true)]∘bU∘Jj∘JQ∘dh 1∘JT∘JX∘JG∘JR∘dA 1∘Jp 1∘aL∘Jq) λa Z f=>?_
   exact ⟨_,om,i+1,D,E,d,V,M,true,by omega,UF j Q y S (by first|exact .inl G|exact .inr (.inl om)|exact .inr (.inr om)),by omega,O,P,rfl,Z.sub kr,f.pk [4,5]⟩
  have V8:¬N=true:=by simpa using F
  refine (Jp 4) (Jh (λV9=>?_) λV9=>?_)
  ·
   refine (Jv 11 [(8,.bool true)]∘aJ∘Jj∘JQ∘dh 1∘JT∘JX∘JG∘JR∘dA 1∘Jp 1∘aL∘Jq) λa Z f=>?_
   exact ⟨_,om,i+1,D,E,d,V,M,true,by omega,UF j Q y S (by first|exact .inl G|exact .inr (.inl om)|exact .inr (.inr om)),by omega,O,P,rfl,Z.sub kr,f.pk [4,5]⟩
  refine (Jp 1∘Jl∘Jp 1∘Jl∘Ja∘Jp 1∘Jl∘Ja∘Jp 3∘aJ∘Jj∘JQ∘dh 1) (Ju (λk=>?_) λk=>?_)
  ·
   have Wd:=of_decide_eq_true k
   intro a Z f
   replace Z:=Z.on 8 k
   refine Jb Z f ((JT∘JX∘JG∘JR∘dA 1∘Jp 1∘aL∘Jq) λa Z f=>?_)
   exact ⟨_,om,i+1,D,E,d,V,M,true,by omega,UF j Q y S (by first|exact .inl G|exact .inr (.inl om)|exact .inr (.inr om)),by omega,O,P,rfl,Z.sub kr,f.pk [4,5]⟩
  have Wd:=of_decide_eq_false k
  intro a Z f
  replace Z:=Z.on 8 k
  refine Jb Z f ((aQ∘JR∘Jp 2∘JD ((dz x.z).map B8) 4 (λ_ _=>qB) bA (hr:=by exact λf=>f.rd (i:=2) rfl) (h1:=by exact tK _)) λw79 Jt Jz TF=>(Jp 1∘JD (C.map B8) 4 (λ_ _=>qB) bA (hr:=by exact λf=>f.rd (i:=1) rfl) (h1:=by exact tK _)) λw81 A81 c81 K=>(Jp 1∘lq∘Jq) ?_)
  have r:(abo d+(abo (dz x.z)))+abo C=abo (d++dz x.z++C):=by rw [abq,abq]
  rw [r] at K
  refine (JC (h:=by exact λf=>f.bC (i:=4) (ys:=(d++dz x.z++C).map B8) rfl r (by rw [abZ,abZ]))∘Jk 7 (.slice A81 (abo (d++dz x.z++C)) c81) (h:=by exact iW r)∘JG∘JR∘dA 1∘Jp 1∘aL∘Jq) λa Z f=>?_
  exact ⟨_,om,i+1,D,E,(d++dz x.z++C),A81,c81,false,by omega,zok j Q y S (by rintro (h|h|h)<;>first|(exact absurd h V8)|omega),by omega,K,by rw [abq,abq];omega,rfl,Z.sub kr,f.pk [4,5]⟩
 obtain rfl:i=abo l:=by omega
 have aue:=Kn (l:=l) (abo l) (abu _)
 have auf:=uH (dB l (abo l))
 have aug:=q9d (l:=l) (i:=abo l)
 refine (JF∘JX∘JG∘JP∘JU bA #[vB 113,vB 97,vB 1]) λw84 g84=>λa Z f=>?_
 refine fo Z 1 rfl rfl ?_
 refine zgt Z f 0 (e:=5) rfl rfl rfl kr kr rfl de ?_
 clear Z f;intro a w85 Z f
 refine Jb Z f ((Jp 1∘JK (h:=by exact λf=>Mr An (abo (dB l (abo l))) X (dB l (abo l)) _ (f.rd (i:=2) rfl) (ze2 om _) (by have:=Kn (l:=l) (abo l) (abu _);omega))) λA87 c87 NS auh=>λa Z f=>?_)
 refine fo Z 4 rfl rfl ?_
 refine Xj Z f (xs:=([113,97,1]:List Nat).map B8) (news:=((dB l (abo l)).flatMap ak).map B8) rfl bA rfl rfl (f.wB (i:=1) (size:=1) (n:=3) rfl rfl) (f.rd (i:=0) rfl) om om (λh=>by cases h) om om rfl de ?_
 clear Z f;intro a w88 UM c88 Z f Wh
 have g:3+abo ((dB l (abo l)).flatMap ak)=abo (kL l):=by unfold kL;rw [abq];rfl
 rw [g] at Wh
 replace f:=f.bC (i:=0) (ys:=(kL l).map B8) rfl g (by unfold kL;rw [abZ])
 replace Z:=Z.sp 88 (vS UM (abo (kL l)) c88) rfl (iW g)
 refine Jb Z f ((JK (h:=by exact λf=>QF (some ⟨UM,0,none⟩) (abo (kL l)) c88 (kL l) B _ (hL.mem f J) (f.le J) (f.rd (i:=0) rfl) rfl (zfv hn) (zme l))) λOz OA SX DU=>(Jp 1∘Jx∘Jx∘Jp 2∘mJ∘Jq) ?_)
 have H:stA (l.map Pm.v) (abo (l.map Pm.v))=(d,N):=by rw [abw];exact y
 have hhd:abo (aY (kL l))<=10000000:=zfw hn
 refine (JG∘bN 2) (Ju (λI=>?_) λI=>?_)
 ·
  exact (Jp 7∘aJ∘Jj∘JT∘bE 2∘bW) λf=>G9 f.below (qmw t u H (.inl (by simpa using I))) rfl
 have Wi:¬N=true:=by simpa using I
 refine (Jp 1∘Jl∘Jp 1∘Jl∘Ja∘Jp 2∘aJ∘Jj) (Ji (λT=>?_) λT=>?_)
 ·
  exact (JT∘bE 2∘bW) λf=>G9 f.below (qmw t u H (.inr (by rw [<-V5];omega))) rfl
 exact (aQ∘aM 2∘JD (d.map B8) 0 (λ_ _=>aO) bA (hr:=by exact λf=>f.rd (i:=4) rfl) (h1:=by exact tK _)) λUO aui auj U=>(bM 2∘JZ∘bW) λf=>zak (q9e t u H (by rw [<-V5];rintro (h|h)<;>first|(exact absurd h Wi)|omega)) V5 (f.own (i:=0) rfl) U f.below
def zhy {B n k:Nat} {l:List Nat} (h:Rd w B 1 A n (l.map B8)) (hk:k<=n):Rd w B 1 A k ((l.take k).map B8):=by
 have a:=h.upto hk
 rwa [Nat.mul_one,<-List.map_take] at a
theorem zae {b:List Nat} {p c:Nat} {out:List Pl} (h:∀x∈out,x.sn<=c/\x.st<=c/\x.en<=c):∀x∈out++[l9 b p c],x.sn<=c+lQ b p+nk b p/\x.st<=c+lQ b p+nk b p/\x.en<=c+lQ b p+nk b p:=λx a=>by
 rcases acg.1 a with a|a
 ·have:=h x a;omega
 ·rw [afA.1 a]
  unfold l9
  dsimp only
  omega
def FI {α:Type} {l:List α} {i:Nat} {t u:α} (h:l[i]?=some t):(l.set i u)[i]?=some u:=List.getElem?_set_self (List.getElem?_eq_some_iff.1 h).1
def zl0 (l:List Pl):∀v∈l.flatMap iJ,v.oneCell'=true:=by
 intro v a
 obtain ⟨x,_,b⟩:=acV.1 a
 exact UE x v b
def OV (W w:aiM) (g i k:Nat) (A:aiW) (c:Nat) (b:List Nat) (p:Nat) (m:Bool) (most:Nat) (fr:List aiX) (s:∀z∈b,z<256) (t:p<=abo b) (B:abo b<=100000000) (hr:Rd W W.heap.size 1 A (abo b) (b.map B8)) (hc:abo b<=c) (o:most<=4611686018427387904)
    (d:Mem W w (.blk g #[abl A b c] 30:: .blk i #[vI p] 3:: .blk k #[.bool m] 4::fr)):
    Calls abp 51 #[vI most,vP g 0,vP i 0,vP k 0] w (BA W g i k b A c p m most fr):=by
 refine nP Tryz.func51 [vI most,vP g 0,vP i 0,vP k 0] [(0,vI most),(1,vP g 0),(2,vP i 0),(3,vP k 0)] λa Z=>?_
 refine Jb Z d ((aM 1∘Jq) ?_)
 have q:=xJ (b.drop p)
 rw [abE] at q
 have u:=FM (b.drop p) (λz hz=>s z (abU hz))
 have x:=rD most (b.drop p)
 refine (JG∘JP∘Jc O0∘Jc O1∘Jy (h:=by exact aaf bA (j:=p) rfl rfl rfl om)∘JL (h:=by exact λd=>LQ _ _ _ (b.drop p) _ (Rd.F4 (d.old hr) t hc) (λz hz=>s z (abU hz)) om)) ?_
 rintro d _ y ⟨rfl,r⟩
 refine ⟨_,rfl,_,d.call r,?_⟩
 refine (Jp 1∘Jx∘Jx∘Jx∘Jp 3∘Jr∘Jc O2∘Jp 1) (Ju (λe=>?_) λe=>?_)
 ·
  refine (Jp 4) (Je (λn=>?_) λn=>?_)
  ·
   exact (Jp 2∘Jw .u64∘Jp 2∘JW iG aO) λf=>(iZ∘Jr∘Jc O1∘Jp 1∘Ja∘JW gu aO) λl=>(iZ∘bg 2∘Jw .u64∘Jy (v:=vQ (if (most:Int)<((aD (b.drop p)).1:Int) then (most:Int) else ((aD (b.drop p)).1:Int))) (h:=by exact Yl.min rfl rfl rfl)∘Jo (vQ (aA most (b.drop p))) (by rw [EF])∘Jw .i64∘Jp 1∘aJ∘aP∘JC (h:=by exact λd=>d.pt (fs':=(.blk g #[abl A b c] 30::ahU i (p+((aD (b.drop p)).2.1):Nat)::aiw k (decide (((aD (b.drop p)).1:Int)<=(most:Int)))::fr)) 3 [0,1,2])∘aW) λd=>Vv rfl (by rw [e,Bool.true_and];unfold fO bn;rw [Bool.eq_iff_iff];simp only [decide_eq_true_eq];omega) d
  exact (Jp 5∘JW iG aO) λf=>(iZ∘Jr∘Jc O1∘Jp 1∘Ja∘JW gu aO) λl=>(iZ∘bg 2∘Jw .u64∘Jy (v:=vQ (if (most:Int)<((aD (b.drop p)).1:Int) then (most:Int) else ((aD (b.drop p)).1:Int))) (h:=by exact Yl.min rfl rfl rfl)∘Jo (vQ (aA most (b.drop p))) (by rw [EF])∘Jw .i64∘Jp 1∘aJ∘aP∘JC (h:=by exact λd=>d.pt (fs':=(.blk g #[abl A b c] 30::ahU i (p+((aD (b.drop p)).2.1):Nat)::.blk k #[.bool false] 4::fr)) 3 [0,1,2])∘aW) λd=>Vv rfl (by unfold fO;rw [YW om,Bool.and_false]) d
 exact (Jv 9 [(27,.bool false)]∘JW iG aO) λf=>(vF∘Jr∘Jc O1∘Jp 1∘Ja∘JW gu aO) λl=>(vF∘bg 2∘Jw .u64∘Jy (v:=vQ (if (most:Int)<((aD (b.drop p)).1:Int) then (most:Int) else ((aD (b.drop p)).1:Int))) (h:=by exact Yl.min rfl rfl rfl)∘Jo (vQ (aA most (b.drop p))) (by rw [EF])∘Jw .i64∘Jp 1∘lq∘aP∘JC (h:=by exact λd=>d.pt (fs':=(.blk g #[abl A b c] 30::ahU i (p+((aD (b.drop p)).2.1):Nat)::.blk k #[.bool false] 4::fr)) 3 [0,1,2])∘aW) λd=>Vv rfl (by rw [e,Bool.false_and]) d
abbrev aiB:=λa b c d=>((6,.func (.func 51) #[] #[vP a 0,vP b 0,vP c 0])::(5,vP c 0)::(4,vP b 0)::(16,.bool false)::(12,.bool false)::(3,vI 0)::(2,vN)::(1,vP a 0)::d:List (Nat×aiN))
def OW (A:aiW) (c:Nat) (b:List Nat) (B:Nat) (w:aiM) (hL:aR B w) (hB:B<=w.heap.size) (hr:Rd w w.heap.size 1 A (abo b) (b.map B8)) (hc:abo b<=c) (hn:abo b<=100000000) (P:∀z∈b,z<256):
    Calls abp 18 #[.slice A (abo b) c] w (FC w (dn b)):=by
 refine (fE Tryz.func18 129) ?_
 refine (JP∘tV) λw1 g1=>(bM 2∘JQ∘JB∘JP∘Jc O0∘Jl∘Jp 2∘eP∘Jj) (Ji (λR=>?_) λR=>?_)
 ·
  exact (JT∘bE 2∘bW) λd=>zY d.below (ze1 om) rfl
 have g:¬16777216<abo b:=by omega
 refine (JF∘JP∘Jc O0∘Jl∘Jp 2) (Ji (λS=>?_) λS=>?_)
 ·
  have N:¬(b.take 3=[113,97,1]):=λh=>by have:=congrArg acW h;rw [abx] at this;have h9:abo ([113,97,1]:List Nat)=3:=rfl;omega
  exact (Jp 6∘aJ∘Jj∘JT∘bE 2∘bW) λd=>zY d.below (qzj g N) rfl
 have T:3<=abo b:=by omega
 refine (Jc O0∘Jy (h:=by exact aah bA (j:=3) rfl rfl rfl om)∘Jy (h:=by exact aaF rfl rfl (λ_ h=>zhy (h.old hr) om))∘Jp 1∘Jo (.bool (!(decide (b.take 3=[113,97,1])))) (by rw [show (⟨#[113,97,1]⟩:ByteArray)=jX [113,97,1] from rfl,zii (λz hz=>P z (acG hz)) de])∘Jp 2∘aJ∘Jj) (nH (λG=>?_) λG=>?_)
 ·
  have N:¬(b.take 3=[113,97,1]):=G
  exact (JT∘bE 2∘bW) λd=>zY d.below (qzj g N) rfl
 have q:b.take 3=[113,97,1]:=G
 refine (aQ∘JP∘JA #[vI 0]) λw4 r=>(JW aO aO) λVP=>(Jq) ?_
 obtain ⟨K,J⟩:∃K,eu b 3 1024=K:=⟨_,rfl⟩
 have hK2:K<=1024:=by rw [<-J];exact Uv
 refine (JG∘JP∘JA #[.bool false]) λw5 s=>(JW aO aO) λGu=>(Jr∘Jy (h:=by exact Yl.makeFunc (fst:=[]) (caps:=[vP g1 0,vP r 0,vP s 0]) rfl rfl rfl)∘Jp 1∘aL∘bg 1∘Jq∘JC (h:=by exact λd=>d.nil 57 4)∘JG∘dh 2∘bN 1) λa Z d=>?_
 refine fo Z 1 rfl rfl ?_
 replace d:=d.pk (fs':=[.blk g1 #[abl A b c] 30,.blk r #[vI 3] 3,.blk s #[.bool true] 4,.row (vN) 0 [] 57 4]) [3,2,1,0]
 refine zh Z (f:=51) (vs:=[vI 1024]) (fst:=[]) (caps:=[vP g1 0,vP r 0,vP s 0]) rfl rfl rfl kr rfl de (OV w _ g1 r s A c b 3 true 1024 [.row (vN) 0 [] 57 4] P T hn hr hc de d) ?_
 rintro _ EC ⟨rfl,hm⟩
 refine ⟨_,rfl,?_⟩
 replace d:=hm
 clear Z;intro a Z
 refine Jb Z d ((bM 1∘JB) λa Z d=>?_)
 refine qg (λU aS wS=>∃(i:Nat) (p:Nat) (ok:Bool) (last:Nat) (e:Nat) (out:List Pl) (F:aiW) (co:Nat),(i<=K)/\(p<=abo b)/\(iF b (true&&fO b 3 1024) K (bI b 3) ok (K-i) p last e out)/\(last<=4611686018427387904)/\(e<=i*33554432)/\(abo out=i)/\(∀x∈out,x.sn<=e/\x.st<=e/\x.en<=e)/\(abo out<=co)/\U=K-i/\Fr aS 129 [] (ahY 29 i 28 (eu b 3 1024) (ahY 9 e 8 last ((7,abl F out co)::aiB g1 r s [])))/\Mem w wS [.blk g1 #[abl A b c] 30,ahU r p,aiw s ok,abn F out co iJ 57 4]) (m:=K-0) ⟨0,(bI b 3),(true&&fO b 3 1024),0,0,[],none,0,abz _,wY T,zlh,abz _,abz _,rfl,(λx hx=>by cases hx),abu _,rfl,Z.sub kr,d.pk [0,1,2,3]⟩ ?_
 clear Z d;rintro U a w_ ⟨i,p,ok,last,e,out,F,co,hi,hp,L,hlast,hsum,hol,V,hco,rfl,Z,d⟩
 refine Jb Z d ((dh 1∘JQ) (Ji (λW=>?_) λW=>?_))
 ·
  have atw:i<K:=by omega
  obtain ⟨k,hk⟩:∃k,K-i=k+1:=⟨K-i-1,by omega⟩
  have X:=wY (b:=b) hp
  have Y:=wY (b:=b) X
  have hnl:=zli (b:=b) (p:=p)
  have hsl:=zlj (b:=b) (p:=p)
  have hbl:=zlk (b:=b) (p:=p)
  rw [hk] at L
  intro a Z d
  unfold lN at hnl;unfold lQ at hsl;unfold nk at hbl
  refine Jb Z d ((eY∘aM 1) λa Z d=>?_)
  refine fo Z 1 rfl rfl ?_
  replace d:=d.pk (fs':=[.blk g1 #[abl A b c] 30,ahU r p,aiw s ok,abn F out co iJ 57 4]) [0,1,2,3]
  refine zh Z (f:=51) (vs:=[vI 4611686018427387904]) (fst:=[]) (caps:=[vP g1 0,vP r 0,vP s 0]) rfl rfl rfl kr rfl de (OV w _ g1 r s A c b p ok 4611686018427387904 [abn F out co iJ 57 4] P hp hn hr hc de d) ?_
  rintro _ w32 ⟨rfl,hm⟩
  refine ⟨_,rfl,?_⟩
  replace d:=hm
  clear Z;intro a Z
  refine Jb Z d ((fD #[vI (eu b p 4611686018427387904),vI 0,vI 0,vI 0]∘JA #[vI 0,vI 0,vI 0,vI 0]) λsG H=>(JV kY aO) λael=>(eP∘bg 1∘Jf 1∘JW aO gu) λGx=>(nE∘Jj) λa Z d=>?_)
  refine wp_seq ?_
  refine Jb Z d ((Vs (.t (.t (.f (.f .n)))) [6]) λyP=>(Vf 0 1∘Vp [2]∘Vc 1 O0) λa Z d D=>?_)
  refine s_on Z 3 rfl ?_
  replace d:=d.pk (fs':=[.blk g1 #[abl A b c] 30,ahU r (bI b p),aiw s (ok&&fO b p 4611686018427387904),.blk H #[vI (eu b p 4611686018427387904),vI e,vI 0,vI 0] 57,abn F out co iJ 57 4]) [1,2,3,0,4]
  refine zh Z (f:=51) (vs:=[vI 16777216]) (fst:=[]) (caps:=[vP g1 0,vP r 0,vP s 0]) rfl rfl rfl kr rfl de (OV w _ g1 r s A c b (bI b p) (ok&&fO b p 4611686018427387904) 16777216 [.blk H #[vI (eu b p 4611686018427387904),vI e,vI 0,vI 0] 57,abn F out co iJ 57 4] P X hn hr hc de d) ?_
  rintro _ NQ ⟨rfl,hm⟩
  refine ⟨_,rfl,?_⟩
  replace d:=hm
  clear Z;intro a Z
  refine av (d.pk [3,0,4]) (λD=>?_)
  refine Vb Z d D ((Va 4∘Vf 5 2) λa Z d D=>?_)
  refine s_on Z 6 rfl (eO Z d 3 λG6 d=>?_)
  refine dU kr ?_
  refine qe kr ?_
  refine wp_seq ?_
  refine Jb Z d ((Vs (.t (.f (.f .n))) [6]) λyQ=>(Vf 0 2∘Vp [2]∘Vc 1 O1) λa Z d D=>?_)
  refine s_on Z 3 rfl ?_
  replace d:=d.pk (fs':=[.blk g1 #[abl A b c] 30,ahU r (bI b (bI b p)),aiw s ((ok&&fO b p 4611686018427387904)&&fO b (bI b p) 16777216),.blk H #[vI (eu b p 4611686018427387904),vI e,vI (e+(eu b (bI b p) 16777216):Nat),vI 0] 57,abn F out co iJ 57 4]) [0,1,2,3,4]
  refine zh Z (f:=51) (vs:=[vI 16777216]) (fst:=[]) (caps:=[vP g1 0,vP r 0,vP s 0]) rfl rfl rfl kr rfl de (OV w _ g1 r s A c b (bI b (bI b p)) ((ok&&fO b p 4611686018427387904)&&fO b (bI b p) 16777216) 16777216 [.blk H #[vI (eu b p 4611686018427387904),vI e,vI (e+(eu b (bI b p) 16777216):Nat),vI 0] 57,abn F out co iJ 57 4] P Y hn hr hc de d) ?_
  rintro _ w45 ⟨rfl,hm⟩
  refine ⟨_,rfl,?_⟩
  replace d:=hm
  clear Z;intro a Z
  refine av (d.pk [0,3,4]) (λD=>?_)
  refine Vb Z d D ((Va 4∘Vf 5 3) λa Z d D=>?_)
  refine s_on Z 6 rfl (eO Z d 3 λaem d=>?_)
  refine dU kr ?_
  refine qe kr ?_
  refine Jb Z d ((JP∘Jc O2∘Jp 1) (Ju (λy=>?_) λy=>?_))
  ·
   refine (Jg 0 O3∘Jp 3∘JW iG aO) λO=>(iZ∘Jj∘JQ∘JP∘Jc O2∘Jp 1∘aJ∘Jj) (nH (λVQ=>?_) λVQ=>?_)
   ·
    exact (JT∘bE 2∘bW) λd=>by exact zY d.below (Ux g q (by rw [J];exact L.stop (by unfold lN;rintro ⟨_,Q⟩;omega))) rfl
   refine (JC (h:=by exact λd=>d.dX (i:=2) (ds:= #[.bool true]) rfl (by rw [decide_eq_true om]))∘JC (h:=by exact λd=>(show Mem w _ [ahS g1 A (abo b) c,ahU r (bI b (bI b (bI b p))),.blk s #[.bool true] 4,.blk H #[vI (eu b p 4611686018427387904),vI e,vI (e+(eu b (bI b p) 16777216):Nat),vI (e+(eu b (bI b p) 16777216)+(eu b (bI b (bI b p)) 16777216):Nat)] 57,abn F out co iJ 57 4] from d))∘aQ∘aM 1∘Jy (v:= .agg #[vI (eu b p 4611686018427387904),vI e,vI (e+(eu b (bI b p) 16777216):Nat),vI (e+(eu b (bI b p) 16777216)+(eu b (bI b (bI b p)) 16777216):Nat)]) (h:=by exact Pe rfl rfl kY rfl (λ_ h=>qj (h.blk (i:=3) rfl)))∘JU Bq #[vI (eu b p 4611686018427387904),vI e,vI (e+(eu b (bI b p) 16777216):Nat),vI (e+(eu b (bI b p) 16777216)+(eu b (bI b (bI b p)) 16777216):Nat)]) λTQ g59=>(JD ([(l9 b p e)].flatMap iJ) 5 (λ_ _=>rC) Bq (hr:=by exact λd=>d.bB (i:=0) (n:=1) (size:=4) rfl rfl) (h1:=by exact zl0 _)) λw60 A60 c60 M=>(Jp 1∘fJ∘Jq) ?_
   have u:abo out+1=abo (out++[(l9 b p e)]):=by rw [abq];rfl
   rw [u] at M
   refine (JC (h:=by exact λd=>d.bC (i:=5) (ys:=(out++[(l9 b p e)]).flatMap iJ) rfl u (by rw [ab1]))∘Jk 7 (.slice A60 (abo (out++[(l9 b p e)])) c60) (h:=by exact iW u)∘JG∘Vs .n []) λGt=>(Vf 0 0∘Vf 2 3∘Vc 1 O4∘Vp [4]∘Vc 3 O4∘Vp [5]∘Vd∘aL∘JG∘JR∘dA 1∘Jp 1∘aL∘Jq) λa Z d=>?_
   exact ⟨_,om,i+1,(bI b (bI b (bI b p))),true,(eu b p 4611686018427387904),(e+eu b (bI b p) 16777216+eu b (bI b (bI b p)) 16777216),(out++[(l9 b p e)]),A60,c60,by omega,wY Y,(by rw [show K- (i+1)=k by omega];exact L.step y (by unfold lN;omega)),hnl,by omega,by rw [abq,hol];rfl,zae V,M,rfl,Z.sub kr,d.pk [1,2,3,5]⟩
  exact (Jp 5∘JW iG aO) λO=>(iZ∘Jj∘JQ∘JP∘Jc O2∘Jp 1∘aJ∘Jj∘JT∘bE 2∘bW) λd=>by exact zY d.below (Ux g q (by rw [J];exact L.stop (by rintro ⟨h1,_⟩;rw [h1] at y;cases y))) rfl
 have hik:i=K:=by omega
 refine (JF∘JX∘JG∘JQ∘JP∘Jc O2∘Jp 2) (Ju (λI=>?_) λI=>?_)
 ·
  have VR:ok=false:=by simpa using I
  have hbad:kX b (true&&fO b 3 1024) K (bI b 3) 0 0=none:=by rw [VR] at L;exact L.bad
  exact (Jv 23 [(91,.bool true)]∘eP∘Jj∘JT∘bE 2∘bW) λd=>zY d.below (Ux g q (by rw [J];exact hbad)) rfl
 have VT:ok=true:=by simpa using I
 have C:kX b (true&&fO b 3 1024) K (bI b 3) 0 0=some (out,p,e):=by rw [VT,show K-i=0 by omega] at L;exact L.fin
 refine (Jc O1∘dA 4∘Jc O0∘Jl∘Jp 3) (Ji (λVU=>?_) λVU=>?_)
 ·
  exact (Jv 16 [(91,.bool true)]∘aJ∘Jj∘JT∘bE 2∘bW) λd=>by exact zY d.below (Uy g q (by rw [J];exact C) (by rintro ⟨h1,Q,T⟩;first|omega|(rw [Q] at l;cases l))) rfl
 refine (Jc O0∘Jc O1∘dA 4∘Jy (h:=by exact aah bA (j:=p+4) rfl rfl rfl om)∘JI (h:=by exact λd=>QG A (p+4) c (b.take (p+4)) B _ (hL.mem d hB) (d.le hB) (zhy (d.old hr) om) om (by rw [abx];omega) om (λz hz=>P z (acG hz)))) λw80 hbw=>(Jp 3) (Ju (λl=>?_) λl=>?_)
 ·
  exact (Jv 8 [(91,.bool true)]∘aJ∘Jj∘JT∘bE 2∘bW) λd=>by exact zY d.below (Uy g q (by rw [J];exact C) (by rintro ⟨h1,Q,T⟩;first|omega|(rw [Q] at l;cases l))) rfl
 refine (Jc O1∘dA 4∘Jp 1∘Ja∘Jc O0∘Jl∘Jp 2∘aJ∘Jj) (Jh (λhd91=>?_) λhd91=>?_)
 ·
  exact (JT∘bE 2∘bW) λd=>by exact zY d.below (Uy g q (by rw [J];exact C) (by rintro ⟨h1,Q,T⟩;first|omega|(rw [Q] at l;cases l))) rfl
 have hall:p+4<=abo b/\zn (b.take (p+4))=true/\p+4+e=abo b:=⟨by omega,by simpa using l,by omega⟩
 refine (aQ∘bN 1∘Jl∘Jp 1∘Jq∘JC (h:=by exact λd=>d.dG (i:=3) (ys:=(gL (Pl.up (p+4)) out 0).flatMap iJ) rfl (by rw [q24]))∘JG∘JB) λa Z d=>?_
 refine qg (λU aS wS=>∃(j:Nat),(j<=abo out)/\U=abo out-j/\Fr aS 129 [] (ahY 94 j 93 (abo out) ((91,.bool false)::(30,.bool false)::ahY 29 i 28 (eu b 3 1024) (ahY 9 e 8 last ((7,abl F out co)::aiB g1 r s []))))/\Mem w wS [.blk g1 #[abl A b c] 30,ahU r p,aiw s ok,.row (abl F out co) (abo out) ((gL (Pl.up (p+4)) out j).flatMap iJ) 57 4]) (m:=abo out-0) ⟨0,abz _,rfl,Z.sub kr,d.pk [0,1,2,3]⟩ ?_
 clear Z d;rintro U a w_ ⟨j,hj,rfl,Z,d⟩
 refine Jb Z d ((dh 1∘JQ) (Ji (λhd95=>?_) λhd95=>?_))
 ·
  have o:j<abo out:=by omega
  have hmx:=V _ (qf Pl.zero o)
  have hu1:((out.getD j Pl.zero).zZ (p+4)).st=(out.getD j Pl.zero).st:=rfl
  have hu2:((out.getD j Pl.zero).D6 (p+4)).en=(out.getD j Pl.zero).en:=rfl
  refine (eY∘aM 2∘aL∘Jj) λa Z d=>?_
  refine wp_seq ?_
  refine Jb Z d ((Vs .n [10]) λatx=>(Vp [0,1]) ?_)
  repeat (first|clear Z|clear d|clear D)
  intro a Z d D
  obtain ⟨E,rfl⟩:=d.rat 3 j
  refine Vb Z d D ((Vy 2 (h:=by exact Yl.iO E j 4 rfl rfl rfl)∘Vf 3 1∘Vy 4 (v:=vI ((out.getD j Pl.zero).sn)) (h:=by exact Pd rfl rfl kr (λ_ h=>h.qw rZ (i:=3) rfl (k:=j) (off:=1) (x:=(out.getD j Pl.zero)) ((FB (Pl.up (p+4)) out Pl.zero o)) rfl))∘Vc 5 O1∘xV 6 4∘Va 7∘Vu 8 (h:=by exact λ_=>Yl.iO E j 4 rfl rfl rfl)∘Vf 9 1) λa Z d D=>?_)
  refine s_on Z 10 rfl ?_
  refine zj Z d (i:=3) rfl rfl rfl rfl kr rfl rfl (by rw [rJ iJ 4 rZ];simp only [abK,Vt];omega) λVW d=>?_
  replace d:=d.dG (i:=3) (ys:=((gL (Pl.up (p+4)) out j).set j ((out.getD j Pl.zero).zZ (p+4))).flatMap iJ) rfl (vo iJ 4 rZ (gL (Pl.up (p+4)) out j) j (out.getD j Pl.zero) ((out.getD j Pl.zero).zZ (p+4)) (FB (Pl.up (p+4)) out Pl.zero o) 1 de _ rfl)
  refine dU kr ?_
  refine qe kr ?_
  refine wp_seq ?_
  refine Jb Z d ((Vs .n [10]) λaty=>(Vp [0,1]∘Vy 2 (h:=by exact Yl.iO E j 4 rfl rfl rfl)∘Vf 3 2∘Vy 4 (v:=vI (((out.getD j Pl.zero).zZ (p+4)).st)) (h:=by exact Pd rfl rfl kr (λ_ h=>h.qw rZ (i:=3) rfl (k:=j) (off:=2) (x:=((out.getD j Pl.zero).zZ (p+4))) ((FI (FB (Pl.up (p+4)) out Pl.zero o))) rfl))∘Vc 5 O1∘xV 6 4∘Va 7∘Vu 8 (h:=by exact λ_=>Yl.iO E j 4 rfl rfl rfl)∘Vf 9 2) λa Z d D=>?_)
  refine s_on Z 10 rfl ?_
  refine zj Z d (i:=3) rfl rfl rfl rfl kr rfl rfl (by rw [rJ iJ 4 rZ];simp only [abK,Vt];omega) λVX d=>?_
  replace d:=d.dG (i:=3) (ys:=(((gL (Pl.up (p+4)) out j).set j ((out.getD j Pl.zero).zZ (p+4))).set j ((out.getD j Pl.zero).D6 (p+4))).flatMap iJ) rfl (vo iJ 4 rZ ((gL (Pl.up (p+4)) out j).set j ((out.getD j Pl.zero).zZ (p+4))) j ((out.getD j Pl.zero).zZ (p+4)) ((out.getD j Pl.zero).D6 (p+4)) (FI (FB (Pl.up (p+4)) out Pl.zero o)) 2 de _ rfl)
  refine dU kr ?_
  refine qe kr ?_
  refine Jb Z d ((Vs .n [10]) λatz=>(Vp [0,1]∘Vy 2 (h:=by exact Yl.iO E j 4 rfl rfl rfl)∘Vf 3 3∘Vy 4 (v:=vI (((out.getD j Pl.zero).D6 (p+4)).en)) (h:=by exact Pd rfl rfl kr (λ_ h=>h.qw rZ (i:=3) rfl (k:=j) (off:=3) (x:=((out.getD j Pl.zero).D6 (p+4))) ((FI (FI (FB (Pl.up (p+4)) out Pl.zero o)))) rfl))∘Vc 5 O1∘xV 6 4∘Va 7∘Vu 8 (h:=by exact λ_=>Yl.iO E j 4 rfl rfl rfl)∘Vf 9 3) λa Z d D=>?_)
  refine s_on Z 10 rfl ?_
  refine zj Z d (i:=3) rfl rfl rfl rfl kr rfl rfl (by rw [rJ iJ 4 rZ];simp only [abK,Vt];omega) λVY d=>?_
  replace d:=d.dG (i:=3) (ys:=(gL (Pl.up (p+4)) out (j+1)).flatMap iJ) rfl ((vo iJ 4 rZ (((gL (Pl.up (p+4)) out j).set j ((out.getD j Pl.zero).zZ (p+4))).set j ((out.getD j Pl.zero).D6 (p+4))) j ((out.getD j Pl.zero).D6 (p+4)) ((out.getD j Pl.zero).up (p+4)) (FI (FI (FB (Pl.up (p+4)) out Pl.zero o))) 3 de _ rfl).trans (by rw [afk,afk,q25 (Pl.up (p+4)) out Pl.zero o]))
  refine dU kr ?_
  refine qe kr ?_
  refine Jb Z d ((JG∘JR∘dA 1∘Jp 1∘aJ∘Jq) λa Z d=>?_)
  exact ⟨_,om,j+1,by omega,rfl,Z.sub kr,d.pk [0,1,2,3]⟩
 have hjn:abo out<=j:=by omega
 exact (JF∘JX∘JG∘bE 3∘bW) λd=>q9r (zhl g q (by rw [J];exact C) hall) (by rw [abw]) (by have h:=d.own (i:=3) rfl;rwa [q9s hjn] at h) hco d.below
def OX {b:List Nat} (hb:∀x∈b,x<256) (h:dn b=(L,0)):∀x∈L,x.sn<=x.st/\x.st<=x.en/\x.en<=abo b:=λx d=>by
 obtain ⟨a,e⟩:=(Uz hb h).at
 obtain ⟨i,hi,rfl⟩:=List.getElem_of_mem d
 have c:=e.sn i hi
 rw [abt,List.getElem?_eq_getElem hi] at c
 exact ⟨c.2.1,c.2.2.1,c.2.2.2.1⟩
def OY {b:List Nat} (hb:∀x∈b,x<256) (h:dn b=(L,0)):abo L<=1024:=by
 obtain ⟨a,c⟩:=(Uz hb h).at
 exact c.few
def OZ (A:aiW) (c:Nat) (b:List Nat) (a:Nat) (w:aiM) (d:aR a w) (e:a<=w.heap.size) (hr:Rd w w.heap.size 1 A (abo b) (b.map B8)) (hc:abo b<=c) (f:abo b<=100000000) (g:∀z∈b,z<256) {L:List Pl} {m:Nat} (h:dn b=(L,m)):Calls abp 18 #[.slice A (abo b) c] w (FC w (L,m)):=h▸OW A c b a w d e hr hc f g
def zaf {b:List Nat} {x:Pl} (h:∀j,j<abo q->pF b (L.getD j Pl.zero) (q.getD j Pm.zero)) (c:L.getD (abo q) Pl.zero=x) (d:pF b x p):∀j,j<abo (q++[p])->pF b (L.getD j Pl.zero) ((q++[p]).getD j Pm.zero):=λj e=>by
 rw [abq,List.length_singleton] at e
 rw [abt (l:=q++[p])]
 rcases Nat.lt_or_ge j (abo q) with a|a
 ·rw [List.getElem?_append_left a,<-abt]
  exact h j a
 ·obtain rfl:j=abo q:=by omega
  rw [List.getElem?_append_right (abu _),Nat.sub_self,c]
  exact d
def zag (h:∀x∈q,fB x) (b:fB p):∀x∈q++[p],fB x:=λx a=>by
 rcases acg.1 a with a|a
 ·exact h x a
 ·rw [afA.1 a];exact b
def zfr (l:List Nat):∀u∈l.map bL,u.oneCell'=true:=by
 intro u a
 obtain ⟨x,_,rfl⟩:=List.mem_map.1 a
 rfl
def zhz (w:aiM) (R:List Nat) (r:aiQ) (a:aiM):Prop:=(∃A c,r= .returned (.tuple #[.slice A (abo R) c,vI 0])/\a.ownsRow w.heap.size 3 1 (.slice A (abo R) c) (abo R) (R.map bL)/\abo R<=c)/\Below w.heap.size w a
def zl1 {R g:List Nat} {c:Nat} (h:R=g) (a:W.ownsRow w.heap.size 3 1 (.slice A (abo g) c) (abo g) (g.map bL)) (hc:abo g<=c) (hb:Below w.heap.size w W):zhz w R (.returned (.tuple #[.slice A (abo g) c,vI 0])) W:=by
 subst h
 exact ⟨⟨A,c,rfl,a,hc⟩,hb⟩
def zh0 (w:aiM) (b:List Nat) (r:aiQ) (a:aiM):Prop:=
 ((dn b).2≠0/\Is w (.tuple #[vN,vI ((dn b).2:Int)]) r a)\/
 ((dn b).2=0/\zhz w (jT b (dn b).1 0) r a)
abbrev ahR {α:Type}:=λa b (c:List α) d e f g h i j k=>(.blk a #[abl b c d] e::.blk f #[vI 0] g::.blk h #[vI 0] i::.blk j #[vN] e::k:List aiX)
def zah (A:aiW) (c:Nat) (b:List Nat) (BB:Nat) (w:aiM) (hL:aR BB w) (hB:BB<=w.heap.size) (hr:Rd w w.heap.size 1 A (abo b) (b.map B8)) (hc:abo b<=c) (hn:abo b<=100000000) (hl:∀z∈b,z<256):
    Calls abp 17 #[.slice A (abo b) c] w (q9t w b):=by
 refine Cc (vs:=[abl A b c]) Tryz.func17 rfl rfl kr (σ0:=[(0,abl A b c)]) rfl ?_
 intro a Z
 have d:=Mem.start w
 refine Jb Z d ((JP∘JA #[vN]) λw2 u=>(JA #[vI 0]) λw3 y=>(JA #[vI 0]) λw4 s=>(Jq) ?_)
 obtain ⟨L,ie,f⟩:∃L ie,dn b=(L,ie):=⟨_,_,rfl⟩
 refine (JG∘aM 1∘JK (h:=by exact λd=>OZ A c b BB _ (hL.mem d hB) (d.le hB) (d.old hr) hc hn hl f)) λPA pc xZ hpc=>(Jp 1∘Jx∘Jx∘bM 2∘bN 2∘aL∘Jj) (Jh (λQ=>?_) λQ=>?_)
 ·
  refine (JT∘aM 1∘JW og aO) λatE=>(JW iG aO) λRb=>(JW gu aO) λQ0=>(mJ∘aP) λa Z d=>?_
  refine Ce ?_
  exact iq rfl Z (.cell1 (i:=3) Z d rfl rfl kr rfl) (.cell1 (i:=2) Z d rfl rfl kr rfl) (.cell1 (i:=1) Z d rfl rfl kr rfl) (.inl ⟨by rw [f];show ie≠0;omega,by rw [f];exact ⟨rfl,d.below⟩⟩)
 have H:ie=0:=by omega
 have hL2:∀x∈L,x.sn<=x.st/\x.st<=x.en/\x.en<=abo b:=OX hl (by rw [f,H])
 have hLn:abo L<=1024:=OY hl (by rw [f,H])
 refine (aQ∘JP∘JA #[vN]) λw7 D=>(Jq∘JC (h:=by exact λd=>d.nil 53 9)∘JC (h:=by exact λd=>(show Mem w _ (.row (vN) 0 [] 53 9:: .blk D #[vN] 24:: abn PA L pc iJ 57 4:: .blk s #[vI 0] 27:: .blk y #[vI 0] 3:: .blk u #[vN] 24::bY []) from d))∘JG∘bN 2∘JL (h:=by exact λd=>qo6 A (abo b) c PA (abo L) pc _)) ?_
 rintro d _ Cr ⟨gl,gb,rfl,hm⟩
 refine ⟨_,rfl,_,d.join hm,?_⟩
 refine (bU∘Jj∘JB) λa Z d=>?_
 refine Cb Z d (λF=>∃(q:List Pm) (l:aiW) (co:Nat),(abo q+abo ([]:List Pl)=abo L)/\(∀j,j<abo q->pF b (L.getD j Pl.zero) (q.getD j Pm.zero))/\(∀p∈q,fB p)/\(lS b L 0=lS b ([]:List Pl) (abo q))/\(abo q<=co)/\F=(abn l q co gQ 53 9::ahR D l q co 24 s 27 y 3 u (bY q))) (λc F=>c= .ret/\∃(k:Nat) (e:Nat),(lS b L 0=some (k,e))/\F=[.blk s #[vI e] 27,ahU y k,.blk u #[vN] 24]) rfl kr ?_ ?_ ?_
 ·
  clear Z d;intro C B g w1 R d
  have hy:Vz w b L C (λI F=>∃(q:List Pm) (l:aiW) (co:Nat),(abo q+abo I=abo L)/\(∀j,j<abo q->pF b (L.getD j Pl.zero) (q.getD j Pm.zero))/\(∀p∈q,fB p)/\(lS b L 0=lS b I (abo q))/\(abo q<=co)/\F=(.obj C (.loop (g .ready none)):: .obj B (.deferred (some []))::(abn l q co gQ 53 9::ahR D l q co 24 s 27 y 3 u (bY q)))) (λF=>∃(k:Nat) (e:Nat),(lS b L 0=some (k,e))/\F=(.obj C (.loop (g .done (some .ret))):: .obj B (.deferred (some [])):: [.blk s #[vI e] 27,ahU y k,.blk u #[vN] 24])):=by
   rintro I F fr w3 i x t p ⟨q,l,co,hq,J,K,E,M,rfl⟩ S hdr hi9 T U V d
   have hl9:=congrArg acW hdr
   have hl8:=congrArg acW S
   rw [abE] at hl9
   rw [abV] at hl8
   have W:i=abo q:=by omega
   rw [W] at T
   rw [S,lS] at E
   replace d:Mem w w3 (ahT C (g .ready none)::ahN B::abn l q co gQ 53 9::ahR D l q co 24 s 27 y 3 u (iK p++(bY q++(fr)))):=aaL (a:=(ahT C (g .ready none)::ahN B::abn l q co gQ 53 9::ahR D l q co 24 s 27 y 3 u [])) d
   refine Ep (v1:=vI i) (v2:= .agg (pE p (dI b x))) R d de de λa Z=>?_
   refine wpIn_seq ?_
   refine qk ?_
   refine Jb Z d ((Jp 1∘Jq) λa Z d=>?_)
   refine qk ?_
   refine Jb Z d ((JA #[vI 0,vI 0,vQ 0,vN,vN,vN,vN,vN,vN,vI 0]) λw9 N=>(JV Br aO (h1:=by exact zhn _ _)) λGl=>(Jq) λa Z d=>?_)
   refine ⟨(.blk N (pE p (dI b x)) 126::ahN B::abn l q co gQ 53 9::ahR D l q co 24 s 27 y 3 u (iK p++(bY q++(fr)))),d.pt (fs':=(ahT C (g .ready none)::.blk N (pE p (dI b x)) 126::ahN B::abn l q co gQ 53 9::ahR D l q co 24 s 27 y 3 u (iK p++(bY q++(fr))))) 8 [1,0,2,3,4,5,6,7],λw4 d=>?_⟩
   refine wpIn_block ?_
   refine wpIn_seq ?_
   refine wpIn_seq ?_
   refine qk ?_
   refine Jb Z d ((Jg 9 O1∘Jp 1∘aL∘Jq) (Jh (λX=>?_) λX=>?_))
   ·
    intro a Z d
    replace d:Mem w _ (ahT C (g .busy none)::.blk N (pE p (dI b x)) 126::ahN B::abn l q co gQ 53 9::ahR D l q co 24 s 27 y 3 u fr):=aav (a:=(ahT C (g .busy none)::.blk N (pE p (dI b x)) 126::ahN B::abn l q co gQ 53 9::ahR D l q co 24 s 27 y 3 u [])) (pa:=bY q) (fr:=fr) (aav (a:=(ahT C (g .busy none)::.blk N (pE p (dI b x)) 126::ahN B::abn l q co gQ 53 9::ahR D l q co 24 s 27 y 3 u [])) (pa:=iK p) (fr:=bY q++fr) d)
    refine BZ Z rfl ?_
    refine wpIn_seq ?_
    refine XC d (ahT C (g .busy none)::.blk N (pE p (dI b x)) 126::ahN B::abn l q co gQ 53 9::.blk D #[abl l q co] 24::.blk s #[vI 0] 27::fr) 8 [0,1,2,3,4,5] [5] λd HS=>?_
    refine ap Z (λ_=>HS) [0,1] (bf 6 [0,1]) [(27,vP N 9),(26,vI i)] λa Z=>?_
    refine dH Z HS 2 1 (v:=vI (dI b x)) λa Z=>?_
    refine s_on Z 3 rfl (eO Z d 7 λGi d=>?_)
    refine av (d.pt 8 [0,1,2,3,4,5]) (λHS=>?_)
    refine s_on Z 4 rfl (eO Z d 6 λVZ d=>?_)
    refine av (d.pt 8 [0,1,2,3,4,5]) (λHS=>?_)
    refine s_on Z 5 rfl (eO Z d 5 λKv d=>?_)
    refine dU kr ?_
    refine qe kr ?_
    refine wpIn_ret ?_
    refine ⟨(ahN B::.blk s #[vI (dI b x)] 27::ahU y i::.blk u #[vN] 24::fr),d.pt (fs':=(ahT C (g .busy none)::ahN B::.blk s #[vI (dI b x)] 27::ahU y i::.blk u #[vN] 24::fr)) 8 [0,2,5,6,7],λw5 d=>?_⟩
    exact ⟨(ahT C (g .done (some .ret))::ahN B::.blk s #[vI (dI b x)] 27::ahU y i::.blk u #[vN] 24::[]),d,.inr ⟨trivial,rfl,i,(dI b x),(E.trans ((if_pos om).trans (by rw [W]))),rfl⟩⟩
   intro a Z d
   refine Ca Z rfl ?_
   refine wpIn_skip ?_
   refine qk ?_
   refine Jb Z d ((Jc O4∘Jf 0∘Jy (v:= .agg p.cells) (h:=by exact Pe rfl rfl cO rfl (λ_ h=>h.sub (i:=1) rfl 0 rfl))∘JU ny p.cells) λw32 Y=>(JD (gQ p) 4 (λ_ _=>qB) ny (hr:=by exact λd=>d.bB (i:=0) (n:=1) (size:=9) rfl rfl) (h1:=by exact zS _)) λGh m o O=>(JW rC aO) λaes=>(qC∘Jq) λa Z d=>?_)
   have G:abo q+1=abo (q++[p]):=by rw [abq];rfl
   rw [G] at O
   replace d:=d.bC (i:=4) (ys:=(q++[p]).flatMap gQ) rfl G (by rw [ab1,List.flatMap_cons,List.flatMap_nil,abM])
   replace d:=d.dX (i:=5) (ds:= #[.slice m (abo (q++[p])) o]) rfl (by rw [G];try rfl)
   replace d:Mem w _ (.blk Y p.cells 53::ahT C (g .busy none)::.blk N (pE p (dI b x)) 126::ahN B::abn m (q++[p]) o gQ 53 9::ahR D m (q++[p]) o 24 s 27 y 3 u (bY (q++[p])++(fr))):=aaW (a:=(.blk Y p.cells 53::ahT C (g .busy none)::.blk N (pE p (dI b x)) 126::ahN B::abn m (q++[p]) o gQ 53 9::ahR D m (q++[p]) o 24 s 27 y 3 u [])) d
   refine ⟨(ahN B::abn m (q++[p]) o gQ 53 9::ahR D m (q++[p]) o 24 s 27 y 3 u (bY (q++[p])++(fr))),d.pt (fs':=(ahT C (g .busy none)::ahN B::abn m (q++[p]) o gQ 53 9::ahR D m (q++[p]) o 24 s 27 y 3 u (bY (q++[p])++(fr)))) 9 [1,3,4,5,6,7,8],λw5 d=>?_⟩
   exact ⟨(ahT C (g .ready none)::ahN B::abn m (q++[p]) o gQ 53 9::ahR D m (q++[p]) o 24 s 27 y 3 u (bY (q++[p]))),d,.inl ⟨trivial,rfl,(q++[p]),m,o,by rw [abq];show abo q+1+_=_;omega,zaf J T U,zag K V,(E.trans (by rw [if_neg om,abq];rfl)),O,rfl⟩⟩
  refine (qm6 w w1 gl gb C BB A c b hL hB hr hc hn hl PA pc L hL2 om _ _ _ hy ⟨[],none,0,aci _,(λj hj=>by cases hj),(λp hp=>by cases hp),rfl,abu _,rfl⟩ (d.pt 10 [2,3,6,0,1,4,5,7,8,9])).mono ?_
  rintro r w2 ⟨v,rfl,F2,tY,(⟨q,l,co,hq,J,K,E,M,rfl⟩|⟨k,e,P,rfl⟩)⟩
  ·exact ⟨v,rfl,.inl ⟨_,⟨q,l,co,hq,J,K,E,M,rfl⟩,tY⟩⟩
  ·exact ⟨v,rfl,.inr ⟨.ret,_,⟨rfl,k,e,P,rfl⟩,tY⟩⟩
 ·
  clear Z d;rintro B a w6 _ ⟨q,l,co,hq,J,K,E,M,rfl⟩ Z d
  refine Jb Z d ((JG∘JP∘Jc O2∘JW rC aO) λaeu=>(JW qB aO) λaev=>(JW og aO) λaew=>(mJ∘aP) λa Z d=>?_)
  refine xS Z d (i:=0) rfl λa w7 Z d=>?_
  exact iq rfl Z (.cell1 (i:=5) Z d rfl rfl kr rfl) (.cell1 (i:=4) Z d rfl rfl kr rfl) (.cell1 (i:=3) Z d rfl rfl kr rfl) (.inr (.inr ⟨by rw [f];exact H,by rw [f];exact E,l,co,q,rfl,by rw [f];exact hq,by rw [f];exact J,K,M,d.pt (fs':=(abn l q co gQ 53 9::bY q)) 6 [1]⟩))
 ·
  clear Z d;rintro _ B a w6 _ ⟨rfl,k,e,P,rfl⟩ Z d
  refine wp_ret ?_
  refine xS Z d (i:=0) rfl λa w7 Z d=>?_
  exact iq rfl Z (.cell1 (i:=3) Z d rfl rfl kr rfl) (.cell1 (i:=2) Z d rfl rfl kr rfl) (.cell1 (i:=1) Z d rfl rfl kr rfl) (.inr (.inl ⟨by rw [f];exact H,k,e,by rw [f];exact P,⟨rfl,d.below⟩⟩))
abbrev ah1:=λa b c d e=>(abm a b c bL 3 1::.blk d #[abl a b c] 38::e:List aiX)
def zai (A:aiW) (c:Nat) (b:List Nat) (O:Nat) (w:aiM) (hL:aR O w) (R:O<=w.heap.size) (hr:Rd w w.heap.size 1 A (abo b) (b.map B8)) (hc:abo b<=c) (hn:abo b<=100000000) (P:∀z∈b,z<256):
    Calls abp 19 #[.slice A (abo b) c] w (zh0 w b):=by
 refine Cc (vs:=[abl A b c]) Tryz.func19 rfl rfl kr (σ0:=[(0,abl A b c)]) rfl ?_
 intro a Z
 have d:=Mem.start w
 refine Jb Z d ((aM 2∘Jq) ?_)
 obtain ⟨L,Q,j⟩:∃L Q,dn b=(L,Q):=⟨_,_,rfl⟩
 refine (JG∘aM 1∘JK (h:=by exact λd=>OZ A c b O _ (hL.mem d R) (d.le R) (d.old hr) hc hn P j)) λPA pc uM hpc=>(Jp 1∘Jx∘Jx∘bM 2∘bN 2∘aL∘Jj) (Jh (λI=>?_) λI=>?_)
 ·
  refine (JT∘bE 3) λa Z d=>?_
  refine Ce ?_
  exact qA rfl Z rfl rfl (.inl ⟨by rw [j];show Q≠0;omega,by rw [j];exact ⟨rfl,d.below⟩⟩)
 have y:Q=0:=by omega
 have S:∀x∈L,x.sn<=x.st/\x.st<=x.en/\x.en<=abo b:=OX P (by rw [j,y])
 have hLn:abo L<=1024:=OY P (by rw [j,y])
 refine (aQ∘JP∘JA #[vN]) λw6 m=>(Jq∘JC (h:=by exact λd=>d.nil 3 1)∘JG∘bN 2∘JL (h:=by exact λd=>qo6 A (abo b) c PA (abo L) pc _)) ?_
 rintro d _ NU ⟨gl,gb,rfl,hm⟩
 refine ⟨_,rfl,_,d.join hm,?_⟩
 refine (bU∘Jj∘JB) λa Z d=>?_
 refine Cb Z d (λF=>∃(g:List Nat) (n:Nat) (e:aiW) (co:Nat),(n+abo ([]:List Pl)=abo L)/\(jT b L 0=g++jT b ([]:List Pl) n)/\(abo g<=n)/\(abo g<=co)/\F=(ah1 e g co m [])) (λc F=>c= .ret/\∃(u:Nat),(False)/\F=[]) rfl kr ?_ ?_ ?_
 ·
  clear Z d;intro o B f w1 J d
  have hy:Vz w b L o (λC F=>∃(g:List Nat) (n:Nat) (e:aiW) (co:Nat),(n+abo C=abo L)/\(jT b L 0=g++jT b C n)/\(abo g<=n)/\(abo g<=co)/\F=(.obj o (.loop (f .ready none)):: .obj B (.deferred (some [])):: (ah1 e g co m []))) (λF=>∃(u:Nat),(False)/\F=(ahT o (f .done (some .ret))::ahN B::[])):=by
   rintro C F fr w3 i x t p ⟨g,n,e,co,T,q,G,D,rfl⟩ K U hi9 hx9 atI atJ d
   have V:=congrArg acW U
   have W:=congrArg acW K
   rw [abE] at V
   rw [abV] at W
   have X:n=i:=by omega
   rw [K,jT,X] at q
   replace d:Mem w w3 (ahT o (f .ready none)::ahN B::ah1 e g co m (iK p++(fr))):=aaL (a:=(ahT o (f .ready none)::ahN B::ah1 e g co m [])) d
   refine Ep (v1:=vI i) (v2:= .agg (pE p (dI b x))) J d de de λa Z=>?_
   refine wpIn_seq ?_
   refine qk ?_
   refine Jb Z d ((Jp 1∘Jq) λa Z d=>?_)
   refine qk ?_
   refine Jb Z d ((JA #[vI 0,vI 0,vQ 0,vN,vN,vN,vN,vN,vN,vI 0]) λw8 H=>(JV Br aO (h1:=by exact zhn _ _)) λGl=>(Jq) λa Z d=>?_)
   refine ⟨(.blk H (pE p (dI b x)) 126::ahN B::ah1 e g co m (iK p++(fr))),d.pt (fs':=(ahT o (f .ready none)::.blk H (pE p (dI b x)) 126::ahN B::ah1 e g co m (iK p++(fr)))) 5 [1,0,2,3,4],λw4 d=>?_⟩
   refine wpIn_block ?_
   refine wpIn_seq ?_
   refine qk ?_
   refine Jb Z d ((Jg 9 O1∘Jp 1∘aL∘Jq) (Je (λM=>?_) λM=>?_))
   ·
    intro a Z d
    replace d:Mem w _ (ahT o (f .busy none)::.blk H (pE p (dI b x)) 126::ahN B::ah1 e g co m fr):=aav (a:=(ahT o (f .busy none)::.blk H (pE p (dI b x)) 126::ahN B::ah1 e g co m [])) (pa:=iK p) (fr:=fr) d
    refine BZ Z rfl ?_
    refine qk ?_
    refine Jb Z d ((Jc O4∘Jp 1∘JU j6 #[vI i]) λEU g27=>(JD ([i].map bL) 4 (λ_ _=>qB) j6 (hr:=by exact λd=>d.bB (i:=0) (n:=1) (size:=1) rfl rfl) (h1:=by exact zfr _)) λEC k l E=>(JW rC aO) λVZ=>(vF∘Jq) λa Z d=>?_)
    have s:abo g+1=abo (g++[i]):=by rw [abq];rfl
    rw [s] at E
    replace d:=d.bC (i:=4) (ys:=(g++[i]).map bL) rfl s (by rw [abZ])
    replace d:=d.dX (i:=5) (ds:= #[.slice k (abo (g++[i])) l]) rfl (by rw [s];try rfl)
    refine ⟨(ahN B::ah1 k (g++[i]) l m fr),d.pt (fs':=(ahT o (f .busy none)::ahN B::ah1 k (g++[i]) l m fr)) 6 [1,3,4,5],λw5 d=>?_⟩
    exact ⟨(ahT o (f .ready none)::ahN B::ah1 k (g++[i]) l m []),d,.inl ⟨trivial,rfl,(g++[i]),(i+1),k,l,by show i+1+_=_;omega,(q.trans (by rw [if_pos om,abv];rfl)),by rw [abq];show abo g+1<=_;omega,E,rfl⟩⟩
   intro a Z d
   replace d:Mem w _ (ahT o (f .busy none)::.blk H (pE p (dI b x)) 126::ahN B::ah1 e g co m fr):=aav (a:=(ahT o (f .busy none)::.blk H (pE p (dI b x)) 126::ahN B::ah1 e g co m [])) (pa:=iK p) (fr:=fr) d
   refine Ca Z rfl ?_
   refine wpIn_skip ?_
   refine ⟨(ahN B::ah1 e g co m fr),d.pt (fs':=(ahT o (f .busy none)::ahN B::ah1 e g co m fr)) 5 [0,2,3,4],λw5 d=>?_⟩
   exact ⟨(ahT o (f .ready none)::ahN B::ah1 e g co m []),d,.inl ⟨trivial,rfl,g,(i+1),e,co,by show i+1+_=_;omega,(q.trans (by rw [if_neg om])),by omega,D,rfl⟩⟩
  refine (qm6 w w1 gl gb o O A c b hL R hr hc hn P PA pc L S om _ _ _ hy ⟨[],0,none,0,aci _,rfl,abu _,abu _,rfl⟩ (d.pk [2,3,6,0,1,4,5])).mono ?_
  rintro r w2 ⟨v,rfl,F2,N,(⟨g,n,e,co,T,q,G,D,rfl⟩|⟨u,Y,rfl⟩)⟩
  ·exact ⟨v,rfl,.inl ⟨_,⟨g,n,e,co,T,q,G,D,rfl⟩,N⟩⟩
  ·exact ⟨v,rfl,.inr ⟨.ret,_,⟨rfl,u,Y,rfl⟩,N⟩⟩
 ·
  clear Z d;rintro B a w6 _ ⟨g,n,e,co,T,q,G,D,rfl⟩ Z d
  refine Jb Z d ((JG∘JP∘Jc O2∘bM 2∘JZ) λa Z d=>?_)
  refine xS Z d (i:=0) rfl λa w7 Z d=>?_
  exact qA rfl Z rfl rfl (.inr ⟨by rw [j];exact y,by rw [j];exact zl1 (q.trans (abM g)) (d.own (i:=1) rfl) D d.below⟩)
 ·
  clear Z d;rintro _ B a w6 _ ⟨rfl,u,Y,rfl⟩ Z d
  exact Y.elim
def zft (h:Mem W w (a++(iK p++[]))):Mem W w (iK p):=by
 rw [abM] at h
 exact h.mV (aeG a _)
def zaj (A:aiW) (c:Nat) (b:List Nat) (s:Nat) (w:aiM) (D:aR s w) (y:s<=w.heap.size) (hr:Rd w w.heap.size 1 A (abo b) (b.map B8)) (hc:abo b<=c) (E:abo b<=100000000) (t:∀z∈b,z<256) (n:Int) (F:aX n):
    Calls abp 40 #[.slice A (abo b) c,vI n] w (Is w (.tuple #[vI (kG b n).1,vI ((kG b n).2:Int)])):=by
 refine (iP Tryz.func40 32) ?_
 refine (aM 2∘Jq) ?_
 obtain ⟨L,l,e⟩:∃L l,dn b=(L,l):=⟨_,_,rfl⟩
 have G:(L,l).1.length=abo L:=rfl
 refine (JG∘aM 1∘JK (h:=by exact λd=>OZ A c b s _ (D.mem d y) (d.le y) (d.old hr) hc E t e)) λB pc H I=>(Jp 1∘Jx∘Jx∘bM 2∘bN 2∘aL∘Jj) (Jh (λo=>?_) λo=>?_)
 ·
  exact (JT∘bE 3∘bW) λd=>Bt (zfe e om) rfl d.below
 have f:l=0:=by omega
 have J:∀x∈L,x.sn<=x.st/\x.st<=x.en/\x.en<=abo b:=OX t (by rw [e,f])
 have K:abo L<=1024:=OY t (by rw [e,f])
 refine (aQ∘bN 1∘Jl∘Jp 1∘Jo (vI ((abo L:Int)-1)) (by exact nD ⟨by omega,by omega⟩)∘Jp 1∘eP∘Jj∘JB) λa Z d=>?_
 refine qg (λC M N=>∃(k:Nat),(k<=abo L)/\(kG b n=FD L n k)/\C=0+k/\Fr M 32 [] [(8,vI ((k:Int)-1)),(15,.bool false),(7,vI l),(6,abl B L pc),(5,vI 0),(4,vI 0),(1,vI n)]/\Mem w N [abn B L pc iJ 57 4]) (m:=0+abo L) ⟨abo L,abu _,zll (by rw [e,f]),rfl,Z.sub kr,d.pk [0]⟩ ?_
 clear Z d;rintro C a Q ⟨k,R,g,rfl,Z,d⟩
 refine Jb Z d ((bN 2∘aL∘Jj) (Ji (λp=>?_) λp=>?_))
 ·
  obtain ⟨j,u⟩:∃j,k=j+1:=⟨k-1,by omega⟩
  have O:j<abo L:=by omega
  have q:FD L n k=if ((L.getD j Pl.zero).nx:Int)<=n then ((j:Int),0) else FD L n j:=by rw [u];rfl
  refine (eY∘aM 2∘Jo (vI j) (by rw [show ((k:Int)-1)=(j:Int) by omega])) ?_
  repeat (first|clear Z|clear d)
  intro a Z d
  obtain ⟨P,rfl⟩:=d.rat 0 j
  refine Jb Z d ((nG j 4∘Jf 0∘Jy (v:=vI ((L.getD j Pl.zero).nx)) (h:=by exact Pd rfl rfl kr (λ_ h=>(by have:=h.qw rZ (i:=0) rfl (k:=j) (off:=0) (x:=(L.getD j Pl.zero)) ((getD_at Pl.zero O)) rfl;simpa using this)))∘Jp 2∘aJ∘Jj) (Ji (λr=>?_) λr=>?_))
  ·
   exact (JT∘aM 1∘Jo (vI j) (by rw [show ((k:Int)-1)=(j:Int) by omega])∘bM 2∘JZ∘bW) λd=>Bt (m:=0) (g.trans (q.trans (if_pos om))) rfl d.below
  refine (aQ∘JR∘Jp 1∘Jo (vI j) (by rw [show ((k:Int)-1)=(j:Int) by omega])∘Jp 1∘Jo (vI ((j:Int)-1)) (by exact nD ⟨by omega,by omega⟩)∘Jp 1∘bU∘Jq) λa Z d=>?_
  exact ⟨_,om,j,by omega,(g.trans (q.trans (if_neg om))),rfl,Z.sub kr,d.pk [0]⟩
 exact (JF∘JX∘JG∘bE 2∘bW) λd=>Bt (m:=6) (g.trans (by rw [show k=0 by omega];rfl)) rfl d.below
def V4 (A:aiW) (c:Nat) (b:List Nat) (r:Nat) (w:aiM) (G:aR r w) (s:r<=w.heap.size) (hr:Rd w w.heap.size 1 A (abo b) (b.map B8)) (hc:abo b<=c) (H:abo b<=100000000) (t:∀z∈b,z<256) (i:Int) (N:aX i):
    Calls abp 20 #[.slice A (abo b) c,vI i] w (KW w b i):=by
 refine (iP Tryz.func20 37) ?_
 refine (JP∘JA aiH) λS I=>(Jp 1∘Jq) ?_
 obtain ⟨L,u,f⟩:∃L u,dn b=(L,u):=⟨_,_,rfl⟩
 have O:(L,u).1.length=abo L:=rfl
 refine (JG∘aM 1∘JK (h:=by exact λd=>OZ A c b r _ (G.mem d s) (d.le s) (d.old hr) hc H t f)) λU pc P Q=>(Jp 1∘Jx∘Jx∘bM 2∘JQ∘JB∘aM 3∘bU∘Jj) (Jh (λl=>?_) λl=>?_)
 ·
  refine (JT∘JP∘fD aiH∘Jp 1∘JV cO gu) λJ=>(Jp 1∘bU∘aP) λa Z d=>?_
  exact dR rfl Z (.cellS (i:=1) Z d rfl rfl cO rfl) (.tmp Z rfl) (VB (zfd f om) rfl om (d.pk []))
 have g:u=0:=by omega
 have y:∀x∈L,x.sn<=x.st/\x.st<=x.en/\x.en<=abo b:=OX t (by rw [f,g])
 have R:abo L<=1024:=OY t (by rw [f,g])
 refine (JF∘aM 3) (Ji (λm=>?_) λm=>?_)
 ·
  refine (Jp 6∘aJ∘Jj∘JT∘JP∘fD aiH∘JV cO gu) λn=>(Jp 1∘aL∘aP) λa Z d=>?_
  exact dR rfl Z (.cellS (i:=1) Z d rfl rfl cO rfl) (.tmp Z rfl) (VB (e:=2) (qzv (by rw [f,g]) om) rfl de (d.pk []))
 refine (Jp 2∘Jl∘Jp 3∘aJ∘Jj) (Ji (λo=>?_) λo=>?_)
 ·
  refine (JT∘JP∘fD aiH∘JV cO gu) λn=>(Jp 1∘aL∘aP) λa Z d=>?_
  exact dR rfl Z (.cellS (i:=1) Z d rfl rfl cO rfl) (.tmp Z rfl) (VB (e:=2) (qzv (by rw [f,g]) om) rfl de (d.pk []))
 obtain ⟨k,K⟩:∃k:Nat,i=(k:Int):=⟨i.toNat,by omega⟩
 have j:k<abo L:=by omega
 obtain ⟨x,B⟩:∃x,L.getD k Pl.zero=x:=⟨_,rfl⟩
 have C:=y x (by rw [<-B];exact qf Pl.zero j)
 refine (aQ∘aM 2∘Jo (vI k) (by rw [K])) ?_
 repeat (first|clear Z|clear d)
 intro a Z d
 obtain ⟨q,rfl⟩:=d.rat 0 k
 refine Jb Z d ((nG k 4∘Jy (v:= .agg ((L.getD k Pl.zero).cells)) (h:=by exact Pe rfl rfl kY rfl (λ_ h=>h.yJ rZ (i:=0) rfl ((getD_at Pl.zero j))))∘Jo (.agg x.cells) (by rw [B])∘Jp 1∘fD #[vI x.nx,vI x.sn,vI x.st,vI x.en,abl A b c]∘JL (h:=by exact λd=>quc A c b r _ (G.mem d s) (d.le s) (d.old hr) hc H t x C)) ?_)
 rintro d _ D ⟨p,rfl,E,F,hm⟩
 refine ⟨_,rfl,_,(show Mem w D (.row (vS q (abo L) pc) (abo L) (L.flatMap iJ) 57 4:: .blk I aiH 53::(iK p++([]))) from d.jU (T:=[]) 2 hm rfl),?_⟩
 refine (Jx∘Jx∘JV cO gu (h1:=by exact zS p)) λM=>(Jp 1∘aJ∘aP) λa Z d=>?_
 exact dR rfl Z (.cellS (i:=1) Z d rfl rfl cO rfl) (.tmp Z rfl) (zfc (by rw [f,g]) K j B E F (zft (a:=[.row (vS q (abo L) pc) (abo L) (L.flatMap iJ) 57 4,.blk I p.cells 53]) d))
def FJ (n:Int) (l:aX n) (w:aiM):
    Calls abp 34 #[vI n] w (zho w n):=by
 refine (fE Tryz.func34 19) ?_
 refine (JP∘JA aiH) λq r=>(Jr∘fD #[vI 0,vI 1]∘JU jv #[vI 0,vI 1]) λs d=>(fD #[vI 1,vQ 0,vS d 1 1]∘JU j6 #[vI 0]) λt f=>(JU j6 #[vI 0]) λu g=>(fD #[vQ 0,vW 0,vQ 0]∘JU lZ #[vQ 0,vW 0,vQ 0]) λm c=>(JU oz #[vS c 1 1]) λo b=>(fD #[vI 1,vQ 0,vS d 1 1,vS f 1 1,vS g 1 1,vN,vS b 1 1]∘JA aiF) λv x=>(JV eU aO) λh=>(aJ∘bg 1∘eH eU O0∘fD #[vI n,vI 1,vQ 0,vS d 1 1,vS f 1 1,vS g 1 1,vN,vS b 1 1]∘fD #[vB 2,vB 0,vI 0,vI 7,vN]∘JU G7 #[vB 2,vB 0,vI 0,vI 7,vN]) λp e=>(fD #[vI n,vI 1,vQ 0,vS d 1 1,vS f 1 1,vS g 1 1,vN,vS b 1 1,vS e 1 1]∘JV cO vE) λj=>(iZ∘aP) λa Z k=>?_
 exact iV rfl Z (.cellS (i:=7) Z k rfl rfl cO rfl) (Lg l (k.pk (fs':=[.blk d #[vI 0,vI 1] 198,.blk f #[vI 0] 3,.blk g #[vI 0] 3,.blk b #[vS c 1 1] 176,.blk c #[vQ 0,vW 0,vQ 0] 200,.blk e #[vB 2,vB 0,vI 0,vI 7,vN] 85]) [6,5,4,2,3,0]))
def qxf (B:Nat) (w:aiM) (a:aR B w) (b:B<=w.heap.size):Calls abp 16 #[vN] w (mh w 0 mF):=by
 have h:=V6 none 0 [] B w a b Rd.nil (λp c=>by cases c) (abu _) (abz _)
 rwa [show nZ (List.map Pm.v [])=(mF,0) from BG.1] at h
def zal (A:aiW) (c:Nat) (p:Pm) (hs:dM (kZ 1) p.z) (a:p.q.map ac2=[kQ 7]) (B:Nat) (w:aiM) (d:aR B w) (e:B<=w.heap.size) (hr:Rd w w.heap.size 9 A 1 ([p].flatMap gQ)) (f:∀x∈[p],fB x/\gq w x) (hc:1<=c):Calls abp 16 #[.slice A 1 c] w (mh w 0 dS):=by
 have h:=V6 A c [p] B w d e hr f hc (by show 1<=100000;decide)
 rwa [show nZ (List.map Pm.v [p])=(dS,0) from (q9w (.cons (oI hs a) .nil)).trans zfg] at h
def q3d (A:aiW) (c:Nat) (p q:Pm) (hs:dM (kZ 1) p.z) (e:p.q.map ac2=[kQ 7]) (a:dM (kZ 0) q.z) (d:q.q.map ac2=[kQ 7]) (B:Nat) (w:aiM) (f:aR B w) (g:B<=w.heap.size) (hr:Rd w w.heap.size 9 A 2 ([p,q].flatMap gQ)) (h:∀x∈[p,q],fB x/\gq w x) (hc:2<=c):Calls abp 15 #[.slice A 2 c] w (Is w (.tuple #[vI 1,vI 330])):=
 Pg A c [p,q] B w f g hr h hc (by show 2<=1000000;decide) ((VD (.cons (oI hs e) (.cons (oI a d) .nil))).trans KY)
def qud (A:aiW) (c:Nat) (p q s:Pm) (hs:dM (kZ 1) p.z) (g:p.q.map ac2=[kQ 7]) (a:dM (kZ 5) q.z) (d:q.q.map ac2=[kQ 7]) (e:dM (kZ 4) s.z) (f:s.q.map ac2=[kQ 7]) (B:Nat) (w:aiM) (h:aR B w) (i:B<=w.heap.size) (hr:Rd w w.heap.size 9 A 3 ([p,q,s].flatMap gQ)) (j:∀x∈[p,q,s],fB x/\gq w x) (hc:3<=c):Calls abp 15 #[.slice A 3 c] w (Is w (.tuple #[vI 2,vI 411])):=
 Pg A c [p,q,s] B w h i hr j hc (by show 3<=1000000;decide) ((VD (.cons (oI hs g) (.cons (oI a d) (.cons (oI e f) .nil)))).trans KZ)
def zam (A:aiW) (c:Nat) (B:Nat) (w:aiM) (a:aR B w) (b:B<=w.heap.size) (hr:Rd w w.heap.size 1 A 39 (dS.map B8)) (hc:39<=c):Calls abp 18 #[.slice A 39 c] w (FC w ([⟨1,11,26,39⟩],0)):=by
 have h:=OW A c dS B w a b (by rw [qZ];exact hr) (by rw [qZ];exact hc) (by rw [qZ];decide) tu
 rwa [qZ,zhr] at h
def q3e (A:aiW) (c:Nat) (B:Nat) (w:aiM) (a:aR B w) (b:B<=w.heap.size) (hr:Rd w w.heap.size 1 A 40 ((dS++[0]).map B8)) (hc:40<=c):Calls abp 18 #[.slice A 40 c] w (FC w ([],410)):=by
 have e:abo (dS++[0])=40:=by rw [abq,qZ];rfl
 have h:=OW A c (dS++[0]) B w a b (by rw [e];exact hr) (by rw [e];exact hc) (by rw [e];decide) zoy
 rwa [e,zl9] at h
theorem qz3 (A:aiW) (c:Nat) (B:Nat) (w:aiM) (a:aR B w) (b:B<=w.heap.size) (hr:Rd w w.heap.size 1 A 39 (dS.map B8)) (hc:39<=c) {n v:Int} {e:Nat} (d:aX n) (f:kG dS n=(v,e)):Calls abp 40 #[.slice A 39 c,vI n] w (Is w (.tuple #[vI v,vI e])):=by
 have h:=zaj A c dS B w a b (by rw [qZ];exact hr) (by rw [qZ];exact hc) (by rw [qZ];decide) tu n d
 rwa [qZ,f] at h
theorem zan (A:aiW) (c:Nat) (B:Nat) (w:aiM) (a:aR B w) (b:B<=w.heap.size) (hr:Rd w w.heap.size 1 A 39 (dS.map B8)) (hc:39<=c):Calls abp 20 #[.slice A 39 c,vI 0] w (Ll w):=by
 have h:=V4 A c dS B w a b (by rw [qZ];exact hr) (by rw [qZ];exact hc) (by rw [qZ];decide) tu 0 (by unfold aX;decide)
 rw [qZ] at h
 exact h.mono λ_ _=>zmc
def zao (A:aiW) (c:Nat) (B:Nat) (w:aiM) (a:aR B w) (b:B<=w.heap.size) (hr:Rd w w.heap.size 1 A 39 (dS.map B8)) (hc:39<=c):Calls abp 20 #[.slice A 39 c,vI 1] w (λr d=>∃p:Pm,r= .returned (.tuple #[.agg p.cells,vI 2])/\Below w.heap.size w d):=by
 have h:=V4 A c dS B w a b (by rw [qZ];exact hr) (by rw [qZ];exact hc) (by rw [qZ];decide) tu 1 (by unfold aX;decide)
 rw [qZ] at h
 exact h.mono λ_ _=>zfs
abbrev ail:=λa b c d e f g h i j k l=>(.row (vS a 1 b) 1 c 85 5::.row (vS d 1 e) 1 ([(⟨1,11,26,39⟩:Pl)].flatMap iJ) 57 4::.row (.slice f 39 g) 39 (dS.map B8) 5 1::.blk h i 53::.row (.slice j 8 k) 8 (mF.map B8) 5 1::l:List aiX)
def qxg (B:Nat) (w:aiM) (I:aR B w) (s:B<=w.heap.size):
    Calls abp 13 #[] w (Is w (.bool true)):=by
 refine (JN0 Tryz.func13 172) ?_
 refine (aM 1∘Jr∘JK (h:=by exact λm=>qxf B _ (I.mem m s) (m.le s))) λC t Ql L=>?_
 replace L:8<=t:=L
 refine (Jp 1∘Jx∘Jx∘Jp 2∘Jr∘JL (h:=by exact λm=>FJ 1 (by unfold aX;decide) _)) ?_
 rintro m _ NK ⟨D,rfl,Wj,Wm,Wn,hm⟩
 refine ⟨_,rfl,_,(show Mem w NK (.row (.slice C 8 t) 8 (mF.map B8) 5 1::(iK D++([]))) from m.jU (T:=[]) 1 hm rfl),?_⟩
 refine (JU ny D.cells) λEU F=>(JK (h:=by exact λm=>zal (some ⟨F,0,none⟩) 1 D Wj Wm B _ (I.mem m s) (m.le s) (m.bB (i:=0) (n:=1) (size:=9) rfl rfl) (zl6 Wn (m.Pf 2 rfl)) de)) λp o EC r=>?_
 replace r:39<=o:=r
 refine (Jp 1∘Jx∘Jx∘Jp 2∘Jq∘JC (h:=by exact λm=>(show Mem w _ [.row (.slice p 39 o) 39 (dS.map B8) 5 1,.blk F D.cells 53,.row (.slice C 8 t) 8 (mF.map B8) 5 1] from m.mV (aep _ _)))∘JG∘aM 1∘JK (h:=by exact λm=>zam p o B _ (I.mem m s) (m.le s) (m.rd (i:=0) rfl) r)) λA33 J Gh auu=>(Jp 1∘Jx∘Jx∘Jp 2∘bg 1∘JI (h:=by exact λm=>qz3 p o B _ (I.mem m s) (m.le s) (m.rd (i:=1) rfl) r (by unfold aX;decide) Li.1)) λX8 E=>(Jp 1∘Jx∘Jx∘Jp 2∘bg 1∘JI (h:=by exact λm=>qz3 p o B _ (I.mem m s) (m.le s) (m.rd (i:=1) rfl) r (by unfold aX;decide) Li.2.1)) λw43 E=>(Jp 1∘Jx∘Jx∘Jp 2∘aJ∘bg 1∘JL (h:=by exact λm=>zan p o B _ (I.mem m s) (m.le s) (m.rd (i:=1) rfl) r)) ?_
 rintro m _ Cx ⟨z,M,cl,hx,rfl,hxb,hm⟩
 refine ⟨_,rfl,_,m.join hm,?_⟩
 refine (Jp 1∘Jx∘Jx∘JA #[vI 0,vI 0,vQ 0,vN,vN,vN,vN,vN,vN]) λuM K=>(JV cO aO) λauv=>(Jp 1∘bg 1∘JL (h:=by exact λm=>zao p o B _ (I.mem m s) (m.le s) (m.rd (i:=3) rfl) r)) ?_
 rintro m _ Yc ⟨y,rfl,E⟩
 refine ⟨_,rfl,_,m.call E,?_⟩
 refine (Jp 1∘Jx∘Jx∘JA #[vI 0,vI 0,vQ 0,vN,vN,vN,vN,vN,vN]) λvH P=>(JV cO aO (h1:=by exact zS y)) λQ6=>(Jp 1∘aJ∘Jj∘JQ∘JP∘Jv 20 [(75,.slice C 8 t),(74,.bool false)]∘Jl∘Jv 4 [(80,.slice C 8 t),(79,.bool false)]∘Jy (h:=by exact aah bA (j:=4) rfl rfl rfl om)∘Jy (h:=by exact aaF rfl rfl (λ_ h=>zmb (h.rd (i:=6) rfl) rfl))∘Jp 3) (Ju (λG=>?_) λG=>?_)
 ·
  rw [show ((jX [113,97,1,0]).toList==(aby #[113,97,1,0]).toList)=true from Xv [113,97,1,0]] at G;cases G
 refine (Jp 1∘Jl∘Jv 4 [(91,.slice p 39 o),(90,.bool false)]∘Jy (h:=by exact aah bA (j:=7) rfl rfl rfl om)∘Jy (h:=by exact aaF rfl rfl (λ_ h=>zma (h.rd (i:=4) rfl) rfl))∘Jp 3) (Ju (λH=>?_) λH=>?_)
 ·
  rw [show ((jX [113,97,1,1,1,15,13]).toList==(aby #[113,97,1,1,1,15,13]).toList)=true from Xv [113,97,1,1,1,15,13]] at H;cases H
 refine (Jp 1∘Jl∘Jv 4 [(102,.slice A33 1 J),(101,.bool false)]) ?_
 repeat (first|clear Z|clear m)
 intro a Z m
 obtain ⟨u,rfl⟩:=m.rat 3 0 (hk:=show 0<1 from by omega)
 refine Jb Z m ((Jy (v:=vP u 0) (h:=by exact Yl.indexAddr (ad:=⟨u,0,none⟩) (y:=0) (sz:=4) rfl rfl rfl om kr)∘Jy (v:= .agg ((⟨1,11,26,39⟩:Pl).cells)) (h:=by exact Pe rfl rfl kY rfl (λ_ h=>h.yJ rZ (i:=3) rfl ((show [(⟨1,11,26,39⟩:Pl)][0]?=some _ from rfl))))∘fD #[vI 1,vI 11,vI 26,vI 39]∘Jy (v:= .bool false) (h:=by exact aau (b:=true) rfl rfl rfl Lm)∘Jv 6 [(112,.bool false)]∘Jf 0∘Jg 0 O1∘Jv 3 [(118,.bool false)]∘Jg 8 O1∘Jl∘Jv 3 [(124,.bool false)]∘Jg 8 O1∘Jy (v:=vP M 0) (h:=by exact Yl.indexAddr (ad:=⟨M,0,none⟩) (y:=0) (sz:=5) rfl rfl rfl om kr)∘Jf 3∘Jy (v:=vI hx.b.next) (h:=by exact Pd rfl rfl kr (λ_ h=>h.qw GN (i:=2) rfl (k:=0) (off:=3) (x:=hx) ((show [hx][0]?=some _ from rfl)) rfl))∘Jo (vI 7) (by rw [hxb];try rfl)∘Jv 2 [(131,.bool false)]∘aJ∘Jq) λa Z m=>?_)
 replace Z:=Z.to [(131,.bool false),(11,vP K 0),(3,.slice p 39 o),(0,.bool false)]
 refine Jb Z m ((JG∘aQ∘JP∘JL (h:=by exact λm=>FJ 1 (by unfold aX;decide) _)) ?_)
 rintro m _ Wo ⟨e,rfl,Q,R,S,hm⟩
 refine ⟨_,rfl,_,(show Mem w Wo (.blk P y.cells 53::.blk K #[vI 1,vI z.au,vQ z.aj,abl z.gA z.gs z.gc,abl z.lA z.cl z.lc,abl z.uA z.cu z.uc,abl z.tA z.ts z.tc,abl z.sA z.rs z.sc,vS M 1 cl] 53::ail M cl ([hx].flatMap hbL) u J p o F D.cells C t (iK e++([]))) from m.jU (T:=[]) 7 hm rfl),?_⟩
 refine (JL (h:=by exact λm=>FJ 0 (by unfold aX;decide) _)) ?_
 rintro m _ Dw ⟨g,rfl,U,V,W,hm⟩
 refine ⟨_,rfl,_,(show Mem w Dw (.blk P y.cells 53::.blk K #[vI 1,vI z.au,vQ z.aj,abl z.gA z.gs z.gc,abl z.lA z.cl z.lc,abl z.uA z.cu z.uc,abl z.tA z.ts z.tc,abl z.sA z.rs z.sc,vS M 1 cl] 53::ail M cl ([hx].flatMap hbL) u J p o F D.cells C t (iK g++(iK e++([])))) from m.jU (T:=iK e++([])) 7 hm rfl),?_⟩
 refine (JU ny #[vI e.z.next,vI e.z.st.au,vQ e.z.st.aj,abl e.z.st.gA e.z.st.gs e.z.st.gc,abl e.z.st.lA e.z.st.cl e.z.st.lc,abl e.z.st.uA e.z.st.cu e.z.st.uc,abl e.z.st.tA e.z.st.ts e.z.st.tc,abl e.z.st.sA e.z.st.rs e.z.st.sc,abl e.A e.q e.c,vI g.z.next,vI g.z.st.au,vQ g.z.st.aj,abl g.z.st.gA g.z.st.gs g.z.st.gc,abl g.z.st.lA g.z.st.cl g.z.st.lc,abl g.z.st.uA g.z.st.cu g.z.st.uc,abl g.z.st.tA g.z.st.ts g.z.st.tc,abl g.z.st.sA g.z.st.rs g.z.st.sc,abl g.A g.q g.c]) λauw N=>(JI (h:=by exact λm=>q3d (some ⟨N,0,none⟩) 2 e g Q R U V B _ (I.mem m s) (m.le s) (m.bB (i:=0) (n:=2) (size:=9) rfl rfl) (zl7 S (m.Lh 8 rfl) W (m.Pf 8 rfl)) de)) λauy E=>(Jp 1∘Jx∘Jx∘Jp 2∘Jq∘JC (h:=by exact λm=>(show Mem w _ (.blk N #[vI e.z.next,vI e.z.st.au,vQ e.z.st.aj,abl e.z.st.gA e.z.st.gs e.z.st.gc,abl e.z.st.lA e.z.st.cl e.z.st.lc,abl e.z.st.uA e.z.st.cu e.z.st.uc,abl e.z.st.tA e.z.st.ts e.z.st.tc,abl e.z.st.sA e.z.st.rs e.z.st.sc,abl e.A e.q e.c,vI g.z.next,vI g.z.st.au,vQ g.z.st.aj,abl g.z.st.gA g.z.st.gs g.z.st.gc,abl g.z.st.lA g.z.st.cl g.z.st.lc,abl g.z.st.uA g.z.st.cu g.z.st.uc,abl g.z.st.tA g.z.st.ts g.z.st.tc,abl g.z.st.sA g.z.st.rs g.z.st.sc,abl g.A g.q g.c] 53::.blk P y.cells 53::.blk K #[vI 1,vI z.au,vQ z.aj,abl z.gA z.gs z.gc,abl z.lA z.cl z.lc,abl z.uA z.cu z.uc,abl z.tA z.ts z.tc,abl z.sA z.rs z.sc,vS M 1 cl] 53::ail M cl ([hx].flatMap hbL) u J p o F D.cells C t []) from m.mV (aep _ _)))∘JC (h:=by exact λm=>m.pk [5])∘JG∘JP∘JL (h:=by exact λm=>FJ 1 (by unfold aX;decide) _)) ?_
 rintro m _ Wp ⟨d,rfl,X,Y,Lp,hm⟩
 refine ⟨_,rfl,_,(show Mem w Wp (.row (.slice p 39 o) 39 (dS.map B8) 5 1::(iK d++([]))) from m.jU (T:=[]) 1 hm rfl),?_⟩
 refine (JL (h:=by exact λm=>FJ 5 (by unfold aX;decide) _)) ?_
 rintro m _ Dp ⟨f,rfl,Lr,Ls,Lu,hm⟩
 refine ⟨_,rfl,_,(show Mem w Dp (.row (.slice p 39 o) 39 (dS.map B8) 5 1::(iK f++(iK d++([])))) from m.jU (T:=iK d++([])) 1 hm rfl),?_⟩
 refine (JL (h:=by exact λm=>FJ 4 (by unfold aX;decide) _)) ?_
 rintro m _ Wq ⟨l,rfl,Lv,Lx,LA,hm⟩
 refine ⟨_,rfl,_,(show Mem w Wq (.row (.slice p 39 o) 39 (dS.map B8) 5 1::(iK l++(iK f++(iK d++([]))))) from m.jU (T:=iK f++(iK d++([]))) 1 hm rfl),?_⟩
 refine (JU ny #[vI d.z.next,vI d.z.st.au,vQ d.z.st.aj,abl d.z.st.gA d.z.st.gs d.z.st.gc,abl d.z.st.lA d.z.st.cl d.z.st.lc,abl d.z.st.uA d.z.st.cu d.z.st.uc,abl d.z.st.tA d.z.st.ts d.z.st.tc,abl d.z.st.sA d.z.st.rs d.z.st.sc,abl d.A d.q d.c,vI f.z.next,vI f.z.st.au,vQ f.z.st.aj,abl f.z.st.gA f.z.st.gs f.z.st.gc,abl f.z.st.lA f.z.st.cl f.z.st.lc,abl f.z.st.uA f.z.st.cu f.z.st.uc,abl f.z.st.tA f.z.st.ts f.z.st.tc,abl f.z.st.sA f.z.st.rs f.z.st.sc,abl f.A f.q f.c,vI l.z.next,vI l.z.st.au,vQ l.z.st.aj,abl l.z.st.gA l.z.st.gs l.z.st.gc,abl l.z.st.lA l.z.st.cl l.z.st.lc,abl l.z.st.uA l.z.st.cu l.z.st.uc,abl l.z.st.tA l.z.st.ts l.z.st.tc,abl l.z.st.sA l.z.st.rs l.z.st.sc,abl l.A l.q l.c]) λauz O=>(JI (h:=by exact λm=>qud (some ⟨O,0,none⟩) 3 d f l X Y Lr Ls Lv Lx B _ (I.mem m s) (m.le s) (m.bB (i:=0) (n:=3) (size:=9) rfl rfl) (zl8 Lp (m.V3 2 rfl) Lu (m.Lh 2 rfl) LA (m.Pf 2 rfl)) de)) λDq E=>(Jp 1∘Jx∘Jx∘Jp 2∘Jq∘JC (h:=by exact λm=>(show Mem w _ [.blk O #[vI d.z.next,vI d.z.st.au,vQ d.z.st.aj,abl d.z.st.gA d.z.st.gs d.z.st.gc,abl d.z.st.lA d.z.st.cl d.z.st.lc,abl d.z.st.uA d.z.st.cu d.z.st.uc,abl d.z.st.tA d.z.st.ts d.z.st.tc,abl d.z.st.sA d.z.st.rs d.z.st.sc,abl d.A d.q d.c,vI f.z.next,vI f.z.st.au,vQ f.z.st.aj,abl f.z.st.gA f.z.st.gs f.z.st.gc,abl f.z.st.lA f.z.st.cl f.z.st.lc,abl f.z.st.uA f.z.st.cu f.z.st.uc,abl f.z.st.tA f.z.st.ts f.z.st.tc,abl f.z.st.sA f.z.st.rs f.z.st.sc,abl f.A f.q f.c,vI l.z.next,vI l.z.st.au,vQ l.z.st.aj,abl l.z.st.gA l.z.st.gs l.z.st.gc,abl l.z.st.lA l.z.st.cl l.z.st.lc,abl l.z.st.uA l.z.st.cu l.z.st.uc,abl l.z.st.tA l.z.st.ts l.z.st.tc,abl l.z.st.sA l.z.st.rs l.z.st.sc,abl l.A l.q l.c] 53,.row (.slice p 39 o) 39 (dS.map B8) 5 1] from m.mV (aep _ _)))∘JC (h:=by exact λm=>m.pk [1])∘JG∘aM 1∘JU bA #[vB 0]) λauA auB=>(JD ([0].map B8) 1 (λ_ _=>gu) bA (hr:=by exact λm=>m.bB (i:=0) (n:=1) (size:=1) rfl rfl) (h1:=by decide)) λauC Ws Wt hc150=>(JL (h:=by exact λm=>q3e Ws Wt B _ (I.mem m s) (m.le s) (m.rd (i:=1) rfl) hc150)) ?_
 rintro m _ auD ⟨⟨auE,auF,rfl,_,_⟩,E⟩
 refine ⟨_,rfl,_,m.call E,?_⟩
 exact (Jp 1∘Jx∘Jx∘Jp 2∘aJ∘Jr∘Jv 19 [(0,.bool true)]∘aJ∘aP) tT
def BH {P:aiO} {f:Nat} {args:Array aiN} {b c:Bool} (h:Calls P f args w (Is w (.bool b))) (e:b=c):Calls P f args w (Is w (.bool c)):=e▸h
def qz4 (x y:Pm) (r:fB x) (F:fB y) (s:uG x.v y.v) (w:aiM) (g:gq w x) (j:gq w y):
    Calls abp 21 #[.agg x.cells,.agg y.cells] w (Is w (.bool true)):=by
 refine (iP Tryz.func21 40) ?_
 refine (JP∘JE) λU J=>(JE) λV K=>(Jp 1∘Jq) ?_
 have N:=r.len
 have O:abo x.q=abo y.q:=by have h:=congrArg acW s.2;rwa [show x.v.bs=x.q.map ac2 from rfl,show y.v.bs=y.q.map ac2 from rfl,abw,abw] at h
 refine (JG∘JQ∘JP∘Jf 0∘Jy (v:= .agg #[vI x.z.next,vI x.z.st.au,vQ x.z.st.aj,.slice x.z.st.gA (abo x.z.st.gs) x.z.st.gc,.slice x.z.st.lA (abo x.z.st.cl) x.z.st.lc,.slice x.z.st.uA (abo x.z.st.cu) x.z.st.uc,.slice x.z.st.tA (abo x.z.st.ts) x.z.st.tc,.slice x.z.st.sA (abo x.z.st.rs) x.z.st.sc]) (h:=by exact Pe rfl rfl zo rfl (λ_ h=>h.sub (i:=1) rfl 0 rfl))∘Jf 0∘Jy (v:= .agg #[vI y.z.next,vI y.z.st.au,vQ y.z.st.aj,.slice y.z.st.gA (abo y.z.st.gs) y.z.st.gc,.slice y.z.st.lA (abo y.z.st.cl) y.z.st.lc,.slice y.z.st.uA (abo y.z.st.cu) y.z.st.uc,.slice y.z.st.tA (abo y.z.st.ts) y.z.st.tc,.slice y.z.st.sA (abo y.z.st.rs) y.z.st.sc]) (h:=by exact Pe rfl rfl zo rfl (λ_ h=>h.sub (i:=0) rfl 0 rfl))∘JI (h:=by exact λd=>BH (zap x.z y.z _ (g.st.old d) (j.st.old d) r.few F.few) (decide_eq_true s.1))) λP G=>(Jp 2∘Jg 8 O1∘Jl∘Jg 8 O0∘Jl∘Jp 2∘aJ∘Jj) (Jh (λt=>?_) λt=>?_)
 ·
  intro a Z d
  exfalso;omega
 refine (aQ∘JQ∘JP∘Jg 8 O1∘Jl∘bM 1∘JB) λa Z d=>?_
 refine qg (λM Q R=>∃(k:Nat),(k<=abo x.q)/\M=abo x.q-k/\Fr Q 40 [] [(24,vI k),(23,vI (abo x.q)),(20,.bool false),aie,(3,vP K 0),(2,vP J 0)]/\Mem w R [.blk K y.cells 53,.blk J x.cells 53]) (m:=abo x.q-0) ⟨0,abz _,rfl,Z.sub kr,d.pk [0,1]⟩ ?_
 clear Z d;rintro M a W ⟨k,X,rfl,Z,d⟩
 refine Jb Z d ((dh 1∘JQ) (Ji (λu=>?_) λu=>?_))
 ·
  have l:k<abo x.q:=by omega
  have H:(x.q.getD k Hb.zero).b=(y.q.getD k Hb.zero).b:=GR s.2 l
  refine (eY∘aM 2∘aL∘Jj) λa Z d=>?_
  refine wp_seq ?_
  refine Jb Z d ((Vs .n []) λS=>(Vf 0 8∘Vp [2]∘Vf 5 8∘Vp [7]∘Vc 1 O1) ?_)
  obtain ⟨B,C,o,_⟩:=Rd.sat g.bl k
  have e:=g.bl;rw [o] at e
  intro a Z d I
  replace Z:=Z.sp 28 (.slice (some ⟨B,C,none⟩) (abo x.q) x.c) rfl (by rw [o];try rfl)
  refine Vb Z d I ((oq 3 k 5∘Vy 4 (v:= .agg ((x.q.getD k Hb.zero).b.cells (x.q.getD k Hb.zero).A (x.q.getD k Hb.zero).c)) (h:=by exact Pe rfl rfl aG rfl (λ_ h=>(h.old e).vv GN ((getD_at Hb.zero l))))∘Vc 6 O0) ?_)
  obtain ⟨D,E,p,_⟩:=Rd.sat j.bl k
  have f:=j.bl;rw [p] at f
  intro a Z d I
  replace Z:=Z.sp 33 (.slice (some ⟨D,E,none⟩) (abo y.q) y.c) rfl (by rw [p];try rfl)
  refine Vb Z d I ((oq 8 k 5∘Vy 9 (v:= .agg ((y.q.getD k Hb.zero).b.cells (y.q.getD k Hb.zero).A (y.q.getD k Hb.zero).c)) (h:=by exact Pe rfl rfl aG rfl (λ_ h=>(h.old f).vv GN ((getD_at Hb.zero om))))∘VI 10 .n (h:=by exact λd=>BH (zcr (x.q.getD k Hb.zero).b (y.q.getD k Hb.zero).b ((x.q.getD k Hb.zero).A) ((y.q.getD k Hb.zero).A) (x.q.getD k Hb.zero).c (y.q.getD k Hb.zero).c _ (d.old (g.ev.at l)) (d.old (j.ev.at om)) (r.UC _ (qf Hb.zero l))) (decide_eq_true H))) λT G=>(Vp [11]∘Vd∘aJ∘aQ∘JR∘dA 1∘Jp 1∘aL∘Jq) λa Z d=>?_)
  exact ⟨_,om,k+1,by omega,rfl,Z.sub kr,d.pk [0,1]⟩
 exact (JF∘JX∘JG∘bE 1) tT
def abf {i:aiM} {f:aiX} (h:Mem W w (a++b)) (k:Mem w i (f::T)):Mem W i (f::(a++(T++b))):=by
 refine (h.join k).perm (List.Perm.cons f ?_)
 show (T++(a++b)).Perm _
 rw [<-abv,<-abv]
 exact aen b acD
section
variable {q:List Pm} {L:List Pl} {bs:List Nat} (h:jI q L bs) (A:aiW) (c BB:Nat) (w:aiM) (hL:aR BB w) (hB:BB<=w.heap.size) (hr:Rd w w.heap.size 1 A bs.length (bs.map B8)) (hc:bs.length<=c)
include h hL hB hr hc
theorem zf0:Calls abp 17 #[.slice A (abo bs) c] w (λr m=>∃(X:aiW) (a:Nat) (p:List Pm),r= .returned (.tuple #[.slice X (abo p) a,.int .i64 (-1),.int .i64 0])/\abo p=abo q/\(∀i,i<abo q->uG (p.getD i Pm.zero).v (q.getD i Pm.zero).v)/\(∀x∈p,fB x)/\abo p<=a/\Mem w m (.row (.slice X (abo p) a) (abo p) (p.flatMap gQ) 53 9::bY p)):=by
 refine (zah A c bs BB w hL hB hr hc (by have:=h.wr.few;omega) h.lt).mono λr m k=>?_
 rw [q9t,h.wr.idx] at k
 rcases k with ⟨k,_⟩|⟨_,t,e2,k,_⟩|⟨_,_,X,a,p,rfl,n,d,g,j,hm⟩
 ·exact absurd rfl k
 ·rw [(qub h).1] at k;cases k
 ·have l:abo p=abo q:=n.trans h.len
  refine ⟨X,a,p,rfl,l,λi hi=>?_,g,j,hm⟩
  obtain ⟨z,e,f⟩:=OU h hi
  obtain ⟨o,s⟩:=d i om z
  exact ⟨qoh (Np o) (Np e),by show (p.getD i Pm.zero).q.map ac2=(q.getD i Pm.zero).q.map ac2;rw [s,f]⟩
theorem zaq:Calls abp 18 #[.slice A (abo bs) c] w (λr a=>(∃A c,r= .returned (.tuple #[.slice A (abo L) c,.int .i64 0])/\a.ownsRow w.heap.size 57 4 (.slice A (abo L) c) (abo L) (L.flatMap iJ)/\abo L<=c)/\Below w.heap.size w a):=by
 have k:=OW A c bs BB w hL hB hr hc (by have:=h.wr.few;omega) h.lt
 rw [h.wr.idx] at k
 exact k
theorem zf1:Calls abp 19 #[.slice A (abo bs) c] w (λr a=>∃(G:List Nat) (A:aiW) (c:Nat),(r= .returned (.tuple #[.slice A (abo G) c,.int .i64 0])/\a.ownsRow w.heap.size 3 1 (.slice A (abo G) c) (abo G) (G.map bL))/\(abo G=abo q/\∀j,j<abo q->G.getD j 0=j)/\Below w.heap.size w a):=by
 refine (zai A c bs BB w hL hB hr hc (by have:=h.wr.few;omega) h.lt).mono λr a k=>?_
 rw [zh0,h.wr.idx] at k
 rcases k with ⟨k,_⟩|⟨_,k⟩
 ·exact absurd rfl k
 ·rw [(qub h).2] at k
  obtain ⟨⟨A,c,e1,e2,_⟩,e3⟩:=k
  exact ⟨_,A,c,⟨e1,e2⟩,⟨List.length_range,λj b=>by rw [abt,List.getElem?_range b];rfl⟩,e3⟩
theorem zf2 {k:Nat} (hk:k<abo q) (n:abo q<=1000):Calls abp 20 #[.slice A (abo bs) c,.int .i64 (k:Int)] w (λr a=>∃p:Pm,r= .returned (.tuple #[.agg p.cells,.int .i64 0])/\uG p.v (q.getD k Pm.zero).v/\fB p/\Mem w a (iK p)):=by
 refine (V4 A c bs BB w hL hB hr hc (by have:=h.wr.few;omega) h.lt (k:Int) (by unfold aX;omega)).mono ?_
 rintro r a ⟨p,rfl,i,j,hm⟩
 have d:=zab h hk
 have g:=i d
 rw [h.wr.idx] at g
 obtain ⟨z,e,f⟩:=OU h hk
 obtain ⟨l,m⟩:=g z
 rw [d]
 exact ⟨p,rfl,⟨qoh (Np l) (Np e),by show p.q.map ac2=(q.getD k Pm.zero).q.map ac2;rw [m];exact f⟩,j,hm⟩
end
def aaS {P:aiO} {S:aiM->Prop} {σ:List (Nat×aiN)} {o:aiS} {t u:aiP} {x y:aiR} {m p:Nat} {z:Int} (a:o.op= .binOp .sub t x y u) (b:look σ x=some (vI m)) (hy:look σ y=some (vI z)) (hz:z=(p:Int)) (hb:p<=m/\m<=9223372036854775807):Yl P S σ o (vI ((m-p:Nat):Int)):=by
 subst hz
 have e:Value.int .i64 (Go.IntKind.i64.wrap ((m:Int)- (p:Int)))=vI ((m-p:Nat):Int):=zc om om
 rw [<-e]
 exact Yl.pure (by rw [a];simp only [sj,b,hy,show Eh (vI m)=true from rfl,if_true];exact Qg _ _ _)
def aa7 {m:List aiX} (h:Mem W w (a++(m++b))):Mem W w (a++b):=h.mV (ahe (aeG m b) a)
def aaZ {i:aiM} (h:Mem W w (a++b)) (k:Mem w i T):Mem W i (a++(T++b)):=by
 refine (h.join k).perm ?_
 rw [<-abv,<-abv]
 exact aen b acD
theorem Mem.BJ {S S2:List aiX} (h:Mem W w F) (n:Nat) (a:F.drop n=S++(S2++bY q)):∀p∈q,gq w p:=h.UD λ_ b=>abU (a▸acP _ (acP _ b))
theorem Mem.LG {S:List aiX} (h:Mem W w F) (n:Nat) (a:F.drop n=S++(bY q++T)):∀p∈q,gq w p:=h.UD λ_ b=>abU (a▸acP _ (List.mem_append_left _ b))
theorem Mem.tC (h:Mem W w F) (n:Nat) (a:F.drop n=bY q):∀p∈q,gq w p:=h.UD λ_ b=>abU (a▸b)
def zas {bs:List Nat} (A:aiW) (c:Nat) (l:List Pm) (B:Nat) (w:aiM) (d:aR B w) (e:B<=w.heap.size) (hr:Rd w w.heap.size 9 A (abo l) (l.flatMap gQ)) (f:∀p∈l,gq w p) (hc:abo l<=c) (g:abo l<=100000) (a:jI l L bs):Calls abp 16 #[.slice A (abo l) c] w (mh w 0 bs):=by
 have k:=V6 A c l B w d e hr (λp b=>⟨a.ok p b,f p b⟩) hc g
 rw [a.wr.wr] at k
 exact k
def zat {bs:List Nat} (A:aiW) (c:Nat) (l:List Pm) (B:Nat) (w:aiM) (d:aR B w) (e:B<=w.heap.size) (hr:Rd w w.heap.size 9 A (abo l) (l.flatMap gQ)) (f:∀p∈l,gq w p) (hc:abo l<=c) (g:abo l<=100000) (a:jI l L bs):Calls abp 15 #[.slice A (abo l) c] w (Is w (.tuple #[vI (-1),vI 0])):=Pg A c l B w d e hr (λp b=>⟨a.ok p b,f p b⟩) hc om a.wr.qY
abbrev ahV:=λa b c d (e:Nat) f g h=>((195,.bool false)::(20,vP a 0)::(19,vI 0)::(18,vP b 0)::(16,vI c)::(17,vP d 0)::(100,.bool true)::(99,vI c)::(98,vI e)::(97,vS f e g)::(96,.bool false)::h:List (Nat×aiN))
abbrev aiA {α:Type}:=λa b c d e f g h i j (k:List α) l m n o p=>((14,vS a b c)::(12,vS d e f)::(9,vS g h i)::(7,abl j k l)::(3,vS m n o)::(22,.bool false)::(2,.bool false)::p:List (Nat×aiN))
def qna (A:aiW) (c:Nat) (l:List Ap) (B:Nat) (w:aiM) (X:aR B w) (H:B<=w.heap.size) (hr:Rd w w.heap.size 16 A (abo l) (l.flatMap FH)) (hP:∀x∈l,lU w x) (hc:abo l<=c) (hn:abo l<=9223372036854775807):
    Calls abp 3 #[.slice A (abo l) c] w (Is w (.bool true)):=by
 refine (fE Tryz.func3 197) ?_
 refine (dh 1∘JQ∘JP∘JI (h:=by exact λe=>qxg B _ (X.mem e H) (e.le H))) λNT N=>(Jp 1∘aL∘Jj∘aQ∘aM 1∘JL (h:=by exact λe=>q3i A c l _ (e.old hr) (λx Y=>(hP x Y).old e) hc hn)) ?_
 rintro e _ Qy ⟨V,g,q,rfl,hqs,hqc,hm⟩
 refine ⟨_,rfl,_,(show Mem w Qy (abn V q g gQ 53 9::bY q) from aaT e hm),?_⟩
 refine (Jp 1∘Jx∘Jx∘Jp 2∘Jq) ?_
 have OO:=hqs.1
 have h4:abo (l.take 4)<=4/\abo (l.take 4)<=abo l:=by rw [abx];omega
 obtain ⟨L,bs,O⟩:=zot hqs h4.2 h4.1 hP
 have hbl:=O.wr.few
 have hq4:abo q<=4:=by omega
 refine (JG∘aM 1∘JI (h:=by exact λe=>zat V g q B _ (X.mem e H) (e.le H) (e.rd (i:=0) rfl) (e.tC 1 rfl) hqc om O)) λw30 N=>(Jp 1∘Jx∘Jx∘Jp 2∘bg 1∘JK (h:=by exact λe=>zas V g q B _ (X.mem e H) (e.le H) (e.rd (i:=0) rfl) (e.tC 1 rfl) hqc om O)) λt u w35 R=>(Jp 1∘Jx∘Jx∘Jp 2∘bg 1∘JL (h:=by exact λe=>zf0 O t u B _ (X.mem e H) (e.le H) (e.rd (i:=0) rfl) R)) ?_
 rintro e _ X9 ⟨U,I,ps,rfl,hpl,hpq,hpo,hxp,hm⟩
 refine ⟨_,rfl,_,abf (a:=[abm t bs u B8 5 1,abn V q g gQ 53 9]) (b:=bY q) e hm,?_⟩
 refine (Jp 1∘Jx∘Jx∘Jx∘Jp 3∘bg 1∘JK (h:=by exact λe=>zaq O t u B _ (X.mem e H) (e.le H) (e.rd (i:=1) rfl) R)) λXl K EB hxl=>(Jp 1∘Jx∘Jx∘Jp 2∘bg 1∘JL (h:=by exact λe=>zf1 O t u B _ (X.mem e H) (e.le H) (e.rd (i:=2) rfl) R)) ?_
 rintro e _ Qn ⟨G,W,M,⟨rfl,ho⟩,⟨Oy,hGa⟩,N⟩
 refine ⟨_,rfl,_,e.cZ N ho,?_⟩
 refine (Jp 1∘Jx∘Jx∘bM 2∘JQ∘JP∘Jv 24 [(77,abl U ps I),(76,.bool false)]∘Jl∘Jp 1∘Jl∘Jp 1∘Jo (.bool false) (by rw [hpl];simp)∘Jp 3∘Jl∘Jp 1∘Jl∘Jp 1∘Jo (.bool false) (by rw [O.len];simp)∘Jp 3∘Jl∘Jp 1∘Jl∘Jp 1∘Jo (.bool false) (by rw [Oy];simp)∘Jp 1∘aJ∘Jq) λa Z e=>?_
 replace Z:=Z.to [(96,.bool false),(14,abl W G M),(12,abl Xl L K),(9,abl U ps I),(7,abl t bs u),(3,abl V q g),(22,.bool false),(2,.bool false)]
 refine Jb Z e ((JG∘aQ∘bN 1∘Jl∘bM 1∘JB) λa Z e=>?_)
 refine qg (λmS aS wS=>∃(k:Nat),(k<=abo q)/\mS=abo q-k/\Fr aS 197 [] (ahY 99 k 98 (abo q) [(97,abl V q g),(96,.bool false),(14,abl W G M),(12,abl Xl L K),(9,abl U ps I),(7,abl t bs u),(3,abl V q g),(22,.bool false),(2,.bool false)])/\Mem w wS (abm W G M bL 3 1:: abn Xl L K iJ 57 4:: abn U ps I gQ 53 9:: abm t bs u B8 5 1:: abn V q g gQ 53 9::(bY ps++(bY q)))) (m:=abo q-0) ⟨0,abz _,rfl,Z.sub kr,e.pt 5 [0,1,2,3,4]⟩ ?_
 clear Z e;rintro mS a w_ ⟨k,hk,rfl,Z,e⟩
 refine Jb Z e ((dh 1∘JQ) (Ji (λLH=>?_) λLH=>?_))
 ·
  have J:k<abo q:=by omega
  obtain ⟨x,Y⟩:∃x,q.getD k Pm.zero=x:=⟨_,rfl⟩
  have hxm:x∈q:=by rw [<-Y];exact qf Pm.zero J
  have hxo:=O.ok x hxm
  obtain ⟨z,hz⟩:∃z,ps.getD k Pm.zero=z:=⟨_,rfl⟩
  have hzm:z∈ps:=by rw [<-hz];exact qf Pm.zero om
  have hzo:=hpo z hzm
  have hzx:=hpq k J
  rw [Y,hz] at hzx
  obtain ⟨y,hy⟩:∃y,L.getD k Pl.zero=y:=⟨_,rfl⟩
  obtain ⟨hyn,hy8,au5,hye,hyb,hyp,hyl⟩:=zlz O J Y hy
  have hLl:=O.len
  refine (eY∘aM 1) ?_
  repeat (first|clear Z|clear e)
  intro a Z e
  obtain ⟨f,rfl⟩:=e.rat 4 k
  refine Jb Z e ((nG k 9∘Jy (v:= .agg ((q.getD k Pm.zero).cells)) (h:=by exact Pe rfl rfl cO rfl (λ_ h=>h.yJ Ov (i:=4) rfl ((getD_at Pm.zero J))))∘Jo (.agg x.cells) (by rw [Y])∘JA aiH) λw17 o=>(Jp 1∘JV cO aO (h1:=by exact zS x)) λaeH=>(bg 2∘JL (h:=by exact λe=>zf2 O t u B _ (X.mem e H) (e.le H) (e.rd (i:=4) rfl) R J om)) ?_)
  rintro e _ UQ ⟨p,rfl,hpx,hpk,hm⟩
  rw [Y] at hpx
  refine ⟨_,rfl,_,aaZ (a:=[.blk o x.cells 53,abm W G M bL 3 1,abn Xl L K iJ 57 4,abn U ps I gQ 53 9,abm t bs u B8 5 1,.row (vS f (abo q) g) (abo q) (q.flatMap gQ) 53 9]) (b:=bY ps++(bY q)) e hm,?_⟩
  refine (Jp 1∘Jx∘Jx∘JA aiH) λxW C=>(JV cO aO (h1:=by exact zS p)) λLC=>(Jp 1∘bg 2) ?_
  repeat (first|clear Z|clear e)
  intro a Z e
  obtain ⟨r,rfl⟩:=e.rat 3 k
  refine Jb Z e ((nG k 4∘Jy (v:= .agg ((L.getD k Pl.zero).cells)) (h:=by exact Pe rfl rfl kY rfl (λ_ h=>h.yJ rZ (i:=3) rfl ((getD_at Pl.zero om))))∘Jo (.agg y.cells) (by rw [hy])∘JA #[vI 0,vI 0,vI 0,vI 0]) λCr s=>(JV kY aO (h1:=by exact UE y)) λaeI=>(fJ∘Jj) λa Z e=>?_)
  refine qy (λaS wS=>Fr aS 197 [] (ahV s C k o (abo q) f g [(14,abl W G M),(12,vS r (abo L) K),(9,abl U ps I),(7,abl t bs u),(3,vS f (abo q) g),(22,.bool false),(2,.bool false)])/\Mem w wS (.blk s y.cells 57:: .blk C p.cells 53:: .blk o x.cells 53:: abm W G M bL 3 1:: .row (vS r (abo L) K) (abo L) (L.flatMap iJ) 57 4:: abn U ps I gQ 53 9:: abm t bs u B8 5 1:: .row (vS f (abo q) g) (abo q) (q.flatMap gQ) 53 9::(iK p++(bY ps++(bY q))))) ?_ ?_
  ·
   refine Jb Z e ((Vs .n []) λDc=>(Vq [0,1,2] [(116,.bool false)]∘mK 3 cO O1∘mK 4 cO O2∘VI 5 .n (h:=by exact λe=>qz4 p x hpk hxo hpx _ (e.Pf 8 rfl) (e.BJ (S:=iK p) (S2:=bY ps) 8 rfl x hxm))) λIi N=>(Vp [6,7,8,9,10]) ?_)
   repeat (first|clear Z|clear e|clear j)
   intro a Z e j
   obtain ⟨P,rfl⟩:=e.rat 5 k
   refine Vb Z e j ((Vy 11 (h:=by exact Yl.iO P k 9 rfl rfl rfl)∘Vy 12 (v:= .agg ((ps.getD k Pm.zero).cells)) (h:=by exact Pe rfl rfl cO rfl (λ_ h=>h.yJ Ov (i:=5) rfl ((getD_at Pm.zero om))))∘Vo (.agg z.cells) (by rw [hz])∘mK 13 cO O2∘VI 14 .n (h:=by exact λe=>qz4 z x hzo hxo hzx _ (e.LG (S:=iK p) (T:=bY q) 8 rfl z hzm) (e.BJ (S:=iK p) (S2:=bY ps) 8 rfl x hxm))) λUY N=>(Vp [15,16,17,18,19,22]) ?_)
   repeat (first|clear Z|clear e|clear j)
   intro a Z e j
   obtain ⟨Q,rfl⟩:=e.rat 3 k
   refine Vb Z e j ((Vy 20 (h:=by exact Yl.iO Q k 1 rfl rfl rfl)∘Vy 21 (v:=vI (G.getD k 0)) (h:=by exact aae 3 k 0 om rfl rfl rfl)∘Vo (vI k) (by rw [hGa k J])∘Vq [23] [(137,.bool ((k:Int) !=(k:Int)))]∘Vo (.bool false) (by simp)∘Vp [24,25]∘Vf 26 0∘Vf 28 0∘Vf 29 0∘Vc 27 O0∘Vc 30 O2∘Vq [31] [(145,.bool ((y.nx:Int) !=(x.z.next:Int)))]∘Vo (.bool false) (by rw [hyn];simp)∘Vp [32,33]∘Vf 34 1∘Vc 35 O0∘Vq [36] [(150,.bool (decide ((y.sn:Int)<(8:Int))))]∘Vo (.bool false) (by exact congrArg abN (decide_eq_false om))∘Vp [37,38]∘Vf 39 2∘Vf 41 1∘Vc 40 O0∘Vc 42 O0∘xV 43 15∘Vq [44] [(158,.bool (decide ((y.st:Int)<((y.sn+15:Nat):Int))))]∘Vo (.bool false) (by exact congrArg abN (decide_eq_false om))∘Vp [45,46]∘Vf 47 3∘Vf 49 2∘Vc 48 O0∘Vc 50 O0∘Vq [51] [(165,.bool (decide ((y.en:Int)<(y.st:Int))))]∘Vo (.bool false) (by exact congrArg abN (decide_eq_false om))∘Vp [52,53,54,55,56]) λa Z e j=>?_)
   as_aux_lemma=>
   rcases Z.tf 170 rfl with ⟨D,Z⟩|⟨D,Z⟩
   ·
    have LJ:=of_decide_eq_true D
    refine Vb Z e j ((Vf 57 1∘Vp [59,60]∘Vc 58 O0∘Ez 61 1∘Vy 62 (h:=by exact Yl.iO r (k-1) 4 rfl rfl rfl)∘Vf 63 3∘Vy 64 (v:=vI ((L.getD (k-1) Pl.zero).en)) (h:=by exact Pd rfl rfl kr (λ_ h=>h.qw rZ (i:=4) rfl (k:=(k-1)) (off:=3) (x:=(L.getD (k-1) Pl.zero)) ((getD_at Pl.zero om)) rfl))∘Vq [65] [(179,.bool ((y.sn:Int) !=((L.getD (k-1) Pl.zero).en:Int)))]∘Vo (.bool false) (by rw [hyp om];simp)∘Vp [66,67,68,69,70]∘Vl 71∘Vy 72 (v:=vI (abo q-1:Nat)) (h:=by exact aaS (m:=abo q) (p:=1) rfl rfl rfl rfl om)∘Vp [73,74]) λa Z e j=>?_)
    rcases Z.tf 188 rfl with ⟨E,Z⟩|⟨E,Z⟩
    ·
     have F:=eq_of_beq E
     refine Vb Z e j ((Vf 75 3∘Vp [77]∘Vc 76 O0∘Vl 78∘Vq [79] [(193,.bool ((y.en:Int) !=(abo bs:Int)))]∘Vo (.bool false) (by rw [hyl om];simp)∘Vp [80,81]∘Vd∘aJ) λa Z e=>?_)
     replace Z:=Z.to (ahV s C k o (abo q) f g (aiA Q (abo G) M r (abo L) K P (abo ps) I t bs u f (abo q) g []))
     exact ⟨Z.sub kr,e.pt 8 [0,1,2,3,4,5,6,7]⟩
    have F:=ne_of_beq_false E
    refine ap Z (λ_=>j) [75,76,77,78,79,80,81] (bt 82 []) [(195,.bool false)] λa Z=>?_
    refine qe kr ?_
    replace Z:=Z.to (ahV s C k o (abo q) f g (aiA Q (abo G) M r (abo L) K P (abo ps) I t bs u f (abo q) g []))
    exact ⟨Z.sub kr,e.pt 8 [0,1,2,3,4,5,6,7]⟩
   have LJ:=of_decide_eq_false D
   refine ap Z (λ_=>j) [57,58,59,60,61,62,63,64,65,66,67,68,69,70] (bt 82 [71,72,73,74,75,76,77,78,79,80,81]) [(184,vS f (abo q) g),(183,vI k),(182,.bool false)] λa Z=>?_
   refine p9 Z j 71 λa Z=>?_
   refine iw Z j 72 rfl (v:=vI (abo q-1:Nat)) (aaS (m:=abo q) (p:=1) rfl rfl rfl rfl om) λa Z=>?_
   refine ap Z (λ_=>j) [73,74] (bt 82 [75,76,77,78,79,80,81]) [(188,.bool ((k:Int)==((abo q-1:Nat):Int)))] λa Z=>?_
   refine Jb Z e (Je (λF=>?_) λF=>?_)
   ·
    intro a Z e
    refine ap Z (λ_=>j) [75,77] (bt 82 [76,78,79,80,81]) [(191,abl t bs u),(189,vP s 3)] λa Z=>?_
    refine dH Z j 76 0 (v:=vI y.en) λa Z=>?_
    refine p9 Z j 78 λa Z=>?_
    refine pK Z (λ_=>j) (i:=79) rfl rfl (d:=193) rfl de kr (λ_ _ _ h=>h) (v:= .bool ((y.en:Int) !=(abo bs:Int))) (λ_=>Yl.pure kr) λa Z=>?_
    replace Z:=Z.sp 193 (.bool false) rfl (by rw [hyl om];simp)
    refine ap Z (λ_=>j) [80,81] (bt 82 []) [(195,.bool false)] λa Z=>?_
    refine qe kr ?_
    replace Z:=Z.to (ahV s C k o (abo q) f g (aiA Q (abo G) M r (abo L) K P (abo ps) I t bs u f (abo q) g []))
    exact ⟨Z.sub kr,e.pt 8 [0,1,2,3,4,5,6,7]⟩
   intro a Z e
   refine ap Z (λ_=>j) [75,76,77,78,79,80,81] (bt 82 []) [(195,.bool false)] λa Z=>?_
   refine qe kr ?_
   replace Z:=Z.to (ahV s C k o (abo q) f g (aiA Q (abo G) M r (abo L) K P (abo ps) I t bs u f (abo q) g []))
   exact ⟨Z.sub kr,e.pt 8 [0,1,2,3,4,5,6,7]⟩
  clear Z e;rintro a w16 ⟨Z,e⟩
  refine Jb Z e ((aQ∘JR∘dA 1∘Jp 1∘aL∘Jq) λa Z e=>?_)
  replace e:Mem w _ (.blk s y.cells 57:: .blk C p.cells 53:: .blk o x.cells 53:: abm W G M bL 3 1:: .row (vS r (abo L) K) (abo L) (L.flatMap iJ) 57 4:: abn U ps I gQ 53 9:: abm t bs u B8 5 1:: .row (vS f (abo q) g) (abo q) (q.flatMap gQ) 53 9::(bY ps++(bY q))):=aa7 (a:=[.blk s y.cells 57,.blk C p.cells 53,.blk o x.cells 53,abm W G M bL 3 1,.row (vS r (abo L) K) (abo L) (L.flatMap iJ) 57 4,abn U ps I gQ 53 9,abm t bs u B8 5 1,.row (vS f (abo q) g) (abo q) (q.flatMap gQ) 53 9]) (m:=iK p) (b:=bY ps++bY q) e
  exact ⟨_,om,k+1,by omega,rfl,Z.sub kr,e.pt 8 [3,4,5,6,7]⟩
 exact (JF∘JX∘JG∘bE 1) tT
end Go.Proofs.YtekiimhdnigmcaaGreatDoor
