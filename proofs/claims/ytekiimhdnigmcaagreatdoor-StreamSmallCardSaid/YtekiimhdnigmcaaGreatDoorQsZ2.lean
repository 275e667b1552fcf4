/- Parts. -/
import Derived.Test.YtekiimhdnigmcaaGreatDoorQsMark
import Derived.Test.YtekiimhdnigmcaaGreatDoorQsSep6
import Derived.Test.YtekiimhdnigmcaaGreatDoorQsCrcP
import Derived.Test.YtekiimhdnigmcaaGreatDoorQsCheck
import Derived.Test.YtekiimhdnigmcaaGreatDoorQsVarint
import Derived.Test.YtekiimhdnigmcaaGreatDoorQsRef06f
import Derived.Test.YtekiimhdnigmcaaGreatDoorQsRWith
import Derived.Test.YtekiimhdnigmcaaGreatDoorQsSep7
import Derived.Test.YtekiimhdnigmcaaGreatDoorQsCodV
import Derived.Test.YtekiimhdnigmcaaGreatDoorQsSep8
import Derived.Test.YtekiimhdnigmcaaGreatDoorQsRef01
import Derived.Test.YtekiimhdnigmcaaGreatDoorQsZ1
set_option linter.all false
set_option maxRecDepth 100000
set_option maxHeartbeats 1000000
namespace Go.Proofs.YtekiimhdnigmcaaGreatDoor
open Go.RowKit
theorem q1r (n:Nat) (hn:n≤1000000000000) (w:World):
    Calls Tryz.prog 276 #[vN,vI n] w fun r w'=>(∃A c,r= .returned (.slice A 0 c)∧w'.ownsRow w.heap.size 5 1 (.slice A 0 c) 0 [])∧Below w.heap.size w w':=by
 refine (iG Tryz.func276 27) ?_
 refine (JP∘Jp 1∘Jj∘JQ∘JP∘Jp 2∘aR∘Jj) (Ju (fun hb6=>?_) fun hb6=>?_)
 ·
  intro a Z HM
  have hd6:=of_decide_eq_true hb6
  omega
 intro a Z HM
 have hd6:=of_decide_eq_false hb6
 refine Jb Z HM ((JF∘aF∘JQ∘JP∘Jp 2∘Jy (h:=by exact Yl.cap rfl rfl kr)∘Jp 1∘Jl∘Jv 2 [(14,vI (IntKind.i64.wrap ((n:Int)-0)))]∘Jo (vI n) (by exact zq om om)∘Jp 1∘aI∘Jr∘Jp 2∘aR∘Jj) (Ji (fun lC=>?_) fun lC=>?_))
 ·
  refine (JT∘JR∘Jp 2∘Jy (h:=by exact Yl.cap rfl rfl kr)∘Jy (h:=by exact Yl.q0 aB (j:=0) rfl rfl rfl om)∘Jp 1) fun a Z HM=>?_
  refine fo Z 5 rfl rfl ?_
  refine qmf Z HM (kn:= .i64) (m:=n) rfl aB kr rfl rfl om om om rfl de ?_
  clear Z HM;intro a Ew g22 uG Z HM hc22
  refine Jb Z HM ((Jp 1∘Jl∘Jy (h:=by exact Yl.q0 aB (j:=0) rfl rfl rfl om)∘Jp 1∘aI∘Jq) fun a Z HM=>?_)
  replace HM:=(HM.shrink (i:=0) (k:=0) rfl (Nat.zero_le _) (fun h=>by cases h)).eY (i:=0) (ys:=[]) rfl (by simp)
  exact Jb Z HM ((JG∘JP∘Jp 2∘aR∘Jj∘JZ∘bB) fun HM=>by exact ⟨⟨_,_,rfl,HM.own (i:=0) rfl⟩,HM.below⟩)
 exact (JF∘aF∘JP∘Jp 2∘aR∘Jj∘JZ∘bB) fun HM=>by exact ⟨⟨_,_,rfl,World.ownsRow_nil _ _ _ _⟩,HM.below⟩
theorem qt2 (A:Option Addr) (n c:Nat) (ps:List Part) (w:World) (hr:Rd w w.heap.size 1 A n (ps.map Part.val)) (hln:ps.length=n) (hn:n≤1000000) (hps:∀p∈ps,Rd w w.heap.size 1 p.A p.l.length (p.l.map B8)) (htot:(ps.flatMap (·.l)).length≤1000000000000):
    Calls Tryz.prog 229 #[.slice A n c] w (zh w (ps.flatMap (·.l))):=by
 refine (dh Tryz.func229 36) ?_
 refine (JP∘Jp 1∘Jr∘Jp 1∘Jj∘JQ∘JP∘Jp 1∘Jl∘Jp 1∘Jj∘JB) fun a Z HM=>?_
 refine qc (fun mS aS wS=>∃(k:Nat),(k≤n)∧mS=n-k∧Fr aS 36 [] [(11,vI k),(10,vI n),(9,.slice A n c),(3,vI (((ps.take k).flatMap (·.l)).length)),(2,vN),(0,.slice A n c)]∧Mem w wS []) (m:=n-0) ⟨0,Nat.zero_le _,rfl,Z.sub kr,HM.pk []⟩ ?_
 clear Z HM;rintro mS a w_ ⟨k,hk,rfl,Z,HM⟩
 have hpk:=Ec (l:=ps) k
 have adL:=Ec (l:=ps) (k+1)
 refine Jb Z HM ((JP∘Jp 1∘Jj∘JQ) (Ju (fun fP=>?_) fun fP=>?_))
 ·
  intro a Z HM
  have lM:=of_decide_eq_true fP
  have adM:k<n:=by omega
  refine Jb Z HM ((JT∘aF∘JQ∘JB∘JP) ?_)
  repeat (first|clear Z|clear HM)
  intro a Z HM
  obtain ⟨gA,oA,rfl,_⟩:=hr.qm (Nat.lt_of_le_of_lt (Nat.zero_le _) (show k<n from by omega)) de
  refine Jb Z HM ((Jy (h:=by exact Yl.ix gA oA k 1 rfl rfl rfl)∘Jy (v:= .slice ((ps.getD k (⟨none,0,[]⟩:Part)).A) ((ps.getD k (⟨none,0,[]⟩:Part)).l.length) ((ps.getD k (⟨none,0,[]⟩:Part)).c)) (h:=by exact Yl.qn rfl rfl kr (fun _ h=>(h.old hr).uD (k:=k) (lW (F:=Part.val) (k:=k) (x:=(ps.getD k (⟨none,0,[]⟩:Part))) ((getD_at (⟨none,0,[]⟩:Part) (k:=k) (by first|omega|(simp;omega)))))))∘Jp 1∘aY∘Jr∘Jp 2∘Jl∘Jp 1∘Jo (vI (((ps.take (k+1)).flatMap (·.l)).length)) (by exact zq (by rw [Eb (d:=(⟨none,0,[]⟩:Part)) om,List.length_append];omega) (by have:=Ec (l:=ps) (k+1);omega))∘Jp 1∘dR∘Jr∘Jp 2∘aR∘Jj) (Ju (fun fG=>?_) fun fG=>?_))
  ·
   intro a Z HM
   have zN:=of_decide_eq_true fG
   omega
  intro a Z HM
  have zN:=of_decide_eq_false fG
  refine Jb Z HM ((JF∘aF∘JR∘cK 1∘Jp 1∘aR∘Jq) fun a Z HM=>?_)
  exact ⟨_,om,k+1,by omega,rfl,Z.sub kr,HM.pk []⟩
 intro a Z HM
 have lM:=of_decide_eq_false fP
 revert HM;revert a;repeat (first|clear Z|clear HM)
 intro a Z HM
 obtain rfl:n=k:=by omega
 refine Jb Z HM ((JF∘JX∘JG∘JP∘Jp 1∘JL (h:=by exact fun HM=>q1r _ om _)) ?_)
 rintro HM _ ES ⟨⟨zO,c24,rfl,ho⟩,hbw⟩
 refine ⟨_,rfl,_,HM.aQ hbw ho,?_⟩
 refine (Jp 1∘aY∘Jj∘JQ∘JP∘Jp 1∘Jl∘Jp 1∘Jj∘JB) fun a Z HM=>?_
 refine qc (fun mS aS wS=>∃(k:Nat) (Ak:Option Addr) (ck:Nat),(k≤n)∧(((ps.take k).flatMap (·.l)).length≤ck)∧mS=n-k∧Fr aS 36 [] [(27,vI k),(26,vI n),(25,.slice A n c),(6,.slice Ak (((ps.take k).flatMap (·.l)).length) ck),(12,.bool false),(11,vI n),(10,vI n),(9,.slice A n c),(3,vI (((ps.take n).flatMap (·.l)).length)),(2,vN),(0,.slice A n c)]∧Mem w wS [.row (.slice Ak (((ps.take k).flatMap (·.l)).length) ck) (((ps.take k).flatMap (·.l)).length) (((ps.take k).flatMap (·.l)).map B8) 5 1]) (m:=n-0) ⟨0,zO,c24,Nat.zero_le _,Nat.zero_le _,rfl,Z.sub kr,HM.pk [0]⟩ ?_
 clear Z HM;rintro mS a w_ ⟨k,Ak,ck,hk,hck,rfl,Z,HM⟩
 refine Jb Z HM ((JP∘Jp 1∘Jj∘JQ) (Ju (fun fu=>?_) fun fu=>?_))
 ·
  intro a Z HM
  have hd28:=of_decide_eq_true fu
  have adN:k<n:=by omega
  refine Jb Z HM ((JT∘aF∘JQ∘JB∘JP) ?_)
  repeat (first|clear Z|clear HM)
  intro a Z HM
  obtain ⟨gA,oA,rfl,_⟩:=hr.qm (Nat.lt_of_le_of_lt (Nat.zero_le _) (show k<n from by omega)) de
  refine Jb Z HM ((Jy (h:=by exact Yl.ix gA oA k 1 rfl rfl rfl)∘Jy (v:= .slice ((ps.getD k (⟨none,0,[]⟩:Part)).A) ((ps.getD k (⟨none,0,[]⟩:Part)).l.length) ((ps.getD k (⟨none,0,[]⟩:Part)).c)) (h:=by exact Yl.qn rfl rfl kr (fun _ h=>(h.old hr).uD (k:=k) (lW (F:=Part.val) (k:=k) (x:=(ps.getD k (⟨none,0,[]⟩:Part))) ((getD_at (⟨none,0,[]⟩:Part) (k:=k) (by first|omega|(simp;omega)))))))∘Jp 1∘aY∘Jj∘JR∘Jp 2∘JD ((ps.getD k (⟨none,0,[]⟩:Part)).l.map B8) 0 (fun _ _=>aZ) aB (hr:=by exact fun HM=>HM.old (hps _ (q7 _ om))) (h1:=by exact zk _) (hb:=by have:=Ec (l:=ps) (k+1);rw [Eb (d:=(⟨none,0,[]⟩:Part)) om,List.length_append] at this;omega) (h63:=by have:=Ec (l:=ps) (k+1);rw [Eb (d:=(⟨none,0,[]⟩:Part)) om,List.length_append] at this;omega)) fun Ey jh iZ kH=>(Jp 1∘bT∘Jq) fun a Z HM=>?_)
  have jM:((ps.take k).flatMap (·.l)).length+(ps.getD k (⟨none,0,[]⟩:Part)).l.length=((ps.take (k+1)).flatMap (·.l)).length:=by rw [Eb (d:=(⟨none,0,[]⟩:Part)) om,List.length_append]
  replace HM:=HM.aV (i:=0) (ys:=((ps.take (k+1)).flatMap (·.l)).map B8) rfl jM (by rw [Eb (d:=(⟨none,0,[]⟩:Part)) om,List.map_append])
  rw [jM] at kH
  replace Z:=Z.sp 6 (.slice jh (((ps.take (k+1)).flatMap (·.l)).length) iZ) rfl (by rw [jM])
  refine Jb Z HM ((JG∘JR∘cK 1∘Jp 1∘aR∘Jq) fun a Z HM=>?_)
  exact ⟨_,om,k+1,jh,iZ,by omega,kH,rfl,Z.sub kr,HM.pk [0]⟩
 intro a Z HM
 have hd28:=of_decide_eq_false fu
 revert HM;revert a;repeat (first|clear Z|clear HM)
 intro a Z HM
 obtain rfl:n=k:=by omega
 exact Jb Z HM ((JF∘JX∘JG∘JP∘Jp 2∘aR∘Jj∘JZ∘bB) fun HM=>Tg (HM.own (i:=0) rfl) hck (by rw [List.take_of_length_le om]) (by rw [List.take_of_length_le om]) HM.below)
theorem qok {a b:List Ev} {k:Nat} (h:a.take k=b.take k) (ha:k<a.length) (hb:k<b.length) (he:a.getD k Ev.zero=b.getD k Ev.zero):a.take (k+1)=b.take (k+1):=by
 rw [List.take_add_one,List.take_add_one,getD_at Ev.zero ha,getD_at Ev.zero hb,h,he]
theorem qq0 {a b:List Ev} {k:Nat} (h:a.take k=b.take k) (ha:a.length≤k) (hb:b.length≤k):a=b:=by
 rwa [List.take_of_length_le ha,List.take_of_length_le hb] at h
theorem qxk (A A2:Option Addr) (n m c c2:Nat) (es gs:List Ev) (w:World) (hr:Rd w w.heap.size 11 A n (es.flatMap aN)) (hr2:Rd w w.heap.size 11 A2 m (gs.flatMap aN)) (hla:es.length=n) (hlb:gs.length=m) (hn:n≤1000000000000):
    Calls Tryz.prog 98 #[.slice A n c,.slice A2 m c2] w (Is w (.bool (decide (es=gs)))):=by
 refine (iG Tryz.func98 26) ?_
 refine (JP∘Jp 1∘Jj∘JQ∘JP∘Jp 1∘Jl∘Jp 1∘Jl∘Jp 1∘dR∘Jj) (Jh (fun iB=>?_) fun iB=>?_)
 ·
  exact (JT∘JP∘Jp 1∘Jj∘JZ∘bB) fun HM=>by exact ⟨by rw [decide_eq_false (fun h=>by rw [h] at hla;omega)],HM.below⟩
 refine (JF∘aF∘JQ∘JP∘Jp 1∘Jl∘Jp 1∘Jj∘JB) fun a Z HM=>?_
 refine qc (fun mS aS wS=>∃(k:Nat),(k≤n)∧(es.take k=gs.take k)∧mS=n-k∧Fr aS 26 [] [(13,vI k),(12,vI n),(10,.bool false),(4,.bool false),(0,.slice A n c),(1,.slice A2 m c2)]∧Mem w wS []) (m:=n-0) ⟨0,Nat.zero_le _,rfl,rfl,Z.sub kr,HM.pk []⟩ ?_
 clear Z HM;rintro mS a w_ ⟨k,hk,heq,rfl,Z,HM⟩
 refine Jb Z HM ((JP∘Jp 1∘Jj∘JQ) (Ju (fun jN=>?_) fun jN=>?_))
 ·
  intro a Z HM
  have gG:=of_decide_eq_true jN
  have adR:k<n:=by omega
  refine Jb Z HM ((JT∘aF∘JQ∘JB∘JP∘Jp 2∘aR∘Jj) fun a Z HM=>?_)
  refine wp_seq ?_
  refine Jb Z HM ((Vs .n []) fun ET=>(Vp [0,1,4,5]) ?_)
  repeat (first|clear Z|clear HM|clear HS)
  intro a Z HM HS
  obtain ⟨gA,oA,rfl,_⟩:=hr.qm (Nat.lt_of_le_of_lt (Nat.zero_le _) (show k<n from by omega)) de
  refine Vb Z HM HS ((Vy 2 (h:=by exact Yl.ix gA oA k 11 rfl rfl rfl)∘Vy 3 (v:= .agg ((es.getD k Ev.zero).cells)) (h:=by exact Yl.qg rfl rfl ⟨kr,kr⟩ rfl (fun _ h=>(h.old hr).q8 qv ((getD_at Ev.zero (k:=k) (by first|omega|(simp;omega))))))) ?_)
  repeat (first|clear Z|clear HM|clear HS)
  intro a Z HM HS
  obtain ⟨rQ,rR,rfl,_⟩:=hr2.qm (Nat.lt_of_le_of_lt (Nat.zero_le _) (show k<m from by omega)) de
  refine Vb Z HM HS ((Vy 6 (h:=by exact Yl.ix rQ rR k 11 rfl rfl rfl)∘Vy 7 (v:= .agg ((gs.getD k Ev.zero).cells)) (h:=by exact Yl.qg rfl rfl ⟨kr,kr⟩ rfl (fun _ h=>(h.old hr2).q8 qv ((getD_at Ev.zero (k:=k) (by first|omega|(simp;omega))))))∘Vy 8 (v:= .bool (!(decide ((es.getD k Ev.zero)=(gs.getD k Ev.zero))))) (h:=by exact Yl.Un (x:=(es.getD k Ev.zero)) (y:=(gs.getD k Ev.zero)) rfl rfl rfl kr)∘Vd∘aI) (Ju (fun dZ=>?_) fun dZ=>?_))
  ·
   intro a Z HM
   have hd24:=of_decide_eq_false ((Bool.not_eq_true' _).mp dZ)
   exact Jb Z HM ((JT∘JP∘Jp 1∘Jj∘JZ∘bB) fun HM=>by exact ⟨by rw [decide_eq_false (fun h=>by rw [h] at dZ;simp at dZ)],HM.below⟩)
  intro a Z HM
  have hd24:=of_decide_eq_true ((Bool.not_eq_false' _).mp dZ)
  refine Jb Z HM ((JF∘aF∘JR∘cK 1∘Jp 1∘aR∘Jq) fun a Z HM=>?_)
  exact ⟨_,om,k+1,by omega,qok heq om om (by simpa using dZ),rfl,Z.sub kr,HM.pk []⟩
 intro a Z HM
 have gG:=of_decide_eq_false jN
 have hkn:k=n:=by omega
 exact Jb Z HM ((JF∘JX∘JG∘JP∘Jp 1∘Jj∘JZ∘bB) fun HM=>by exact ⟨by rw [decide_eq_true (qq0 heq om om)],HM.below⟩)
theorem qt3 (c:Nat) (hc:c<4294967296) (A:Option Addr) (n cp:Nat) (l:List Nat) (B:Nat) (w:World) (hL:aL B w) (hB:B≤w.heap.size) (hr:Rd w w.heap.size 1 A n (l.map B8)) (hln:l.length=n) (hn:n≤140737488355328) (hl:∀b∈l,b<256):
    Calls Tryz.prog 238 #[vW c,.slice A n cp] w (Is w (vW (qt c l:Int))):=by
 refine (iG Tryz.func238 33) ?_
 refine (JP∘Jp 1∘Jj∘JQ∘JP∘Jp 1∘Jl∘Jp 1∘Jj∘JB) fun a Z HM=>?_
 refine qc (fun mS aS wS=>∃(k:Nat),(k≤n)∧mS=n-k∧Fr aS 33 [] [(9,vI k),(8,vI n),(7,.slice A n cp),(4,vW 0),(0,vW (qt c (l.take k)))]∧Mem w wS []) (m:=n-0) ⟨0,Nat.zero_le _,rfl,Z.sub kr,HM.pk []⟩ ?_
 clear Z HM;rintro mS a w_ ⟨k,hk,rfl,Z,HM⟩
 have hcr:=Er (l.take k) hc (zl hl k)
 refine Jb Z HM ((JP∘Jp 1∘Jj∘JQ) (Ju (fun jF=>?_) fun jF=>?_))
 ·
  intro a Z HM
  have iB:=of_decide_eq_true jF
  refine Jb Z HM ((JT∘aF∘JQ∘JB∘JP) ?_)
  repeat (first|clear Z|clear HM)
  intro a Z HM
  obtain ⟨gA,oA,rfl,_⟩:=hr.qm (Nat.lt_of_le_of_lt (Nat.zero_le _) (show k<n from by omega)) de
  refine Jb Z HM ((Jy (h:=by exact Yl.ix gA oA k 1 rfl rfl rfl)∘JH (getD_lt hl (k:=k) (by first|omega|(simp;omega)))) fun hx1=>(Jy (h:=by exact Yl.o1 hr k 0 (by first|omega|(simp;omega)) rfl rfl)∘Jp 1∘aY∘Jr∘Jp 2∘Jw .u32∘Jp 1∘Jo (vW ((qt c (l.take k))^^^ (l.getD k 0):Nat)) (by exact Ea (m:=qt c (l.take k)) (n:=(l.getD k 0)) om om)∘Jp 1∘dR∘Jq) fun a Z HM=>?_)
  have hy:=Ep hcr (show l.getD k 0<4294967296 by omega)
  refine Jb Z HM ((JG∘JP∘Jp 2∘Jo (vW (((qt c (l.take k))^^^ (l.getD k 0))/16:Nat)) (by exact yI .u32 ((qt c (l.take k))^^^ (l.getD k 0)) (j:=4) (q:=16) rfl rfl)∘Jp 2∘Jo (vW (((qt c (l.take k))^^^ (l.getD k 0))%16:Nat)) (by exact Si (n:=15) (j:=4) rfl de om)∘Jy (v:=vP 1 ((((qt c (l.take k))^^^ (l.getD k 0))%16)*1)) (h:=by exact (Yl.Iw (ad:=⟨1,0,none⟩) (m:=16) (y:=((qt c (l.take k))^^^ (l.getD k 0))%16) (sz:=1) rfl rfl rfl kr om).as (by rw [Addr.add_mid,Nat.zero_add]))∘Jy (v:=vW (pI.getD (((qt c (l.take k))^^^ (l.getD k 0))%16) 0)) (h:=by exact Yl.qn rfl rfl kr (fun _ h=>UG hL h hB (k:=(((qt c (l.take k))^^^ (l.getD k 0))%16)) om))∘Jp 1∘Jo (vW (nJ (qt c (l.take k)^^^l.getD k 0))) (by have h:=Ea (m:=(qt c (l.take k)^^^l.getD k 0)/16) (n:=pI.getD ((qt c (l.take k)^^^l.getD k 0)%16) 0) om (Mi _ om);exact h)∘Jp 1∘aI∘Jq) fun a Z HM=>?_)
  have hz:=q6c hy
  refine Jb Z HM ((JG∘JR∘Jp 2∘Jo (vW ((nJ (qt c (l.take k)^^^l.getD k 0))/16:Nat)) (by exact yI .u32 (nJ (qt c (l.take k)^^^l.getD k 0)) (j:=4) (q:=16) rfl rfl)∘Jp 2∘Jo (vW ((nJ (qt c (l.take k)^^^l.getD k 0))%16:Nat)) (by exact Si (n:=15) (j:=4) rfl de om)∘Jy (v:=vP 1 (((nJ (qt c (l.take k)^^^l.getD k 0))%16)*1)) (h:=by exact (Yl.Iw (ad:=⟨1,0,none⟩) (m:=16) (y:=(nJ (qt c (l.take k)^^^l.getD k 0))%16) (sz:=1) rfl rfl rfl kr om).as (by rw [Addr.add_mid,Nat.zero_add]))∘Jy (v:=vW (pI.getD ((nJ (qt c (l.take k)^^^l.getD k 0))%16) 0)) (h:=by exact Yl.qn rfl rfl kr (fun _ h=>UG hL h hB (k:=((nJ (qt c (l.take k)^^^l.getD k 0))%16)) om))∘Jp 1∘Jo (vW (qt c (l.take (k+1)))) (by have h:=Ea (m:=nJ (qt c (l.take k)^^^l.getD k 0)/16) (n:=pI.getD (nJ (qt c (l.take k)^^^l.getD k 0)%16) 0) om (Mi _ om);rw [Ti om];exact h)∘Jp 1∘aI∘Jj∘JR∘cK 1∘Jp 1∘aR∘Jq) fun a Z HM=>?_)
  exact ⟨_,om,k+1,by omega,rfl,Z.sub kr,HM.pk []⟩
 intro a Z HM
 have iB:=of_decide_eq_false jF
 revert HM;revert a;repeat (first|clear Z|clear HM)
 intro a Z HM
 obtain rfl:n=k:=by omega
 exact Jb Z HM ((JF∘JX∘JG∘JP∘Jp 2∘aR∘Jj∘JZ∘bB) fun HM=>by exact ⟨by rw [List.take_of_length_le om],HM.below⟩)
theorem qt4 (c:Nat) (hc0:c<4294967296) (A:Option Addr) (n cp:Nat) (l:List Nat) (B:Nat) (w:World) (hL:aL B w) (hB:B≤w.heap.size) (hr:Rd w w.heap.size 1 A n (l.map B8)) (hln:l.length=n) (hn:n≤140737488355328) (hl:∀b∈l,b<256):
    Calls Tryz.prog 167 #[vW c,.slice A n cp] w (Is w (vW ((qt (c^^^4294967295) l^^^4294967295:Nat):Int))):=by
 refine (iG Tryz.func167 10) ?_
 refine (JP∘Jp 1∘Jq) fun a Z HM=>?_
 have hc:=Ep hc0 (show 4294967295<4294967296 by decide)
 have hcr:=Er l hc hl
 exact Jb Z HM ((JG∘JP∘Jp 1∘Jy (v:=vW (c^^^4294967295:Nat)) (h:=by exact Yl.Sn (m:=c) rfl rfl om)∘Jp 1∘JI (h:=by exact fun HM=>qt3 _ hc _ _ _ l B _ (hL.mem HM hB) (HM.le hB) (HM.old hr) hln hn hl)) fun w8 hbw=>(Jy (v:=vW ((qt (c^^^4294967295) l)^^^4294967295:Nat)) (h:=by exact Yl.Sn (m:=qt (c^^^4294967295) l) rfl rfl om)∘Jp 1∘fJ∘Jj∘JZ) iX)
theorem UJ (A:Option Addr) (n cp:Nat) (l:List Nat) (B:Nat) (w:World) (hL:aL B w) (hB:B≤w.heap.size) (hr:Rd w w.heap.size 1 A n (l.map B8)) (hln:l.length=n) (hn:n≤140737488355328) (hl:∀b∈l,b<256):
    Calls Tryz.prog 108 #[.slice A n cp] w (Is w (vW (qo l:Int))):=by
 refine (dh Tryz.func108 5) ?_
 refine (JP∘Jp 1∘Jr∘Jp 1∘JL (h:=by exact fun HM=>qt4 0 de _ _ _ l B _ (hL.mem HM hB) (HM.le hB) (HM.old hr) hln hn hl)) ?_
 rintro HM _ w4 ⟨rfl,hbw⟩
 rw [show (qt (0^^^4294967295) l^^^4294967295:Nat)=qo l from q0u (Er l de hl)]
 refine ⟨_,rfl,_,HM.call hbw,?_⟩
 exact (Jp 1∘aY∘Jj∘JZ) iX
theorem q4r {w w':World} {l:List Nat} {n c:Nat} {A:Option Addr} (hln:l.length=n) (ho:w'.ownsRow w.heap.size 5 1 (.slice A (0+n+4) c) (0+n+4) ([]++l.map B8++(mD (qo l)).map B8)) (hc:0+n+4≤c) (hb:Below w.heap.size w w'):za w 0 (bI l) (.returned (.tuple #[.slice A (0+n+4) c,vI 0])) w':=by
 have e:0+n+4=(bI l).length:=by rw [IC];omega
 rw [e] at ho hc⊢
 refine ⟨⟨A,c,rfl,?_,hc⟩,hb⟩
 have e2:([]++l.map B8++(mD (qo l)).map B8)=(bI l).map B8:=by simp [bI]
 rw [e2] at ho
 exact ho
theorem q1s (A:Option Addr) (n cp:Nat) (l:List Nat) (B:Nat) (w:World) (hL:aL B w) (hB:B≤w.heap.size) (hr:Rd w w.heap.size 1 A n (l.map B8)) (hln:l.length=n) (hn:n≤16777216) (hl:∀b∈l,b<256):
    Calls Tryz.prog 48 #[.slice A n cp] w (za w 0 (bI l)):=by
 refine (dh Tryz.func48 31) ?_
 refine (JP∘Jp 2∘Jj∘JQ∘JP∘Jp 1∘Jl∘Jp 1∘aY∘Jj) (Ju (fun jO=>?_) fun jO=>?_)
 ·
  intro a Z HM
  have pR:=of_decide_eq_true jO
  omega
 intro a Z HM
 have pR:=of_decide_eq_false jO
 refine Jb Z HM ((JF∘aF∘JP∘Jp 1∘JI (h:=by exact fun HM=>UJ _ _ _ l B _ (hL.mem HM hB) (HM.le hB) (HM.old hr) (hln) om (hl))) fun rE hbw=>(Jp 1∘aY∘Jq) fun a Z HM=>?_)
 have hcs:=Mk l
 refine Jb Z HM ((JG∘JP∘Jp 1∘Jl∘cK 4) fun a Z HM=>?_)
 refine fo Z 3 rfl rfl ?_
 refine R7 Z HM (m:=(n+4)) rfl aB rfl rfl om om rfl de ?_
 clear Z HM;intro a Cy g14 Z HM
 exact Jb Z HM ((Jp 1∘JD (l.map B8) 0 (fun _ _=>aZ) aB (hr:=by exact fun HM=>HM.old hr) (h1:=by exact zk _)) fun w16 xq c16 hc16=>(Jp 1∘aI∘Jr∘Jp 2∘Jv 1 [(19,vB (IntKind.u8.wrap (qo l:Int)))]∘Jo (vB ((qo l)%256:Nat)) (by exact kR (qo l))∘Jp 2∘Jo (vW ((qo l)/256:Nat)) (by exact yI .u32 (qo l) (j:=8) (q:=256) rfl rfl)∘Jv 1 [(22,vB (IntKind.u8.wrap (((qo l)/256:Nat):Int)))]∘Jo (vB (((qo l)/256)%256:Nat)) (by exact kR ((qo l)/256))∘Jp 2∘Jo (vW ((qo l)/65536:Nat)) (by exact yI .u32 (qo l) (j:=16) (q:=65536) rfl rfl)∘Jv 1 [(25,vB (IntKind.u8.wrap (((qo l)/65536:Nat):Int)))]∘Jo (vB (((qo l)/65536)%256:Nat)) (by exact kR ((qo l)/65536))∘Jp 2∘Jo (vW ((qo l)/16777216:Nat)) (by exact yI .u32 (qo l) (j:=24) (q:=16777216) rfl rfl)∘Jv 1 [(28,vB (IntKind.u8.wrap (((qo l)/16777216:Nat):Int)))]∘Jo (vB (((qo l)/16777216)%256:Nat)) (by exact kR ((qo l)/16777216))∘JU aB #[vB ((qo l)%256:Nat),vB (((qo l)/256)%256:Nat),vB (((qo l)/65536)%256:Nat),vB (((qo l)/16777216)%256:Nat)]) fun EU g29=>(JD ((mD (qo l)).map B8) 1 (fun _ _=>dO) aB (hr:=by exact fun HM=>HM.aU (i:=0) (n:=4) (size:=1) rfl rfl) (h1:=by exact zk _)) fun I8 xu xw mJ=>(Jp 2∘Jj∘JZ∘JM (.f .n)∘bY) fun HM=>q4r hln (HM.own (i:=0) rfl) mJ HM.below)
theorem qt5 {l:List Nat} {n:Nat} (hln:l.length=n) (h:4≤n):(((qo (l.take (n-4)):Nat):Int)==((l.getD (n-4) 0+l.getD (n-4+1) 0*256+l.getD (n-4+2) 0*65536+l.getD (n-4+3) 0*16777216:Nat):Int))=mE l:=by
 subst hln
 have hd:∀i,(l.drop (l.length-4)).getD i 0=l.getD (l.length-4+i) 0:=fun i=>by rw [List.getD_eq_getElem?_getD,List.getElem?_drop,←List.getD_eq_getElem?_getD]
 unfold mE dS
 rw [hd,hd,hd,hd,Bool.eq_iff_iff,beq_iff_eq,decide_eq_true_eq]
 simp only [Nat.add_zero]
 constructor
 ·intro h1;exact ⟨h,by omega⟩
 ·intro h1;have:=h1.2;omega
theorem UK {l:List Nat} {n:Nat} (hln:l.length=n) (h:n<4):mE l=false:=by unfold mE;rw [decide_eq_false];omega
def gZ (l:List Nat):Nat→Nat
 |0=>0
 |k+1=>gZ l k*256+l.getD (3-k) 0
theorem UL (l:List Nat):gZ l 4=dS l:=by simp [gZ,dS];omega
theorem UM {l:List Nat} (hl:∀b∈l,b<256) (hn:4≤l.length):∀k,k≤4→gZ l k<256^k
 |0,_=>by show 0<1;decide
 |k+1,h=>by
  have h1:=UM hl hn k om
  have h2:=getD_lt hl (k:=3-k) om
  rw [gZ,Nat.pow_succ]
  omega
theorem qq1 {l:List Nat} (hl:∀b∈l,b<256) (hn:4≤l.length) {k:Nat} (h:k≤4):gZ l k<4294967296:=by
 have h1:=UM hl hn k h
 have h2:(256:Nat)^k≤256^4:=Nat.pow_le_pow_right de h
 omega
theorem qt6 (A:Option Addr) (n cp:Nat) (l:List Nat) (B:Nat) (w:World) (hL:aL B w) (hB:B≤w.heap.size) (hr:Rd w w.heap.size 1 A n (l.map B8)) (hc:n≤cp) (hln:l.length=n) (hn:n≤140737488355328) (hl:∀b∈l,b<256):
    Calls Tryz.prog 53 #[.slice A n cp] w (Is w (.bool (mE l))):=by
 refine (dh Tryz.func53 43) ?_
 refine (JP∘Jp 1∘Jr∘Jp 1∘Jl∘Jp 1∘Jo (vI ((n:Int)-4)) (by exact oH ⟨by omega,by omega⟩)∘Jp 1∘bT∘Jj∘JQ∘JP∘Jp 2∘aR∘Jj) (Ju (fun jO=>?_) fun jO=>?_)
 ·
  intro a Z HM
  have pR:=of_decide_eq_true jO
  exact Jb Z HM ((JT∘JP∘Jp 1∘Jj∘JZ∘bB) fun HM=>by exact ⟨by rw [UK hln om],HM.below⟩)
 intro a Z HM
 have pR:=of_decide_eq_false jO
 replace Z:=Z.sp 3 (vI ((n-4:Nat):Int)) rfl (by congr 1;omega)
 refine Jb Z HM ((JF∘aF) fun a Z HM=>?_)
 refine wp_seq ?_
 refine Jb Z HM ((Vs .n []) fun wd4=>(Vp [0,1,4,5,9,10,17,18,25,26]∘Vy 2 (h:=by exact Yl.q0 aB (j:=n-4) rfl rfl rfl om)) ?_)
 repeat (first|clear Z|clear HM|clear HS)
 intro a Z HM HS
 obtain ⟨gA,oA,rfl,_⟩:=hr.qm (Nat.lt_of_le_of_lt (Nat.zero_le _) (show n-4<n from by omega)) de
 exact Vb Z HM HS ((Vy 6 (h:=by exact Yl.ix gA oA (n-4) 1 rfl rfl rfl)∘VH (getD_lt hl (k:=(n-4)) (by first|omega|(simp;omega)))) fun M7=>(Vy 7 (h:=by exact Yl.o1 hr (n-4) 0 (by first|omega|(simp;omega)) rfl rfl)∘Vw 8 .u32∘L6 11 1∘Vy 12 (h:=by exact Yl.ix gA oA ((n-4)+1) 1 rfl rfl rfl)∘VH (getD_lt hl (k:=((n-4)+1)) (by first|omega|(simp;omega)))) fun M8=>(Vy 13 (h:=by exact Yl.o1 hr ((n-4)+1) 0 (by first|omega|(simp;omega)) rfl rfl)∘Vw 14 .u32∘Vp [15]∘Vo (vW ((l.getD ((n-4)+1) 0)*256:Nat)) (by exact Ci (by rw [show (2:Int)^ (min (8:Int).toNat (IntKind.u32).bits)=256 from rfl];omega) om)∘Vp [16]∘Vo (vW (l.getD (n-4) 0+l.getD (n-4+1) 0*256:Nat)) (by exact LX (m:=l.getD (n-4) 0) (n:=l.getD (n-4+1) 0) (j:=8) (p:=256) rfl om om)∘L6 19 2∘Vy 20 (h:=by exact Yl.ix gA oA ((n-4)+2) 1 rfl rfl rfl)∘VH (getD_lt hl (k:=((n-4)+2)) (by first|omega|(simp;omega)))) fun M9=>(Vy 21 (h:=by exact Yl.o1 hr ((n-4)+2) 0 (by first|omega|(simp;omega)) rfl rfl)∘Vw 22 .u32∘Vp [23]∘Vo (vW ((l.getD ((n-4)+2) 0)*65536:Nat)) (by exact Ci (by rw [show (2:Int)^ (min (16:Int).toNat (IntKind.u32).bits)=65536 from rfl];omega) om)∘Vp [24]∘Vo (vW (l.getD (n-4) 0+l.getD (n-4+1) 0*256+l.getD (n-4+2) 0*65536:Nat)) (by exact LX (m:=l.getD (n-4) 0+l.getD (n-4+1) 0*256) (n:=l.getD (n-4+2) 0) (j:=16) (p:=65536) rfl om om)∘L6 27 3∘Vy 28 (h:=by exact Yl.ix gA oA ((n-4)+3) 1 rfl rfl rfl)∘VH (getD_lt hl (k:=((n-4)+3)) (by first|omega|(simp;omega)))) fun EW=>(Vy 29 (h:=by exact Yl.o1 hr ((n-4)+3) 0 (by first|omega|(simp;omega)) rfl rfl)∘Vw 30 .u32∘Vp [31]∘Vo (vW ((l.getD ((n-4)+3) 0)*16777216:Nat)) (by exact Ci (by rw [show (2:Int)^ (min (24:Int).toNat (IntKind.u32).bits)=16777216 from rfl];omega) om)∘Vp [32]∘Vo (vW (l.getD (n-4) 0+l.getD (n-4+1) 0*256+l.getD (n-4+2) 0*65536+l.getD (n-4+3) 0*16777216:Nat)) (by exact LX (m:=l.getD (n-4) 0+l.getD (n-4+1) 0*256+l.getD (n-4+2) 0*65536) (n:=l.getD (n-4+3) 0) (j:=24) (p:=16777216) rfl om om)∘VI 3 .n (h:=by exact fun HM=>UJ _ _ _ (l.take (n-4)) B _ (hL.mem HM hB) (HM.le hB) ((HM.old hr).mh om) (by rw [List.length_take];omega) om (zl hl _))) fun Cx hbw=>(Vp [33,34]∘Vd∘aI∘JZ∘bB) fun HM=>by exact ⟨by rw [qt5 hln om],HM.below⟩)
theorem uH {w w':World} {l:List Nat} {n e:Nat} (h:aC l=(n,e)) (hb:Below w.heap.size w w'):Is w (.tuple #[vI ((aC l).1:Int),vI ((aC l).2:Int)]) (.returned (.tuple #[vI n,vI e])) w':=by rw [h];exact ⟨rfl,hb⟩
theorem qt7 (A:Option Addr) (n cp:Nat) (l:List Nat) (w:World) (hr:Rd w w.heap.size 1 A n (l.map B8)) (hln:l.length=n) (hn:n≤9223372036854775807) (hl:∀b∈l,b<256):
    Calls Tryz.prog 181 #[.slice A n cp] w (Is w (.tuple #[vI ((aC l).1:Int),vI ((aC l).2:Int)])):=by
 refine (dh Tryz.func181 34) ?_
 refine (JP∘Jp 2∘Jj∘JQ∘JP∘Jp 1∘Jl∘Jp 1∘aY∘Jj) (Ji (fun pR=>?_) fun pR=>?_)
 ·
  exact (JT∘JP∘Jp 2∘Jj∘JZ∘bY) fun HM=>uH (by unfold aC;rw [if_pos om]) HM.below
 refine (JF∘aF∘JP∘Jp 1∘Jj∘JQ∘JP∘Jp 1∘Jj∘JB) fun a Z HM=>?_
 refine qc (fun mS aS wS=>∃(k:Nat),(k≤4)∧mS=4-k∧Fr aS 34 [] [(5,vI (3- (k:Int))),(4,vI (gZ l k)),(8,.bool false),(3,vI 0),(2,vI 0),(0,.slice A n cp)]∧Mem w wS []) (m:=4-0) ⟨0,Nat.zero_le _,rfl,Z.sub kr,HM.pk []⟩ ?_
 clear Z HM;rintro mS a w_ ⟨k,hk,rfl,Z,HM⟩
 have hu:=qq1 hl om hk
 refine Jb Z HM ((JQ∘JP∘Jp 2∘aR∘Jj) (Ju (fun jF=>?_) fun jF=>?_))
 ·
  intro a Z HM
  have iB:=of_decide_eq_true jF
  have hk3:k≤3:=by omega
  refine Jb Z HM ((JT∘aF∘JQ∘JB∘JR∘Jp 2∘Jo (vI ((gZ l k)*256:Nat)) (by exact zq (by rw [show (2:Int)^ (min (8:Int).toNat (IntKind.i64).bits)=256 from rfl];omega) om)∘Jp 2∘Jo (vI (3-k:Nat)) (by congr 1;omega)) ?_)
  repeat (first|clear Z|clear HM)
  intro a Z HM
  obtain ⟨gA,oA,rfl,_⟩:=hr.qm (Nat.lt_of_le_of_lt (Nat.zero_le _) (show 3-k<n from by omega)) de
  refine Jb Z HM ((Jy (h:=by exact Yl.ix gA oA (3-k) 1 rfl rfl rfl)∘JH (getD_lt hl (k:=(3-k)) (by first|omega|(simp;omega)))) fun hx1=>(Jy (h:=by exact Yl.o1 hr (3-k) 0 (by first|omega|(simp;omega)) rfl rfl)∘Jw .i64∘Jp 1∘Jo (vI (gZ l (k+1))) (by have h:=q0p (m:=gZ l k) (n:=l.getD (3-k) 0) (j:=8) (p:=256) rfl om om;exact h)∘Jp 1∘aI∘Jj∘JR∘Jp 2∘Jo (vI (3- ((k+1:Nat):Int))) (by rw [IntWalk.i64_in _ om];congr 1;omega)∘Jp 1∘aY∘Jq) fun a Z HM=>?_)
  exact ⟨_,om,k+1,by omega,rfl,Z.sub kr,HM.pk []⟩
 intro a Z HM
 have iB:=of_decide_eq_false jF
 revert HM;revert a;repeat (first|clear Z|clear HM)
 intro a Z HM
 obtain rfl:k=4:=by omega
 replace Z:=Z.sp 4 (vI (dS l:Int)) rfl (by rw [UL])
 rw [UL] at hu
 refine Jb Z HM ((JF∘JX∘JG∘JQ∘JB∘JP∘Jp 3) (Ji (fun hd24=>?_) fun hd24=>?_))
 ·
  exact (Jp 4∘aI∘Jj∘JT∘JP∘Jp 2∘Jj∘JZ∘bY) fun HM=>uH (by unfold aC;rw [if_neg om,if_pos om]) HM.below
 refine (Jp 4∘aI∘Jj) (Ji (fun gF=>?_) fun gF=>?_)
 ·
  exact (JT∘JP∘Jp 2∘Jj∘JZ∘bY) fun HM=>uH (by unfold aC;rw [if_neg om,if_pos om]) HM.below
 refine (JF∘JP∘Jp 2∘Jl∘Jp 2∘dR∘Jj) (Ji (fun hd28=>?_) fun hd28=>?_)
 ·
  exact (JT∘JP∘Jp 2∘Jj∘JZ∘bY) fun HM=>uH (by unfold aC;rw [if_neg om,if_neg om,if_pos om]) HM.below
 exact (JF∘aF∘JP∘Jp 3∘Jj∘JZ∘bY) fun HM=>uH (by unfold aC;rw [if_neg om,if_neg om,if_neg om]) HM.below
theorem qxl (g:Nat) (b:Bk) (hok:b.Ok) (A:Option Addr) (c B:Nat) (w:World) (hL:aL B w) (hB:B≤w.heap.size) (hr:Rd w w.heap.size 11 A b.evs.length (b.evs.flatMap aN)) (hn:b.evs.length≤1000000) (hb:w.heap[g]?=some (.cells (b.cells A c) 85 (0,0))):
    Calls Tryz.prog 225 #[vP g 0] w (Is w (.bool b.qc6)):=by
 refine (dh Tryz.func225 47) ?_
 refine (JP∘Jp 1∘Jj∘JQ∘JP∘Jf 4∘Jy (v:= .slice A b.evs.length c) (h:=by exact Yl.qn rfl rfl kr (fun _ h=>h.qy hb rfl))∘JI (h:=by exact fun HM=>TQ A b.evs.length c b.evs hok.evs B _ (hL.mem HM hB).laid (HM.le hB) (HM.old hr) om (i:=(bL b.evs).1) (er:=(bL b.evs).2) rfl)) fun w7 hbw=>(Jp 1∘Jx∘Jx∘Jp 2∘aI∘Jr∘Jp 3) (Jh (fun lM=>?_) fun lM=>?_)
 ·
  exact (Jv 19 [(31,.bool true)]∘fJ∘Jj∘JT∘JP∘Jp 1∘Jj∘JZ∘bB) fun HM=>by exact ⟨by rw [show b.qc6=false from decide_eq_false om],HM.below⟩
 refine (Jf 1∘Jy (v:=vB b.cpu) (h:=by exact Yl.qn rfl rfl kr (fun _ h=>h.qy hb rfl))∘Jp 3) (Ji (fun fK=>?_) fun fK=>?_)
 ·
  exact (Jv 14 [(31,.bool true)]∘aI∘Jj∘JT∘JP∘Jp 1∘Jj∘JZ∘bB) fun HM=>by exact ⟨by rw [show b.qc6=false from decide_eq_false om],HM.below⟩
 refine (Jf 2∘Jy (v:=vI b.lost) (h:=by exact Yl.qn rfl rfl kr (fun _ h=>h.qy hb rfl))∘Jp 3) (Ji (fun lF=>?_) fun lF=>?_)
 ·
  exact (Jv 9 [(31,.bool true)]∘aI∘Jj∘JT∘JP∘Jp 1∘Jj∘JZ∘bB) fun HM=>by exact ⟨by rw [show b.qc6=false from decide_eq_false om],HM.below⟩
 refine (Jf 2∘Jy (v:=vI b.lost) (h:=by exact Yl.qn rfl rfl kr (fun _ h=>h.qy hb rfl))∘Jp 3) (Ji (fun hd27=>?_) fun hd27=>?_)
 ·
  exact (Jp 4∘aI∘Jj∘JT∘JP∘Jp 1∘Jj∘JZ∘bB) fun HM=>by exact ⟨by rw [show b.qc6=false from decide_eq_false om],HM.below⟩
 refine (Jf 3∘Jy (v:=vI b.next) (h:=by exact Yl.qn rfl rfl kr (fun _ h=>h.qy hb rfl))∘Jp 2∘aI∘Jj) (Jh (fun hd31=>?_) fun hd31=>?_)
 ·
  exact (JT∘JP∘Jp 1∘Jj∘JZ∘bB) fun HM=>by exact ⟨by rw [show b.qc6=false from decide_eq_false om],HM.below⟩
 refine (JF∘aF∘JQ∘JP∘Jf 4∘Jy (v:= .slice A b.evs.length c) (h:=by exact Yl.qn rfl rfl kr (fun _ h=>h.qy hb rfl))∘Jl∘Jp 1∘bT∘Jj) (Je (fun lN=>?_) fun lN=>?_)
 ·
  exact (JT∘JP∘Jf 2∘Jy (v:=vI b.lost) (h:=by exact Yl.qn rfl rfl kr (fun _ h=>h.qy hb rfl))∘Jp 2∘bT∘Jj∘JZ∘bB) fun HM=>by exact ⟨by rw [Bool.eq_iff_iff.2 (show (decide ((b.lost:Int)>(0:Int)))=true↔b.qc6=true by unfold Bk.qc6;rw [MX om];simp only [decide_eq_true_eq,beq_iff_eq];omega)],HM.below⟩
 refine (JF∘aF) fun a Z HM=>?_
 refine wp_seq ?_
 refine Jb Z HM ((Vs .n []) fun ET=>(Vf 0 4∘Vf 5 1∘Vy 1 (v:= .slice A b.evs.length c) (h:=by exact Yl.qn rfl rfl kr (fun _ h=>h.qy hb rfl))) ?_)
 repeat (first|clear Z|clear HM|clear HS)
 intro a Z HM HS
 obtain ⟨gA,oA,rfl,_⟩:=hr.qm (Nat.lt_of_le_of_lt (Nat.zero_le _) (show 0<b.evs.length from by omega)) de
 exact Vb Z HM HS ((Vy 2 (v:=vP gA oA) (h:=by exact Yl.indexAddr (ad:=⟨gA,oA,none⟩) (y:=0) (sz:=11) rfl rfl rfl om kr)∘Vf 3 2∘Vy 4 (v:=vB ((b.evs.getD 0 Ev.zero).cpu)) (h:=by exact Yl.qn rfl rfl kr (fun _ h=>(h.old hr).partAt qv (k:=0) (j:=2) (x:=(b.evs.getD 0 Ev.zero)) ((getD_at Ev.zero (k:=0) (by first|omega|(simp;omega)))) rfl))∘Vy 6 (v:=vB b.cpu) (h:=by exact Yl.qn rfl rfl kr (fun _ h=>h.qy hb rfl))∘Vp [7,8]∘Vd∘aI∘JZ∘bB) fun HM=>by exact ⟨by rw [Bool.eq_iff_iff.2 (show (((b.evs.getD 0 Ev.zero).cpu:Int)==(b.cpu:Int))=true↔b.qc6=true by unfold Bk.qc6;rw [UH om];simp only [decide_eq_true_eq,beq_iff_eq];omega)],HM.below⟩)
theorem qxm (g:Nat) (b:Bk) (A:Option Addr) (c:Nat) (w:World) (hb:w.heap[g]?=some (.cells (b.cells A c) 85 (0,0))):
    Calls Tryz.prog 226 #[vP g 0] w (Is w (.bool b.pO)):=by
 refine (dh Tryz.func226 26) ?_
 refine (JP∘Jp 1∘Jr∘Jf 3∘Jy (v:=vI b.next) (h:=by exact Yl.qn rfl rfl kr (fun _ h=>h.qy hb rfl))∘Jp 2) (Ji (fun hd5=>?_) fun hd5=>?_)
 ·
  refine (Jf 3∘Jy (v:=vI b.next) (h:=by exact Yl.qn rfl rfl kr (fun _ h=>h.qy hb rfl))∘Jp 3) (Ji (fun iB=>?_) fun iB=>?_)
  ·
   refine (Jf 1∘Jy (v:=vB b.cpu) (h:=by exact Yl.qn rfl rfl kr (fun _ h=>h.qy hb rfl))∘Jp 3) (Je (fun iR=>?_) fun iR=>?_)
   ·
    refine (Jf 2∘Jy (v:=vI b.lost) (h:=by exact Yl.qn rfl rfl kr (fun _ h=>h.qy hb rfl))∘Jp 3) (Je (fun zN=>?_) fun zN=>?_)
    ·
     exact (Jf 4∘Jy (v:= .slice A b.evs.length c) (h:=by exact Yl.qn rfl rfl kr (fun _ h=>h.qy hb rfl))∘Jl∘Jp 3∘aI∘Jj∘JZ∘bB) fun HM=>by exact ⟨by rw [Bool.eq_iff_iff.2 (show ((b.evs.length:Int)==(0:Int))=true↔b.pO=true by unfold Bk.pO;simp only [decide_eq_true_eq,beq_iff_eq];omega)],HM.below⟩
    exact (Jp 6∘aI∘Jj∘JZ∘bB) fun HM=>by exact ⟨by rw [show b.pO=false from decide_eq_false om],HM.below⟩
   exact (Jv 11 [(1,.bool false)]∘aI∘Jj∘JZ∘bB) fun HM=>by exact ⟨by rw [show b.pO=false from decide_eq_false om],HM.below⟩
  exact (Jv 16 [(1,.bool false)]∘aI∘Jj∘JZ∘bB) fun HM=>by exact ⟨by rw [show b.pO=false from decide_eq_false om],HM.below⟩
 exact (Jv 21 [(1,.bool false)]∘dR∘Jj∘JZ∘bB) fun HM=>by exact ⟨by rw [show b.pO=false from decide_eq_false om],HM.below⟩
theorem CG (b:Bk) (hok:b.Ok) (A:Option Addr) (c B:Nat) (w:World) (hL:aL B w) (hB:B≤w.heap.size) (hr:Rd w w.heap.size 11 A b.evs.length (b.evs.flatMap aN)) (hn:b.evs.length≤1000000):
    Calls Tryz.prog 164 #[.agg (b.cells A c)] w (Is w (.bool b.fits)):=by
 refine (dh Tryz.func164 19) ?_
 refine (JP∘JE) fun w1 g1=>(Jp 1∘Jr) fun a Z HM=>?_
 refine fo Z 0 rfl rfl ?_
 refine qv8 Z HM rfl rfl de ?_
 clear Z HM;intro a w5 g5 Z HM
 refine Jb Z HM ((Jy (h:=by exact Yl.makeFunc (fst:=[]) (caps:=[vP g1 0]) rfl rfl rfl)) fun a Z HM=>?_)
 refine fo Z 2 rfl rfl ?_
 refine Sb Z HM (i:=0) (kt:=5) (et:=23) (kd:= .int .u8) (Or.inr rfl) rfl kr kr rfl rfl rfl rfl (by first|trivial|rfl) (rfl) fun Na HM=>?_
 refine Jb Z HM ((Jy (h:=by exact Yl.makeFunc (fst:=[]) (caps:=[vP g1 0]) rfl rfl rfl)) fun a Z HM=>?_)
 refine fo Z 4 rfl rfl ?_
 refine Sb Z HM (i:=0) (kt:=5) (et:=23) (kd:= .int .u8) (Or.inr rfl) rfl kr kr rfl rfl rfl rfl (by first|trivial|rfl) (rfl) fun ad5 HM=>?_
 refine Jb Z HM ((Jp 2∘dR∘Jq) fun a Z HM=>?_)
 rcases q6m b.kind with hk|hk|⟨hk,hk2⟩
 ·
  refine Jb Z HM ((JG∘JP∘Jp 1∘Jg 0 O1∘Jy (v:= .func (.func 225) #[] #[vP g1 0]) (h:=by exact Yl.Sc (kt:=5) (et:=23) (kd:= .int .u8) (j:=0) (es:=(#[].push {key:=vB 1,val:= .func (.func 225) #[] #[vP g1 0],born:=0}).push {key:=vB 2,val:= .func (.func 226) #[] #[vP g1 0],born:=0+1}) (clock:=0+1+1) rfl kr kr rfl rfl (fun _ h=>h.fU (i:=0) rfl) (by first|trivial|rfl) (by rw [hk];rfl))∘Jp 1∘dR∘Jr∘Jp 1∘Jy (v:= .bool true) (h:=by exact Yl.Sm rfl rfl rfl kr)∘Jp 2) fun a Z HM=>?_)
  refine fo Z 4 rfl rfl ?_
  refine qX Z (f:=225) (vs:=[]) (fst:=[]) (caps:=[vP g1 0]) rfl rfl rfl kr rfl de (qxl _ b hok A c B _ (hL.mem HM hB) (HM.le hB) (HM.old hr) hn (HM.blk (i:=1) rfl)) ?_
  rintro _ EX ⟨rfl,hbw⟩
  refine ⟨_,rfl,?_⟩
  replace HM:=HM.call hbw
  clear Z;intro a Z
  exact Jb Z HM ((Jp 2∘aI∘Jj∘JZ∘JM (.f .n)∘bB) fun HM=>by exact ⟨by unfold Bk.fits;rw [if_pos hk],HM.below⟩)
 ·
  refine Jb Z HM ((JG∘JP∘Jp 1∘Jg 0 O1∘Jy (v:= .func (.func 226) #[] #[vP g1 0]) (h:=by exact Yl.Sc (kt:=5) (et:=23) (kd:= .int .u8) (j:=1) (es:=(#[].push {key:=vB 1,val:= .func (.func 225) #[] #[vP g1 0],born:=0}).push {key:=vB 2,val:= .func (.func 226) #[] #[vP g1 0],born:=0+1}) (clock:=0+1+1) rfl kr kr rfl rfl (fun _ h=>h.fU (i:=0) rfl) (by first|trivial|rfl) (by rw [hk];rfl))∘Jp 1∘dR∘Jr∘Jp 1∘Jy (v:= .bool true) (h:=by exact Yl.Sm rfl rfl rfl kr)∘Jp 2) fun a Z HM=>?_)
  refine fo Z 4 rfl rfl ?_
  refine qX Z (f:=226) (vs:=[]) (fst:=[]) (caps:=[vP g1 0]) rfl rfl rfl kr rfl de (qxm _ b A c _ (HM.blk (i:=1) rfl)) ?_
  rintro _ EX ⟨rfl,hbw⟩
  refine ⟨_,rfl,?_⟩
  replace HM:=HM.call hbw
  clear Z;intro a Z
  exact Jb Z HM ((Jp 2∘aI∘Jj∘JZ∘JM (.f .n)∘bB) fun HM=>by exact ⟨by unfold Bk.fits;rw [if_neg om,if_pos hk],HM.below⟩)
 ·
  exact Jb Z HM ((JG∘JP∘Jp 1∘Jg 0 O1∘Jy (v:= .nilFunc) (h:=by exact Yl.qvl (kt:=5) (et:=23) (kd:= .int .u8) (es:=(#[].push {key:=vB 1,val:= .func (.func 225) #[] #[vP g1 0],born:=0}).push {key:=vB 2,val:= .func (.func 226) #[] #[vP g1 0],born:=0+1}) (clock:=0+1+1) rfl kr kr rfl rfl (fun _ h=>h.fU (i:=0) rfl) (by first|trivial|rfl) (by have e1:((b.kind:Int)==1)=false:=(by rw [beq_eq_false_iff_ne];omega);have e2:((b.kind:Int)==2)=false:=(by rw [beq_eq_false_iff_ne];omega);simp [Instr.findNow,Instr.sameNow,e1,e2]) kr)∘Jp 1∘dR∘Jr∘Jp 1∘Jy (v:= .bool false) (h:=by exact Yl.q68 rfl rfl rfl kr)∘Jp 5∘aI∘Jj∘JZ∘JM (.f .n)∘bB) fun HM=>by exact ⟨by unfold Bk.fits;rw [if_neg hk,if_neg hk2],HM.below⟩)
theorem UN (b:Bk) (A:Option Addr) (c:Nat) (w:World) (hr:Rd w w.heap.size 11 A b.evs.length (b.evs.flatMap aN)) (h0:b.evs.length≠0):
    Calls Tryz.prog 172 #[.agg (b.cells A c)] w (Is w (.agg b.base.cells)):=by
 refine (dh Tryz.func172 14) ?_
 refine (JP∘JE) fun w1 g1=>(JA #[vI 0,vI 0]) fun w2 g2=>(Jj) fun a Z HM=>?_
 refine wp_seq ?_
 refine Jb Z HM ((Vs .n [11]) fun wd1=>(Vf 0 4∘Vf 5 4∘Vc 1 O1) ?_)
 repeat (first|clear Z|clear HM|clear HS)
 intro a Z HM HS
 obtain ⟨gA,oA,rfl,_⟩:=hr.qm (Nat.lt_of_le_of_lt (Nat.zero_le _) (show 0<b.evs.length from by omega)) de
 refine Vb Z HM HS ((Vy 2 (v:=vP gA oA) (h:=by exact Yl.indexAddr (ad:=⟨gA,oA,none⟩) (y:=0) (sz:=11) rfl rfl rfl om kr)∘Vf 3 0∘Vy 4 (v:=vI ((b.evs.getD 0 Ev.zero).seq)) (h:=by exact Yl.qn rfl rfl kr (fun _ h=>(by have:=(h.old hr).partAt qv (k:=0) (j:=0) (x:=(b.evs.getD 0 Ev.zero)) ((getD_at Ev.zero (k:=0) (by first|omega|(simp;omega)))) rfl;simpa using this)))∘Vc 6 O1∘Vy 7 (v:=vP gA oA) (h:=by exact Yl.indexAddr (ad:=⟨gA,oA,none⟩) (y:=0) (sz:=11) rfl rfl rfl om kr)∘Vf 8 1∘Vy 9 (v:=vI ((b.evs.getD 0 Ev.zero).time)) (h:=by exact Yl.qn rfl rfl kr (fun _ h=>(h.old hr).partAt qv (k:=0) (j:=1) (x:=(b.evs.getD 0 Ev.zero)) ((getD_at Ev.zero (k:=0) (by first|omega|(simp;omega)))) rfl))∘Vy 10 (v:= .agg #[vI ((b.evs.getD 0 Ev.zero).seq),vI ((b.evs.getD 0 Ev.zero).time)]) (h:=by exact Yl.build (vs:=[(0,vI ((b.evs.getD 0 Ev.zero).seq)),(1,vI ((b.evs.getD 0 Ev.zero).time))]) rfl kr kr)) fun a Z HM HS=>?_)
 refine s_on Z 11 rfl (bN Z HM 0 rfl rfl rfl rfl rfl ⟨kr,kr⟩ rfl rfl (by simp [Value.oneCell']) fun UO HM=>?_)
 refine fZ kr ?_
 refine qd kr ?_
 refine Jb Z HM ((JM (.t (.f .n))∘JZ) fun a Z HM=>?_)
 exact iy rfl Z (.cellS (i:=0) Z HM rfl rfl ⟨kr,kr⟩ rfl) (⟨by rw [EO];rfl,HM.below⟩)
theorem Nb (x:Nat) (hx:x<18446744073709551616) (w:World):
    Calls Tryz.prog 227 #[vQ x] w (zh w (ak x)):=by
 refine (dh Tryz.func227 5) ?_
 exact (JP∘Jp 1∘Jr∘Jp 1∘JK (h:=by exact fun HM=>qtq hx)) fun A4 c4 w4 hc4=>(Jp 1∘aY∘Jj∘JZ∘bB) fun HM=>by exact ⟨⟨_,_,rfl,HM.own (i:=0) rfl,hc4⟩,HM.below⟩
theorem Nc {w:World} {a b c d:Part} (ha:Rd w w.heap.size 1 a.A a.l.length (a.l.map B8)) (hb:Rd w w.heap.size 1 b.A b.l.length (b.l.map B8)) (hc:Rd w w.heap.size 1 c.A c.l.length (c.l.map B8)) (hd:Rd w w.heap.size 1 d.A d.l.length (d.l.map B8)):∀p∈[a,b,c,d],Rd w w.heap.size 1 p.A p.l.length (p.l.map B8):=by
 intro p hp
 simp only [List.mem_cons,List.not_mem_nil,or_false] at hp
 rcases hp with rfl|rfl|rfl|rfl
 ·exact ha
 ·exact hb
 ·exact hc
 ·exact hd
theorem q1t (b:Bk) (hok:b.Ok) (A:Option Addr) (c B:Nat) (w:World) (hL:aL B w) (hB:B≤w.heap.size) (hr:Rd w w.heap.size 11 A b.evs.length (b.evs.flatMap aN)) (hn:b.evs.length≤1000000) (hf:b.fits=true):
    Calls Tryz.prog 165 #[.agg (b.cells A c)] w (zh w b.body):=by
 have bA:=hok.cpu
 refine (dh Tryz.func165 52) ?_
 refine (JP∘JE) fun w1 g1=>(Jp 1∘Jj∘JQ∘JP∘Jg 0 O0∘Jp 1∘aR∘Jj) (Ju (fun iT=>?_) fun iT=>?_)
 ·
  intro a Z HM
  have rT:=eq_of_beq iT
  have hk:b.kind=2:=by omega
  obtain ⟨n1,n2,n3,n4,n5⟩:=M4 hf hk
  exact Jb Z HM ((JT∘JP∘Jg 3 O0∘Jv 1 [(12,vQ (IntKind.u64.wrap b.next))]∘Jo (vQ b.next.toNat) (by exact qY om om)∘JK (h:=by exact fun HM=>Nb b.next.toNat om _)) fun lY c13 nD pU=>(Jp 1∘bT∘Jj∘JZ∘bB) fun HM=>by exact zh.as ⟨⟨_,_,rfl,HM.own (i:=0) rfl,pU⟩,HM.below⟩ (by unfold Bk.body;rw [if_pos hk]))
 intro a Z HM
 have rT:=ne_of_beq_false iT
 have hk:b.kind≠2:=by omega
 obtain ⟨m0,m1,m2,m3,m4⟩:=M0 hf hk
 refine Jb Z HM ((JF∘aF∘JP∘Jg 1 O0∘Jw .u64∘Jg 2 O0∘Jv 1 [(19,vQ (IntKind.u64.wrap b.lost))]∘Jo (vQ b.lost.toNat) (by exact qY om om)∘Jg 4 O0∘Jl∘Jw .u64∘JU qbv #[vQ b.cpu,vQ b.lost.toNat,vQ b.evs.length]) fun ES g24=>(JK (h:=by exact fun HM=>Mj _ 3 _ [b.cpu,b.lost.toNat,b.evs.length] _ (HM.aU (i:=0) (n:=3) (size:=1) rfl rfl) (by intro x hx;simp only [List.mem_cons,List.not_mem_nil,or_false] at hx;omega) om)) fun zP zQ rM hc25=>(Jp 1∘aI∘Jj∘JQ∘JP∘Jg 4 O2∘Jl∘Jp 1∘aY∘Jj) (Ju (fun jK=>?_) fun jK=>?_))
 ·
  intro a Z HM
  have hd29:=eq_of_beq jK
  exact Jb Z HM ((JT∘JP∘Jp 2∘aR∘Jj∘JZ∘JM (.t (.f .n))∘bB) fun HM=>by exact zh.as ⟨⟨_,_,rfl,HM.own (i:=0) rfl,hc25⟩,HM.below⟩ (by unfold Bk.body;rw [if_neg hk,if_pos om];simp))
 intro a Z HM
 have hd29:=ne_of_beq_false jK
 have hw:=UC hok (xg hf hk).2 om
 obtain ⟨q1,q2,q3,q4⟩:=MZ hok hf hk om
 refine Jb Z HM ((JF∘aF∘JP∘Jy (v:= .agg (b.cells A c)) (h:=by exact Yl.qg rfl rfl aA rfl (fun _ h=>qb (h.blk (i:=2) rfl)))∘JI (h:=by exact fun HM=>UN b A c _ (HM.old hr) om)) fun w32 hbw=>(JA #[vI 0,vI 0]) fun w4 g4=>(JV ⟨kr,kr⟩ aZ (h1:=by exact Ct b.base)) fun Nf=>(aY∘Jr∘Jy (v:= .agg b.base.cells) (h:=by exact Yl.qg rfl rfl ⟨kr,kr⟩ rfl (fun _ h=>qb (h.blk (i:=0) rfl)))∘Jg 4 O3∘JK (h:=by exact fun HM=>q1d b.base A b.evs.length c b.evs hok.evs B _ (hL.mem HM hB).laid (HM.le hB) (HM.old hr) om hw.1 hw.2)) fun vo c37 zR vv=>(Jp 1∘Jx∘Jx∘Jp 2∘kg∘Jj) fun a Z HM=>?_)
 refine wp_seq ?_
 refine Jb Z HM ((Vs .n []) fun Ng=>(Vp [0]∘Vf 1 0∘Vf 5 1∘Vp [9]∘Vc 2 O1∘Vq [3] [(43,vQ (IntKind.u64.wrap b.base.seq))]∘Vo (vQ b.base.seq.toNat) (by exact qY om om)∘Vc 6 O1∘Vq [7] [(47,vQ (IntKind.u64.wrap b.base.time))]∘Vo (vQ b.base.time.toNat) (by exact qY om om)∘VK 4 .n (h:=by exact fun HM=>Nb b.base.seq.toNat om _)) fun EY EZ Nh Ni=>(VK 8 (.f .n) (h:=by exact fun HM=>Nb b.base.time.toNat om _)) fun I9 Jd w48 ad9=>fun a Z HM HS=>?_)
 refine s_on Z 10 rfl (uU Z HM EM [(0,.slice zP (([b.cpu,b.lost.toNat,b.evs.length].flatMap ak).length) zQ),(1,.slice EY ((ak b.base.seq.toNat).length) EZ),(2,.slice I9 ((ak b.base.time.toNat).length) Jd),(3,.slice vo ((recs b.base b.evs).length) c37)] #[.slice zP (([b.cpu,b.lost.toNat,b.evs.length].flatMap ak).length) zQ,.slice EY ((ak b.base.seq.toNat).length) EZ,.slice I9 ((ak b.base.time.toNat).length) Jd,.slice vo ((recs b.base b.evs).length) c37] ?_)
 clear Z HM;intro a IX Uf Z HM
 refine aK (HM.pk [3,4,5,6,7]) (fun HS=>?_)
 have hps:=Nc (a:=⟨zP,zQ,[b.cpu,b.lost.toNat,b.evs.length].flatMap ak⟩) (b:=⟨EY,EZ,ak b.base.seq.toNat⟩) (c:=⟨I9,Jd,ak b.base.time.toNat⟩) (d:=⟨vo,c37,recs b.base b.evs⟩) (HM.rd (i:=5) rfl) (HM.rd (i:=2) rfl) (HM.rd (i:=1) rfl) (HM.rd (i:=3) rfl)
 exact Vb Z HM HS ((VK 11 (.f (.f (.f .n))) (h:=by exact fun HM=>(qt2 _ 4 _ [⟨zP,zQ,[b.cpu,b.lost.toNat,b.evs.length].flatMap ak⟩,⟨EY,EZ,ak b.base.seq.toNat⟩,⟨I9,Jd,ak b.base.time.toNat⟩,⟨vo,c37,recs b.base b.evs⟩] _ (HM.aU (i:=0) (n:=4) (size:=1) rfl rfl) rfl om hps (by have h1:=uO [b.cpu,b.lost.toNat,b.evs.length];have h2:=qe b.base.seq.toNat;have h3:=qe b.base.time.toNat;have h4:=EJ b.evs b.base;simp only [List.flatMap_cons,List.flatMap_nil,List.length_append,List.append_nil,List.length_cons,List.length_nil] at h1⊢;omega)).mono (fun _ _ h=>h.as (R':=ak b.cpu++ak b.lost.toNat++ak b.evs.length++(ak b.base.seq.toNat++ak b.base.time.toNat++recs b.base b.evs)) (by simp)))) fun jH c51 IV jI=>(Vp [12]∘Vd∘aI∘JM (.t (.f (.f (.f (.f (.t (.t (.f .n))))))))∘JZ∘bB) fun HM=>by exact zh.as ⟨⟨_,_,rfl,HM.own (i:=0) rfl,jI⟩,HM.below⟩ (by unfold Bk.body;rw [if_neg hk,if_neg om]))
instance UQ:DecidableEq Bk:=fun ⟨a0,a1,a2,a3,a4⟩ ⟨b0,b1,b2,b3,b4⟩=>
 decidable_of_iff (a0=b0∧a1=b1∧a2=b2∧a3=b3∧a4=b4) (by simp)
theorem qxn {b:Bk} (h:8+b.body.length+4≤4096):(#[Value.int .u8 (((8+b.body.length+4)%256:Nat):Int),.int .u8 (((8+b.body.length+4)/256%256:Nat):Int),.int .u8 0,.int .u8 0,.int .u8 113,.int .u8 116,.int .u8 1,.int .u8 (b.kind:Int)]:Array Value).toList++b.body.map B8=b.raw.map B8:=by
 have e0:8+b.body.length+4=12+b.body.length:=by omega
 have e1:(12+b.body.length)/65536%256=0:=by omega
 have e2:(12+b.body.length)/16777216%256=0:=by omega
 unfold Bk.raw mD
 rw [e0,e1,e2]
 simp [B8]
theorem qq2 {b:Bs} {e:Ev} (h:e.kind<256):∀x∈qq b e,x<256:=by
 intro x hx
 unfold qq at hx
 rcases List.mem_cons.1 hx with rfl|hx
 ·exact h
 ·obtain ⟨y,_,hy⟩:=List.mem_flatMap.1 hx
  exact yT y x hy
theorem UR:∀(l:List Ev) (b:Bs),(∀e∈l,e.Ok)→∀x∈recs b l,x<256
 |[],_,_,x,hx=>by simp [recs] at hx
 |e::r,b,hok,x,hx=>by
  rw [recs] at hx
  rcases List.mem_append.1 hx with h|h
  ·exact qq2 (hok e (by simp)).kind x h
  ·exact UR r e.at (fun y hy=>hok y (by simp [hy])) x h
theorem q4s {b:Bk} (hok:b.Ok):∀x∈b.body,x<256:=by
 intro x hx
 unfold Bk.body at hx
 split at hx
 ·exact yT _ x hx
 ·rcases List.mem_append.1 hx with h|h
  ·rcases List.mem_append.1 h with h|h
   ·rcases List.mem_append.1 h with h|h
    ·exact yT _ x h
    ·exact yT _ x h
   ·exact yT _ x h
  ·split at h
   ·cases h
   ·rcases List.mem_append.1 h with h|h
    ·rcases List.mem_append.1 h with h|h
     ·exact yT _ x h
     ·exact yT _ x h
    ·exact UR _ _ hok.evs x h
theorem E5 {b:Bk} (hok:b.Ok):∀x∈b.raw,x<256:=by
 intro x hx
 unfold Bk.raw at hx
 rcases List.mem_append.1 hx with h|h
 ·rcases List.mem_append.1 h with h|h
  ·exact Tj _ x h
  ·simp only [List.mem_cons,List.not_mem_nil,or_false] at h
   have:=hok.kind
   omega
 ·exact q4s hok x h
theorem CJ (b:Bk):b.raw.length=8+b.body.length:=by unfold Bk.raw mD;simp;omega
theorem CK (b:Bk):b.body.length≤50+61*b.evs.length:=by
 unfold Bk.body
 split
 ·have:=qe b.next.toNat;omega
 ·have h1:=qe b.cpu
  have h2:=qe b.lost.toNat
  have h3:=qe b.evs.length
  have h4:=qe b.base.seq.toNat
  have h5:=qe b.base.time.toNat
  have h6:=EJ b.evs b.base
  split<;>simp only [List.length_append,List.length_nil]<;>omega
theorem Nj {w w':World} {b:Bk} {er:Nat} (h:b.err=er) (he:er≠0) (hb:Below w.heap.size w w'):za w b.err b.out (.returned (.tuple #[.slice none 0 0,.int .i64 (er:Int)])) w':=by
 have h2:b.out=[]:=by unfold Bk.out;rw [if_neg om]
 rw [h,h2]
 exact ⟨⟨none,0,rfl,World.ownsRow_nil _ _ _ _,Nat.le_refl _⟩,hb⟩
theorem Nk {b:Bk} (h:b.err=0):b.out=bI b.raw:=by unfold Bk.out;rw [if_pos h]
theorem E8 (b:Bk):b.out.length≤4096:=by
 unfold Bk.out
 split
 ·rename_i h
  unfold Bk.err at h
  split at h
  ·cases h
  ·split at h
   ·cases h
   ·rw [IC,CJ];omega
 ·simp
theorem UU {b:Bk} (hok:b.Ok):∀x∈b.out,x<256:=by
 unfold Bk.out
 split
 ·exact Tp (E5 hok)
 ·intro x hx;cases hx
theorem zS (most:Nat) (l:List Nat):au most l≤most:=by unfold au;split<;>omega
theorem Nl (most:Nat) (l:List Nat):(if ((most:Nat):Int)<(((av l).1:Nat):Int) then ((most:Nat):Int) else (((av l).1:Nat):Int))=((au most l:Nat):Int):=by unfold au;split<;>split<;>omega
theorem zT (l:List Nat):(qa l).length=l.length- (av l).2.1:=by unfold qa;rw [List.length_drop]
theorem zU (l:List Nat):(qa l).length≤l.length:=by rw [zT];omega
theorem qt8 {most:Nat} {l:List Nat} (h:(av l).2.2≠0):aO most l=false:=by unfold aO;rw [decide_eq_false];omega
def UW (W:World) (gb gk:Nat) (l:List Nat) (ny:Bool) (most:Nat) (fr:List Fact) (r:Ending) (w':World):Prop:=
 r= .returned (.int .i64 ((au most l:Nat):Int))∧∃A' c',Rd W W.heap.size 1 A' (qa l).length ((qa l).map B8)∧(qa l).length≤c'∧
  Mem W w' (.blk gb #[.slice A' (qa l).length c'] 30:: .blk gk #[.bool (ny&&aO most l)] 4::fr)
theorem Nn {W w':World} {gb gk n c most:Nat} {l:List Nat} {ny UY:Bool} {A:Option Addr} {fr:List Fact} (hr:Rd W W.heap.size 1 A l.length (l.map B8)) (hc:l.length≤c) (h2:(ny&&aO most l)=UY) (hn:n=l.length)
  (HM:Mem W w' (.blk gb #[.slice (if c=(av l).2.1 then A else A.map (·.add ((av l).2.1*1))) (n- (av l).2.1) (c- (av l).2.1)] 30:: .blk gk #[.bool UY] 4::fr)):
  UW W gb gk l ny most fr (.returned (.int .i64 ((au most l:Nat):Int))) w':=by
 subst h2;subst hn
 refine ⟨rfl,(if c=(av l).2.1 then A else A.map (·.add ((av l).2.1*1))),c- (av l).2.1,?_,?_,?_⟩
 ·rw [zT]
  exact hr.qZ (uw l) hc
 ·rw [zT];omega
 ·rw [zT];exact HM
def zV (w:World) (q:Option Bk) (r:Ending) (w':World):Prop:=
 (∃ cs : Array Value, r = .returned (.tuple #[.agg cs, .bool q.isSome]) ∧ cs.size = 5 ∧ (∀ v ∈ cs.toList, v.oneCell' = true) ∧
  (∀b,q=some b→∃A c,cs=b.cells A c∧w'.ownsRow w.heap.size 73 11 (.slice A b.evs.length c) b.evs.length (b.evs.flatMap aN)∧b.evs.length≤c))∧Below w.heap.size w w'
theorem E9 {w w':World} {q:Option Bk} {cs:Array Value} (h:q=none) (hs:cs.size=5) (h1:∀v∈cs.toList,v.oneCell'=true) (hb:Below w.heap.size w w'):zV w q (.returned (.tuple #[.agg cs,.bool false])) w':=by
 subst h
 exact ⟨⟨cs,rfl,hs,h1,fun b h=>by cases h⟩,hb⟩
theorem Jk {w w':World} {q:Option Bk} {b:Bk} {A:Option Addr} {c:Nat} (h:q=some b) (ho:w'.ownsRow w.heap.size 73 11 (.slice A b.evs.length c) b.evs.length (b.evs.flatMap aN)) (hc:b.evs.length≤c) (hb:Below w.heap.size w w'):zV w q (.returned (.tuple #[.agg (b.cells A c),.bool true])) w':=by
 subst h
 exact ⟨⟨_,rfl,rfl,zy _ _ _,fun b' h=>by injection h with h;subst h;exact ⟨A,c,rfl,ho,hc⟩⟩,hb⟩
theorem tk3 {l:List Nat}:(((true&&aO 63 l)&&aO 281474976710656 (qa l))&&aO 4096 (qa (qa l)))=oP l:=by unfold oP;simp
theorem UZ (l:List Nat):qc2 2 l=pQ l:=by unfold qc2;rw [if_pos rfl]
theorem zW (l:List Nat):qc2 1 l=q6 l:=by unfold qc2;rw [if_neg om]
theorem Fa {x:Nat} (h:x≤281474976710657):Bk.Ok ⟨2,0,0,(x:Int),[]⟩:=⟨by show 2<256;decide,by show 0<256;decide,by unfold aM;simp,EK h,by simp⟩
theorem rU {cpu lost:Nat} {es:List Ev} (h:cpu<256) (hl:lost≤281474976710656) (he:∀e∈es,e.Ok):Bk.Ok ⟨1,cpu,(lost:Int),0,es⟩:=⟨by show 1<256;decide,h,EK (by show lost≤_;omega),by unfold aM;simp,he⟩
theorem U0 {l:List Nat} {q:List Ev×Nat×Nat} (h3:oP l=true) (h0:0<au 4096 (qa (qa l)))
  (hq:bq ⟨(au 281474976710656 (qa (qa (qa l))):Int),(au 281474976710656 (qa (qa (qa (qa l)))):Int)⟩ (au 63 l) (au 4096 (qa (qa l)):Int) (qa (qa (qa (qa (qa l)))))=q):
  q6 l=zx (au 63 l) (au 281474976710656 (qa l)) (qa (qa (qa l))) q:=by
 unfold q6
 rw [if_pos ⟨h3,h0⟩,hq]
theorem U1 {cpu lost:Nat} {l:List Nat} {q:List Ev×Nat×Nat} (h:¬(q.2.2=0∧(q.1.getD 0 Ev.zero).seq=(au 281474976710656 l:Int)∧(q.1.getD 0 Ev.zero).time=(au 281474976710656 (qa l):Int)∧aO 281474976710656 l=true∧aO 281474976710656 (qa l)=true∧(qa (qa l)).length-q.2.1=0∧Bk.fits ⟨1,cpu,lost,0,q.1⟩=true)):zx cpu lost l q=none:=by
 unfold zx
 rw [if_neg]
 intro hh
 obtain ⟨h1,h2,h3,h4,h5,h6,h7⟩:=hh
 rw [List.length_drop] at h6
 have e:q.1.headD Ev.zero=q.1.getD 0 Ev.zero:=by cases q.1<;>rfl
 rw [e] at h2 h3
 exact h ⟨h1,h2,h3,h4,h5,h6,h7⟩
theorem qkn {cpu lost:Nat} {l:List Nat} {q:List Ev×Nat×Nat} (h:q.2.2=0∧(q.1.getD 0 Ev.zero).seq=(au 281474976710656 l:Int)∧(q.1.getD 0 Ev.zero).time=(au 281474976710656 (qa l):Int)∧aO 281474976710656 l=true∧aO 281474976710656 (qa l)=true∧(qa (qa l)).length-q.2.1=0∧Bk.fits ⟨1,cpu,lost,0,q.1⟩=true):zx cpu lost l q=some ⟨1,cpu,lost,0,q.1⟩:=by
 unfold zx
 rw [if_pos]
 obtain ⟨h1,h2,h3,h4,h5,h6,h7⟩:=h
 have e:q.1.headD Ev.zero=q.1.getD 0 Ev.zero:=by cases q.1<;>rfl
 rw [e,List.length_drop]
 exact ⟨h1,h2,h3,h4,h5,h6,h7⟩
theorem Np (l:List Nat):(pQ l).isSome=(aO 281474976710657 l&& (decide ((qa l).length=0)&&Bk.fits ⟨2,0,0,(au 281474976710657 l:Int),[]⟩)):=by
 unfold pQ
 split
 ·rename_i h;rw [h.1,decide_eq_true h.2.1,h.2.2];rfl
 ·rename_i h
  show false=_
  rw [eq_comm,Bool.eq_false_iff]
  intro hh
  simp only [Bool.and_eq_true,decide_eq_true_eq] at hh
  exact h ⟨hh.1,hh.2.1,hh.2.2⟩
theorem qon {l:List Nat} (h:(pQ l).isSome=true):pQ l=some ⟨2,0,0,(au 281474976710657 l:Int),[]⟩:=by
 unfold pQ at h⊢
 split
 ·rfl
 ·rename_i h2;rw [if_neg h2] at h;cases h
theorem Jm {l:List Nat} (h:¬(oP l=true∧0<au 4096 (qa (qa l)))):(q6 l).isSome=(oP l&& (decide ((qa (qa (qa l))).length=0)&&Bk.fits ⟨1,au 63 l,(au 281474976710656 (qa l):Int),0,[]⟩)):=by
 unfold q6
 rw [if_neg h]
 split
 ·rename_i h;rw [h.1,decide_eq_true h.2.1,h.2.2];rfl
 ·rename_i h
  show false=_
  rw [eq_comm,Bool.eq_false_iff]
  intro hh
  simp only [Bool.and_eq_true,decide_eq_true_eq] at hh
  exact h ⟨hh.1,hh.2.1,hh.2.2⟩
theorem U2 {l:List Nat} (h:¬(oP l=true∧0<au 4096 (qa (qa l)))) (hs:(q6 l).isSome=true):q6 l=some ⟨1,au 63 l,(au 281474976710656 (qa l):Int),0,[]⟩:=by
 unfold q6 at hs⊢
 rw [if_neg h] at hs⊢
 split
 ·rfl
 ·rename_i h2;rw [if_neg h2] at hs;cases hs
theorem Nq {cpu lost L:Nat} {l:List Nat} {es:List Ev} (h:(es.getD 0 Ev.zero).seq=(au 281474976710656 l:Int)∧(es.getD 0 Ev.zero).time=(au 281474976710656 (qa l):Int)):(zx cpu lost l (es,L,0)).isSome=((aO 281474976710656 l&&aO 281474976710656 (qa l))&& (decide ((qa (qa l)).length-L=0)&&Bk.fits ⟨1,cpu,(lost:Int),0,es⟩)):=by
 cases hc:((aO 281474976710656 l&&aO 281474976710656 (qa l))&& (decide ((qa (qa l)).length-L=0)&&Bk.fits ⟨1,cpu,(lost:Int),0,es⟩)) with
 |true=>
  simp only [Bool.and_eq_true,decide_eq_true_eq] at hc
  rw [qkn ⟨rfl,h.1,h.2,hc.1.1,hc.1.2,hc.2.1,hc.2.2⟩]
  rfl
 | false =>
  rw [U1]
  ·rfl
  ·intro hh
   obtain ⟨h1,h2,h3,h4,h5,h6,h7⟩:=hh
   rw [h4,h5,h7,decide_eq_true h6] at hc
   cases hc
theorem q1u {cpu lost:Nat} {l:List Nat} {q:List Ev×Nat×Nat} (h:(zx cpu lost l q).isSome=true):zx cpu lost l q=some ⟨1,cpu,(lost:Int),0,q.1⟩:=by
 unfold zx at h⊢
 split
 ·rfl
 ·rename_i h2;rw [if_neg h2] at h;cases h
theorem zV.none {w w':World} {q:Option Bk} {r:Ending} (h:zV w q r w') (hq:q=none):(∃cs:Array Value,r= .returned (.tuple #[.agg cs,.bool false])∧cs.size=5∧(∀v∈cs.toList,v.oneCell'=true))∧Below w.heap.size w w':=by
 subst hq
 obtain ⟨⟨cs,h1,h2,h3,_⟩,h4⟩:=h
 exact ⟨⟨cs,h1,h2,h3⟩,h4⟩
theorem zV.some {w w':World} {q:Option Bk} {b:Bk} {r:Ending} (h:zV w q r w') (hq:q=some b):(∃A c,r= .returned (.tuple #[.agg (b.cells A c),.bool true])∧w'.ownsRow w.heap.size 73 11 (.slice A b.evs.length c) b.evs.length (b.evs.flatMap aN)∧b.evs.length≤c)∧Below w.heap.size w w':=by
 subst hq
 obtain ⟨⟨cs,h1,h2,h3,h5⟩,h4⟩:=h
 obtain ⟨A,c,rfl,h6,h7⟩:=h5 b rfl
 exact ⟨⟨A,c,h1,h6,h7⟩,h4⟩
def Nr (T:TypeId) (w:World) (q:Bk×Nat×Nat) (r:Ending) (w':World):Prop:=
 (∃A c,r= .returned (.tuple #[.agg (q.1.cells A c),.int .i64 (q.2.1:Int),.int .i64 (q.2.2:Int)])∧w'.ownsRow w.heap.size T 11 (.slice A q.1.evs.length c) q.1.evs.length (q.1.evs.flatMap aN)∧q.1.evs.length≤c)∧Below w.heap.size w w'
theorem xA {T:TypeId} {w w':World} {q:Bk×Nat×Nat} {er:Nat} (h:q=(Bk.zero,0,er)) (hb:Below w.heap.size w w'):Nr T w q (.returned (.tuple #[.agg #[.int .u8 0,.int .u8 0,.int .i64 0,.int .i64 0,.slice none 0 0],.int .i64 0,.int .i64 (er:Int)])) w':=by
 subst h
 exact ⟨⟨none,0,rfl,World.ownsRow_nil _ _ _ _,Nat.le_refl _⟩,hb⟩
theorem U3 {T:TypeId} {w w':World} {q:Bk×Nat×Nat} {b:Bk} {m c:Nat} {A:Option Addr} (h:q=(b,m,0)) (ho:w'.ownsRow w.heap.size T 11 (.slice A b.evs.length c) b.evs.length (b.evs.flatMap aN)) (hc:b.evs.length≤c) (hb:Below w.heap.size w w'):Nr T w q (.returned (.tuple #[.agg (b.cells A c),.int .i64 (m:Int),.int .i64 0])) w':=by
 subst h
 exact ⟨⟨A,c,rfl,ho,hc⟩,hb⟩
theorem qxs {l:List Nat} (h:(aC l).2≠0):bg l=(Bk.zero,0,(aC l).2):=by unfold bg;rw [if_pos h]
theorem zX {l L:List Nat} {e:Nat} (h:(aC l).2=0) (hL:L=l.take (aC l).1) (hb:dn L=(none,e)):bg l=(Bk.zero,0,e):=by unfold bg;rw [if_neg om,←hL,hb]
theorem U4 {l L:List Nat} {b:Bk} {e:Nat} (h:(aC l).2=0) (hL:L=l.take (aC l).1) (hb:dn L=(some b,e)):bg l=(b,(aC l).1,0):=by unfold bg;rw [if_neg om,←hL,hb]
theorem U5 {l:List Nat} {m1 m2 m3 m4 m5:Nat} {a b c d e:List Nat}:(((((true&&aO m1 a)&&aO m2 b)&&aO m3 c)&&aO m4 d)&&aO m5 e)=((((true&&aO m1 a)&&aO m2 b)&&aO m3 c)&& (aO m4 d&&aO m5 e)):=by
 have _:=l
 rw [Bool.and_assoc]
theorem qxv {l:List Nat} {b:Bk} {m er:Nat} (h:bg l=(b,m,er)) (he:er≠0):b=Bk.zero∧m=0:=by
 unfold bg at h
 split at h
 ·simp only [Prod.mk.injEq] at h;exact ⟨h.1.symm,h.2.1.symm⟩
 ·split at h
  ·simp only [Prod.mk.injEq] at h;exact absurd h.2.2.symm he
  ·simp only [Prod.mk.injEq] at h;exact ⟨h.1.symm,h.2.1.symm⟩
theorem qxw {l:List Nat} (h:(dn l).1=none):(dn l).2≠0:=by
 unfold dn at h⊢
 split
 ·decide
 ·rename_i h1
  rw [if_neg h1] at h
  split
  ·decide
  ·rename_i h2
   rw [if_neg h2] at h
   split
   ·decide
   ·rename_i h3
    rw [if_neg h3] at h
    split
    ·decide
    ·rename_i h4
     rw [if_neg h4] at h
     split
     ·decide
     ·rename_i b hb
      rw [hb] at h
      cases h
structure vD (l:List Nat) (b:Bk) (m:Nat):Prop where
 ok:b.Ok
 fits:b.fits=true
 err:b.err=0
 out:b.out=l.take m
 len:m≤l.length
 evs:b.evs.length≤4096
 least:13≤m
 most:m≤4096
theorem CQ {l : List Nat} {b : Bk} {m : Nat} (hl : ∀ x ∈ l, x < 256) (h : bg l = (b, m, 0)) : vD l b m := by
 unfold bg at h
 split at h
 ·rename_i h0;simp only [Prod.mk.injEq] at h;exact absurd h.2.2 h0
 ·rename_i h0
  obtain ⟨h1,h2,h3,h4⟩:=J7 (show (aC l).2=0 by omega)
  split at h
  ·rename_i b' hb
   simp only [Prod.mk.injEq] at h
   obtain ⟨rfl,rfl,_⟩:=h
   generalize (aC l).1=n at h1 h2 h3 h4 hb
   have hL:∀x∈l.take n,x<256:=zl hl n
   have hlen:(l.take n).length=n:=by rw [List.length_take];omega
   have lq:dS (l.take n)=n:=by rw [VB om];exact h1
   obtain ⟨L,VD⟩:∃L,L=l.take n:=⟨_,rfl⟩
   rw [←VD] at hb hL hlen lq
   unfold dn at hb
   split at hb
   ·cases hb
   ·rename_i s1
    split at hb
    ·cases hb
    ·rename_i s2
     split at hb
     ·cases hb
     ·rename_i s3
      split at hb
      ·cases hb
      ·rename_i s4
       split at hb
       ·cases hb
       ·rename_i b'' hp
        injection hb with hb
        subst hb
        have hk:L.getD 7 0=1∨L.getD 7 0=2:=by omega
        have s2:L.getD 4 0=113∧L.getD 5 0=116:=Decidable.of_not_not s2
        obtain ⟨q1,q2,q3,q4,q5⟩:=UF hk (zj (zl hL _) _) hp
        have mK:b''.err=0:=by
         unfold Bk.err
         rw [if_neg (by simp [q3]),if_neg (by rw [q4,List.length_drop,List.length_take];omega)]
        refine ⟨q2,q3,mK,?_,h4,q5,h2,h3⟩
        rw [←VD,Nk mK,Vv hL om om s2.1 s2.2 om q1.symm q4]
        exact Tt hL (by simpa using s1)
  ·rename_i hb
   simp only [Prod.mk.injEq] at h
   exact absurd h.2.2 (qxw hb)
theorem Ny {b:Bk} (h:b.err=0):b.fits=true∧12+b.body.length≤4096:=by
 unfold Bk.err at h
 split at h
 ·cases h
 ·rename_i h1
  split at h
  ·cases h
  ·rename_i h2
   exact ⟨by simpa using h1,by omega⟩
structure Hb where
 b:Bk
 A:Option Addr
 c:Nat
def Hb.zero:Hb:=⟨Bk.zero,none,0⟩
def hbL (h:Hb):List Value:=(h.b.cells h.A h.c).toList
theorem nQ (h:Hb):(hbL h).length=5:=rfl
def Hb.own (h:Hb):Own:=⟨h.A,h.b.evs.length,h.c,h.b.evs.flatMap aN⟩
def bG (t:TypeId) (q:List Hb):List Fact:=wV t 11 (q.map Hb.own)
def fA (w:World) (q:List Hb):Prop:=∀h∈q,Rd w w.heap.size 11 h.A h.b.evs.length (h.b.evs.flatMap aN)
section
variable {W w w':World} {fs gs a b:List Fact} {t bt:TypeId} {q:List Hb}
theorem q1v (h:Hb):bG t (h::q)= .row (.slice h.A h.b.evs.length h.c) h.b.evs.length (h.b.evs.flatMap aN) t 11::bG t q:=rfl
theorem q1w (h:Hb):bG t (q++[h])=bG t q++[.row (.slice h.A h.b.evs.length h.c) h.b.evs.length (h.b.evs.flatMap aN) t 11]:=by
 unfold bG wV
 rw [List.map_append,List.map_append]
 rfl
theorem q4t {h:Hb} (hq:h∈q):Fact.row (.slice h.A h.b.evs.length h.c) h.b.evs.length (h.b.evs.flatMap aN) t 11∈bG t q:=List.mem_map_of_mem (List.mem_map_of_mem hq)
theorem Mem.Fb (h:Mem W w fs) (hs:∀f∈bG t q,f∈fs):fA w q:=fun _ hx=>h.q7k (hs _ (q4t hx))
theorem fA.old (h:fA W q) (HM:Mem W w fs):fA w q:=fun x hx=>HM.old (h x hx)
theorem fA.at {k:Nat} (h:fA w q) (hk:k<q.length):Rd w w.heap.size 11 (q.getD k Hb.zero).A (q.getD k Hb.zero).b.evs.length ((q.getD k Hb.zero).b.evs.flatMap aN):=by
 refine h _ ?_
 rw [List.getD_eq_getElem?_getD,List.getElem?_eq_getElem hk]
 exact List.getElem_mem hk
theorem Mem.zY {x:Bk} {A:Option Addr} {c:Nat} (h:Mem W w (.row (.slice A x.evs.length c) x.evs.length (x.evs.flatMap aN) t 11::(a++(bG t q++b)))):Mem W w (a++(bG t (q++[⟨x,A,c⟩])++b)):=by
 refine h.perm ?_
 rw [q1w]
 have h1:(Fact.row (.slice A x.evs.length c) x.evs.length (x.evs.flatMap aN) t 11::(a++(bG t q++b))).Perm (a++Fact.row (.slice A x.evs.length c) x.evs.length (x.evs.flatMap aN) t 11::(bG t q++b)):=(List.perm_middle).symm
 refine h1.trans (List.Perm.append_left a ?_)
 rw [List.append_assoc]
 exact (List.perm_middle (l₁:=bG t q) (l₂:=b)).symm
theorem Mem.q7c {k:Nat} (h:Mem W w (a++(bG t (q.drop k)++b))) (hk:k<q.length):
  Mem W w (.row (.slice (q.getD k Hb.zero).A (q.getD k Hb.zero).b.evs.length (q.getD k Hb.zero).c) (q.getD k Hb.zero).b.evs.length ((q.getD k Hb.zero).b.evs.flatMap aN) t 11::(a++(bG t (q.drop (k+1))++b))):=by
 refine h.perm ?_
 rw [List.drop_eq_getElem_cons hk,q1v,List.getD_eq_getElem?_getD,List.getElem?_eq_getElem hk]
 exact List.perm_middle
theorem Mem.Fe {f:Fact} (h:Mem W w (a++b)) (k:Mem w w' (f::bG t q)):Mem W w' (f::(a++(bG t q++b))):=by
 refine (h.join k).perm (List.Perm.cons f ?_)
 show (bG t q++(a++b)).Perm _
 rw [←List.append_assoc,←List.append_assoc]
 exact List.Perm.append_right b List.perm_append_comm
end
theorem Fg {q q2:List Hb} {k:Nat} (h:q.map Hb.b=q2.map Hb.b) (hk:k<q.length):(q.getD k Hb.zero).b=(q2.getD k Hb.zero).b:=by
 have hl:q.length=q2.length:=by have h:=congrArg List.length h;rwa [List.length_map,List.length_map] at h
 have h1:=congrArg (·[k]?) h
 simp only [List.getElem?_map] at h1
 rw [List.getElem?_eq_getElem hk,List.getElem?_eq_getElem om] at h1
 rw [List.getD_eq_getElem?_getD,List.getD_eq_getElem?_getD,List.getElem?_eq_getElem hk,List.getElem?_eq_getElem om]
 injection h1
def rV (t bt:TypeId) (w:World) (er:Nat) (bs:List Bk):Ending→World→Prop:=fun r w'=>∃A c q,r= .returned (.tuple #[.slice A bs.length c,.int .i64 (er:Int)])∧q.map Hb.b=bs∧bs.length≤c∧Mem w w' (.row (.slice A bs.length c) bs.length (q.flatMap hbL) bt 5::bG t q)
section
variable {W w:World} {fs a:List Fact} {t bt:TypeId} {q:List Hb}
theorem Mem.only (h:Mem W w fs) {f:Fact} (hf:f∈fs):Mem W w [f]:=⟨h.below,fun k hk=>by rw [List.mem_singleton] at hk;subst hk;exact h.holds k hf,List.pairwise_singleton _ _⟩
theorem Mem.Ns {x:Bk} {A:Option Addr} {c:Nat} (h:Mem W w (.row (.slice A x.evs.length c) x.evs.length (x.evs.flatMap aN) t 11::fs)) (hfs:fs=a++bG t q):Mem W w (a++bG t (q++[⟨x,A,c⟩])):=by
 subst hfs
 have h1:=Mem.zY (b:=[]) (by rwa [List.append_nil])
 rwa [List.append_nil] at h1
theorem rW {er:Nat} {n:Int} (h:Mem W w fs) (he:n=er):rV t bt W er [] (.returned (.tuple #[.slice none 0 0,.int .i64 n])) w:=by
 subst he
 exact ⟨none,0,[],rfl,rfl,Nat.le_refl _,Mem.nil ⟨h.below,fun f hf=>absurd hf List.not_mem_nil,.nil⟩ _ _⟩
theorem q1x {cpu:Nat} {opn:Int} (h:Mem W w fs) {i g:Nat} (hi:fs[i]?=some (.blk g #[.int .u8 1,.int .u8 (cpu:Int),.int .i64 opn,.int .i64 0,.slice none 0 0] bt)):rV t bt W 0 [⟨1,cpu,opn,0,[]⟩] (.returned (.tuple #[.slice (some ⟨g,0,none⟩) 1 1,.int .i64 0])) w:=by
 refine ⟨some ⟨g,0,none⟩,1,[⟨⟨1,cpu,opn,0,[]⟩,none,0⟩],rfl,rfl,Nat.le_refl _,?_⟩
 have h1:=(h.only (List.mem_of_getElem? hi)).dz (i:=0) (n:=1) (size:=5) rfl rfl de
 exact (h1.nil t 11).perm (List.Perm.swap _ _ _)
theorem Jt {A:Option Addr} {c:Nat} (h:Mem W w (.row (.slice A q.length c) q.length (q.flatMap hbL) bt 5::bG t q)) (hc:q.length≤c):rV t bt W 0 (q.map Hb.b) (.returned (.tuple #[.slice A q.length c,.int .i64 0])) w:=
 ⟨A,c,q,by rw [List.length_map];rfl,rfl,by rwa [List.length_map],by rwa [List.length_map]⟩
end
def o8 (x:kC):List (List Sp):=x.rs.map Rw.l
def tO (a b:kC):Prop:=a.fQ=b.fQ∧a.eH=b.eH∧a.gs=b.gs
instance Gy (a b:kC):Decidable (tO a b):=by unfold tO;infer_instance
def StaEq (a b:kC):Prop:=tO a b∧a.cl=b.cl∧a.cu=b.cu∧a.ts=b.ts∧o8 a=o8 b
instance Gz (a b:kC):Decidable (StaEq a b):=by unfold StaEq;infer_instance
def SnEq (a b:KT):Prop:=a.next=b.next∧a.st.fQ=b.st.fQ∧a.st.eH=b.st.eH∧a.st.gs=b.st.gs∧a.st.cl=b.st.cl∧a.st.cu=b.st.cu∧a.st.ts=b.st.ts∧o8 a.st=o8 b.st
instance KV (a b:KT):Decidable (SnEq a b):=by unfold SnEq;infer_instance
section
variable {P:Program} {Q:Exit→Act→World→Prop} {a:Act} {W w:World} {n d:Nat} {D:List Deferred} {σ:List (Nat×Value)} {o:Oper} {K:Act→World→Prop} {fs:List Fact}
end
section
variable {W w w':World} {fs gs a T:List Fact} {t:TypeId} {q:List Rw}
end
section
variable {W w w':World} {fs T:List Fact} {x:kC}
end
def GA (x:kC):Prop:=x.ts.length≤60∧x.gs.length≤12∧x.rs.length≤12∧x.cl.length≤8∧x.cu.length≤8∧∀k,k<x.rs.length→(x.rs.getD k Rw.zero).l.length≤8
instance Qp (x:kC):Decidable (GA x):=by unfold GA;infer_instance
def KU.zero:KU:=⟨⟨#[]⟩,0,0⟩
def KU.cells (x:KU):Array Value:= #[.string x.nm,.int .i64 (x.fr:Int),.int .i64 (x.to:Int)]
theorem U6 (b:Bk) (hok:b.Ok) (A:Option Addr) (c B:Nat) (w:World) (hL:aL B w) (hB:B≤w.heap.size) (hr:Rd w w.heap.size 11 A b.evs.length (b.evs.flatMap aN)) (hn:b.evs.length≤1000000):
    Calls Tryz.prog 106 #[.agg (b.cells A c)] w (za w b.err b.out):=by
 refine (dh Tryz.func106 36) ?_
 refine (JP∘JE) fun w1 g1=>(Jp 2∘Jj∘JQ∘JP∘Jy (v:= .agg (b.cells A c)) (h:=by exact Yl.qg rfl rfl aA rfl (fun _ h=>qb (h.blk (i:=0) rfl)))∘JI (h:=by exact fun HM=>CG b hok A c B _ (hL.mem HM hB) (HM.le hB) (HM.old hr) hn)) fun w8 hbw=>(Jp 1∘aY∘Jj) (Ju (fun iT=>?_) fun iT=>?_)
 ·
  intro a Z HM
  have hfit:b.fits=false:=by simpa using iT
  exact Jb Z HM ((JT∘JP∘Jp 2∘Jj∘JZ∘bY) fun HM=>Nj (by unfold Bk.err;rw [if_pos hfit]) de HM.below)
 intro a Z HM
 have hfit:b.fits=true:=by simpa using iT
 have hbl:=CK b
 refine Jb Z HM ((JF∘aF∘JP∘Jy (v:= .agg (b.cells A c)) (h:=by exact Yl.qg rfl rfl aA rfl (fun _ h=>qb (h.blk (i:=0) rfl)))∘JK (h:=by exact fun HM=>q1t b hok A c B _ (hL.mem HM hB) (HM.le hB) (HM.old hr) hn hfit)) fun kU c11 mF lQ=>(Jp 1∘aY∘Jr∘Jp 1∘Jl∘Jp 1∘Jo (vI (8+((b.body).length):Nat)) (by exact zq om om)∘cK 4∘Jp 1∘dR∘Jj∘JQ∘JP∘Jp 2∘aR∘Jj) (Ji (fun fK=>?_) fun fK=>?_))
 ·
  exact (JT∘JP∘Jp 2∘Jj∘JZ∘bY) fun HM=>Nj (by unfold Bk.err;rw [if_neg (by simp [hfit]),if_pos om]) de HM.below
 refine (JF∘aF∘JP∘Jp 1∘Jv 1 [(19,vB (IntKind.u8.wrap ((8+((b.body).length)+4:Nat):Int)))]∘Jo (vB ((8+((b.body).length)+4)%256:Nat)) (by exact kR (8+((b.body).length)+4))∘Jp 2∘Jo (vI ((8+((b.body).length)+4)/256:Nat)) (by exact yI .i64 (8+((b.body).length)+4) (j:=8) (q:=256) rfl rfl)∘Jv 1 [(22,vB (IntKind.u8.wrap (((8+((b.body).length)+4)/256:Nat):Int)))]∘Jo (vB (((8+((b.body).length)+4)/256)%256:Nat)) (by exact kR ((8+((b.body).length)+4)/256))∘Jy (v:=vP 0 0) (h:=by exact Yl.Iw (ad:=⟨0,0,none⟩) (m:=2) (y:=0) (sz:=1) rfl rfl rfl kr de)∘Jy (v:=vB 113) (h:=by exact Yl.qn rfl rfl kr (fun _ h=>(hL.mem h hB).nO))∘Jy (v:=vP 0 1) (h:=by exact Yl.Iw (ad:=⟨0,0,none⟩) (m:=2) (y:=1) (sz:=1) rfl rfl rfl kr de)∘Jy (v:=vB 116) (h:=by exact Yl.qn rfl rfl kr (fun _ h=>(hL.mem h hB).nP))∘Jg 0 O1∘JU aB #[vB ((8+((b.body).length)+4)%256:Nat),vB (((8+((b.body).length)+4)/256)%256:Nat),vB 0,vB 0,vB 113,vB 116,vB 1,vB b.kind]) fun EU g29=>(Jp 1∘aI∘Jr∘Jp 2) fun a Z HM=>?_
 refine fo Z 2 rfl rfl ?_
 replace HM:=HM.dz (i:=0) (n:=8) (size:=1) rfl rfl de
 refine qV Z HM (i:=0) rfl aB rfl rfl rfl (news:=(b.body.map B8)) (HM.rd (i:=1) rfl) (zk _) om om rfl de ?_
 clear Z HM;intro a w32 A32 c32 Z HM hc32
 rw [show ((#[vB ((8+((b.body).length)+4)%256:Nat),vB (((8+((b.body).length)+4)/256)%256:Nat),vB 0,vB 0,vB 113,vB 116,vB 1,vB b.kind]).toList)++(b.body.map B8)=b.raw.map B8 from qxn om] at HM
 refine Jb Z HM ((JK (h:=by exact fun HM=>q1s _ _ _ b.raw B _ (hL.mem HM hB) (HM.le hB) (HM.rd (i:=0) rfl) (CJ b) om (E5 hok))) fun jh iZ Ey kH=>(Jx∘Jx∘Jp 2∘Jj∘JZ∘JM (.t (.f .n))) fun a Z HM=>?_)
 have mK:b.err=0:=by unfold Bk.err;rw [if_neg (by simp [hfit]),if_neg om]
 have mK:b.err=0:=by unfold Bk.err;rw [if_neg (by simp [hfit]),if_neg om]
 exact jC rfl Z rfl rfl ((by rw [mK,Nk mK];exact ⟨⟨_,_,rfl,HM.own (i:=0) rfl,kH⟩,HM.below⟩))
theorem qt9 (b:Bk) (hok:b.Ok) (A:Option Addr) (c B:Nat) (w:World) (hL:aL B w) (hB:B≤w.heap.size) (hr:Rd w w.heap.size 11 A b.evs.length (b.evs.flatMap aN)) (hn:b.evs.length≤1000000):
    Calls Tryz.prog 45 #[.agg (b.cells A c)] w (Is w (vI (b.err:Int))):=by
 refine (dh Tryz.func45 11) ?_
 exact (JP∘JE) fun w1 g1=>(Jp 1∘Jr∘Jy (v:= .agg (b.cells A c)) (h:=by exact Yl.qg rfl rfl aA rfl (fun _ h=>qb (h.blk (i:=0) rfl)))∘JK (h:=by exact fun HM=>U6 b hok A c B _ (hL.mem HM hB) (HM.le hB) (HM.old hr) hn)) fun A7 c7 w7 U7=>(Jp 1∘Jx∘Jx∘Jp 2∘aI∘Jr∘Jp 2∘aY∘Jj∘JZ) iX
theorem qc3 (W w:World) (gb gk:Nat) (A:Option Addr) (n c:Nat) (l:List Nat) (ny:Bool) (most:Nat) (fr:List Fact) (hl:∀b∈l,b<256) (hln:n=l.length) (hn:n≤1000000000) (hr0:Rd W W.heap.size 1 A n (l.map B8)) (hc0:n≤c) (U8:most≤281474976710657)
    (HM:Mem W w (.blk gb #[.slice A n c] 30:: .blk gk #[.bool ny] 4::fr)):
    Calls Tryz.prog 249 #[vI most,vP gb 0,vP gk 0] w (UW W gb gk l ny most fr):=by
 have hr:Rd W W.heap.size 1 A l.length (l.map B8):=hln▸hr0
 have hc:l.length≤c:=hln▸hc0
 refine uT Tryz.func249 [vI most,vP gb 0,vP gk 0] [(0,vI most),(1,vP gb 0),(2,vP gk 0)] fun a Z=>?_
 refine Jb Z HM ((JP∘Jp 1∘Jq) fun a Z HM=>?_)
 have hvl:=uw l
 have hvb:=Ib l hl
 have htv:=zS most l
 refine Jb Z HM ((JG∘JP∘Jc O0∘JL (h:=by exact fun HM=>RH A n c l _ (hln▸HM.old hr) hl om)) ?_)
 rintro HM _ rE ⟨rfl,hbw⟩
 refine ⟨_,rfl,_,HM.call hbw,?_⟩
 refine (Jp 1∘Jx∘Jx∘Jx∘Jp 3∘Jr∘Jc O1∘Jp 1) (Ju (fun eF=>?_) fun eF=>?_)
 ·
  refine (Jp 4) (Je (fun lH=>?_) fun lH=>?_)
  ·
   refine (Jp 2∘Jw .u64∘Jp 2∘JW dO aZ) fun xB=>(qI∘Jr∘Jc O0∘Jp 1∘Jy (h:=by exact Yl.sliceFrom aB (j:=((av l).2.1)) rfl rfl rfl om)∘JW aZ aZ) fun rX=>(qI∘Jr∘Jp 2∘Jw .u64∘Jy (v:=vQ (if (most:Int)<((av l).1:Int) then (most:Int) else ((av l).1:Int))) (h:=by exact Yl.min rfl rfl rfl)∘Jo (vQ (au most l)) (by rw [Nl])∘Jw .i64∘Jp 1∘aI∘Jj∘JZ) fun a Z HM=>?_
   replace HM:=HM.pt (fs':=(.blk gb #[.slice (if c=((av l).2.1) then A else A.map (·.add (((av l).2.1)*1))) (n- ((av l).2.1)) (c- ((av l).2.1))] 30:: .blk gk #[.bool (decide (((av l).1:Int)≤(most:Int)))] 4::fr)) 2 [0,1]
   replace HM:=HM.pt (fs':=(.blk gb #[.slice (if c=((av l).2.1) then A else A.map (·.add (((av l).2.1)*1))) (n- ((av l).2.1)) (c- ((av l).2.1))] 30:: .blk gk #[.bool (decide (((av l).1:Int)≤(most:Int)))] 4::fr)) 2 [0,1]
   exact jB rfl Z rfl (Nn hr hc (by rw [eF,Bool.true_and];unfold aO;rw [Bool.eq_iff_iff];simp only [decide_eq_true_eq];omega) hln HM)
  refine (Jp 5∘JW dO aZ) fun xB=>(qI∘Jr∘Jc O0∘Jp 1∘Jy (h:=by exact Yl.sliceFrom aB (j:=((av l).2.1)) rfl rfl rfl om)∘JW aZ aZ) fun rX=>(qI∘Jr∘Jp 2∘Jw .u64∘Jy (v:=vQ (if (most:Int)<((av l).1:Int) then (most:Int) else ((av l).1:Int))) (h:=by exact Yl.min rfl rfl rfl)∘Jo (vQ (au most l)) (by rw [Nl])∘Jw .i64∘Jp 1∘aI∘Jj∘JZ) fun a Z HM=>?_
  replace HM:=HM.pt (fs':=(.blk gb #[.slice (if c=((av l).2.1) then A else A.map (·.add (((av l).2.1)*1))) (n- ((av l).2.1)) (c- ((av l).2.1))] 30:: .blk gk #[.bool false] 4::fr)) 2 [0,1]
  replace HM:=HM.pt (fs':=(.blk gb #[.slice (if c=((av l).2.1) then A else A.map (·.add (((av l).2.1)*1))) (n- ((av l).2.1)) (c- ((av l).2.1))] 30:: .blk gk #[.bool false] 4::fr)) 2 [0,1]
  exact jB rfl Z rfl (Nn hr hc (by rw [qt8 om,Bool.and_false]) hln HM)
 refine (Jv 9 [(24,.bool false)]∘JW dO aZ) fun xB=>(yN∘Jr∘Jc O0∘Jp 1∘Jy (h:=by exact Yl.sliceFrom aB (j:=((av l).2.1)) rfl rfl rfl om)∘JW aZ aZ) fun rX=>(yN∘Jr∘Jp 2∘Jw .u64∘Jy (v:=vQ (if (most:Int)<((av l).1:Int) then (most:Int) else ((av l).1:Int))) (h:=by exact Yl.min rfl rfl rfl)∘Jo (vQ (au most l)) (by rw [Nl])∘Jw .i64∘Jp 1∘fJ∘Jj∘JZ) fun a Z HM=>?_
 replace HM:=HM.pt (fs':=(.blk gb #[.slice (if c=((av l).2.1) then A else A.map (·.add (((av l).2.1)*1))) (n- ((av l).2.1)) (c- ((av l).2.1))] 30:: .blk gk #[.bool false] 4::fr)) 2 [0,1]
 replace HM:=HM.pt (fs':=(.blk gb #[.slice (if c=((av l).2.1) then A else A.map (·.add (((av l).2.1)*1))) (n- ((av l).2.1)) (c- ((av l).2.1))] 30:: .blk gk #[.bool false] 4::fr)) 2 [0,1]
 exact jB rfl Z rfl (Nn hr hc (by rw [eF,Bool.false_and]) hln HM)
theorem Jz {l:List Nat} {es:List Ev} {L er:Nat} (h3:oP l=true) (h0:0<au 4096 (qa (qa l)))
  (hq:bq ⟨(au 281474976710656 (qa (qa (qa l))):Int),(au 281474976710656 (qa (qa (qa (qa l)))):Int)⟩ (au 63 l) (au 4096 (qa (qa l)):Int) (qa (qa (qa (qa (qa l)))))=(es,L,er)) (her:er=0):
  q6 l=zx (au 63 l) (au 281474976710656 (qa l)) (qa (qa (qa l))) (es,L,0):=by
 rw [U0 h3 h0 hq,her]
theorem xC (k:Nat) (hk:k=1∨k=2) (A:Option Addr) (n c:Nat) (l:List Nat) (B:Nat) (w:World) (hL:aL B w) (hB:B≤w.heap.size) (hr:Rd w w.heap.size 1 A n (l.map B8)) (hc:n≤c) (hln:n=l.length) (hn:n≤100000000) (hl:∀b∈l,b<256):
    Calls Tryz.prog 182 #[vB k,.slice A n c] w (zV w (qc2 k l)):=by
 refine (iG Tryz.func182 99) ?_
 refine (JP∘uX) fun w3 g3=>(JA #[vB 0,vB 0,vI 0,vI 0,vN]) fun w4 g4=>(Jp 1∘Jr∘JA #[.bool false]) fun w6 g6=>(JW aZ aZ) fun aev=>(Jr∘Jy (h:=by exact Yl.makeFunc (fst:=[]) (caps:=[vP g3 0,vP g6 0]) rfl rfl rfl)∘Jp 1∘aR∘Jr∘Jp 1∘Jy (v:= .agg #[vB k,vB 0,vI 0,vI 0,vN]) (h:=by exact Yl.build (vs:=[(0,vB k)]) rfl kr kr)∘JA #[vB 0,vB 0,vI 0,vI 0,vN]) fun w8 g8=>(JV aA aZ) fun rX=>(aY∘Jj∘JQ∘JP∘Jp 2∘aR∘Jj) (Ju (fun iC=>?_) fun iC=>?_)
 ·
  intro a Z HM
  have rY:=eq_of_beq iC
  revert HM;revert a;repeat (first|clear Z|clear HM)
  intro a Z HM
  obtain rfl:k=2:=by omega
  refine Jb Z HM ((JT∘JP∘Jp 1) fun a Z HM=>?_)
  refine fo Z 1 rfl rfl ?_
  replace HM:=HM.pk (fs':=[.blk g3 #[.slice A n c] 30,.blk g6 #[.bool true] 4,.blk g8 #[vB (2:Nat),vB 0,vI 0,vI 0,vN] 85,.blk g4 #[vB 0,vB 0,vI 0,vI 0,vN] 85]) [3,1,0,2]
  have hl1:=zc hl
  refine qX Z (f:=249) (vs:=[vI 281474976710657]) (fst:=[]) (caps:=[vP g3 0,vP g6 0]) rfl rfl rfl kr rfl de (qc3 w _ g3 g6 A n c l true 281474976710657 [.blk g8 #[vB (2:Nat),vB 0,vI 0,vI 0,vN] 85,.blk g4 #[vB 0,vB 0,vI 0,vI 0,vN] 85] hl hln om hr hc om HM) ?_
  rintro _ pK ⟨rfl,JC,JN,hr1,hc1,hm⟩
  refine ⟨_,rfl,?_⟩
  replace HM:=hm
  clear Z;intro a Z
  have ht0:=zS 281474976710657 l
  have hs0:=zU l
  refine Jb Z HM ((Jf 3∘JW fF jm) fun Fh=>(uV∘Jj) fun a Z HM=>?_)
  refine qw (fun aS wS=>Fr aS 99 [] [(5,.bool ((pQ l).isSome)),(18,.bool true),(8,vP g8 0),(7,.func (.func 249) #[] #[vP g3 0,vP g6 0]),(6,vP g6 0),(4,vP g4 0),(3,vP g3 0),(0,vB (2:Nat))]∧Mem w wS [.blk g3 #[.slice JC ((qa l).length) JN] 30,.blk g6 #[.bool (true&&aO 281474976710657 l)] 4,.blk g8 #[vB (2:Nat),vB 0,vI 0,vI (au 281474976710657 l),vN] 85,.blk g4 #[vB (2:Nat),vB 0,vI 0,vI (au 281474976710657 l),vN] 85]) ?_ ?_
  ·
   refine Jb Z HM ((Vs (.t (.t (.t (.f .n)))) []) fun ET=>(Vy 0 (v:= .agg #[vB (2:Nat),vB 0,vI 0,vI (au 281474976710657 l),vN]) (h:=by exact Yl.qg rfl rfl aA rfl (fun _ h=>qb (h.blk (i:=2) rfl)))∘Vc 1 O1∘Vp [2]) fun a Z HM HS=>?_)
   rcases Z.tf 24 rfl with ⟨dZ,Z⟩|⟨dZ,Z⟩
   ·
    refine Vb Z HM HS ((Vc 3 O0∘Vl 4∘Vp [5,6,7]) fun a Z HM HS=>?_)
    rcases Z.tf 29 rfl with ⟨jK,Z⟩|⟨jK,Z⟩
    ·
     have hd29:=eq_of_beq jK
     refine Vb Z HM HS ((Vy 8 (v:= .agg #[vB (2:Nat),vB 0,vI 0,vI (au 281474976710657 l),vN]) (h:=by exact Yl.qg rfl rfl aA rfl (fun _ h=>qb (h.blk (i:=2) rfl)))∘VI 9 (.t (.t (.t (.f .n)))) (h:=by exact fun HM=>CG ⟨2,0,0,(au 281474976710657 l:Int),[]⟩ (Fa ht0) none 0 B _ (hL.mem HM hB) (HM.le hB) Rd.nil (by show 0≤_;omega))) fun JY hbw=>(Vp [10]) fun a Z HM HS=>?_)
     refine s_on Z 11 rfl (bN Z HM 3 rfl rfl rfl rfl rfl aA rfl rfl (by simp [Value.oneCell']) fun xD HM=>?_)
     refine aK (HM.pk [0,1,2]) (fun HS=>?_)
     refine Vb Z HM HS ((Vp [12]∘Vd∘aI) fun a Z HM=>?_)
     have Z:=Z.sp 5 (.bool ((pQ l).isSome)) rfl (congrArg Value.bool (by rw [Np,show aO 281474976710657 l=true by simpa using dZ,decide_eq_true om,Bool.true_and,Bool.true_and]))
     exact ⟨Z.sub kr,HM.pk [0,1,2,3]⟩
    have hd29:=ne_of_beq_false jK
    refine ap Z (fun _=>HS) [8,9,10] (bt 13 [11,12]) [(32,.bool false)] fun a Z=>?_
    refine s_on Z 11 rfl (bN Z HM 3 rfl rfl rfl rfl rfl aA rfl rfl (by simp [Value.oneCell']) fun xD HM=>?_)
    refine aK (HM.pk [0,1,2]) (fun HS=>?_)
    refine ap Z (fun _=>HS) [12] (bt 13 []) [(5,.bool false)] fun a Z=>?_
    refine qd kr ?_
    have Z:=Z.sp 5 (.bool ((pQ l).isSome)) rfl (congrArg Value.bool (by rw [Np,decide_eq_false om,Bool.false_and,Bool.and_false]))
    exact ⟨Z.sub kr,HM.pk [0,1,2,3]⟩
   refine ap Z (fun _=>HS) [3,4,5,6,7,8,9,10] (bt 13 [11,12]) [(32,.bool false)] fun a Z=>?_
   refine s_on Z 11 rfl (bN Z HM 3 rfl rfl rfl rfl rfl aA rfl rfl (by simp [Value.oneCell']) fun xD HM=>?_)
   refine aK (HM.pk [0,1,2]) (fun HS=>?_)
   refine ap Z (fun _=>HS) [12] (bt 13 []) [(5,.bool false)] fun a Z=>?_
   refine qd kr ?_
   have Z:=Z.sp 5 (.bool ((pQ l).isSome)) rfl (congrArg Value.bool (by rw [Np,show aO 281474976710657 l=false by simpa using dZ];rfl))
   exact ⟨Z.sub kr,HM.pk [0,1,2,3]⟩
  clear Z HM;rintro a w6 ⟨Z,HM⟩
  refine Jb Z HM ((JZ) (Ju (fun hb5=>?_) fun hb5=>?_))
  ·
   intro a Z HM
   have hfin:=hb5
   exact dP rfl Z (.cellS (i:=3) Z HM rfl rfl aA rfl) (.tmp Z rfl) (Jk (b:=⟨2,0,0,(au 281474976710657 l:Int),[]⟩) (A:=none) (c:=0) (by rw [UZ];exact qon hfin) (World.ownsRow_nil _ _ _ _) (Nat.le_refl _) HM.below)
  intro a Z HM
  have hfin:=hb5
  exact dP rfl Z (.cellS (i:=3) Z HM rfl rfl aA rfl) (.tmp Z rfl) (E9 (by rw [UZ];exact Option.not_isSome_iff_eq_none.1 (by rw [hfin];decide)) rfl (by simp [Value.oneCell']) HM.below)
 intro a Z HM
 have rY:=ne_of_beq_false iC
 revert HM;revert a;repeat (first|clear Z|clear HM)
 intro a Z HM
 obtain rfl:k=1:=by omega
 refine Jb Z HM ((JF∘aF∘JP∘Jp 1) fun a Z HM=>?_)
 refine fo Z 1 rfl rfl ?_
 replace HM:=HM.pk (fs':=[.blk g3 #[.slice A n c] 30,.blk g6 #[.bool true] 4,.blk g8 #[vB (1:Nat),vB 0,vI 0,vI 0,vN] 85,.blk g4 #[vB 0,vB 0,vI 0,vI 0,vN] 85]) [3,1,0,2]
 have hl1:=zc hl
 refine qX Z (f:=249) (vs:=[vI 63]) (fst:=[]) (caps:=[vP g3 0,vP g6 0]) rfl rfl rfl kr rfl de (qc3 w _ g3 g6 A n c l true 63 [.blk g8 #[vB (1:Nat),vB 0,vI 0,vI 0,vN] 85,.blk g4 #[vB 0,vB 0,vI 0,vI 0,vN] 85] hl hln om hr hc om HM) ?_
 rintro _ U9 ⟨rfl,JC,JN,hr1,hc1,hm⟩
 refine ⟨_,rfl,?_⟩
 replace HM:=hm
 clear Z;intro a Z
 have ht0:=zS 63 l
 have hs0:=zU l
 refine Jb Z HM ((Jv 1 [(35,vB (IntKind.u8.wrap (au 63 l:Int)))]∘Jo (vB (au 63 l)) (by exact q58 rfl om)∘Jp 1) fun a Z HM=>?_)
 refine fo Z 4 rfl rfl ?_
 replace HM:=HM.pk (fs':=[.blk g3 #[.slice JC ((qa l).length) JN] 30,.blk g6 #[.bool (true&&aO 63 l)] 4,.blk g8 #[vB (1:Nat),vB 0,vI 0,vI 0,vN] 85,.blk g4 #[vB 0,vB 0,vI 0,vI 0,vN] 85]) [0,1,2,3]
 have hl2:=zc hl1
 refine qX Z (f:=249) (vs:=[vI 281474976710656]) (fst:=[]) (caps:=[vP g3 0,vP g6 0]) rfl rfl rfl kr rfl de (qc3 w _ g3 g6 JC ((qa l).length) JN (qa l) (true&&aO 63 l) 281474976710656 [.blk g8 #[vB (1:Nat),vB 0,vI 0,vI 0,vN] 85,.blk g4 #[vB 0,vB 0,vI 0,vI 0,vN] 85] hl1 rfl om hr1 hc1 om HM) ?_
 rintro _ zR ⟨rfl,Ve,Vg,hr2,hc2,hm⟩
 refine ⟨_,rfl,?_⟩
 replace HM:=hm
 clear Z;intro a Z
 have ht1:=zS 281474976710656 (qa l)
 have hs1:=zU (qa l)
 refine Jb Z HM ((Jf 1∘JW fF dO) fun aew=>(Jf 2∘JW fF fF) fun aex=>(qI∘Jr∘Jp 1) fun a Z HM=>?_)
 refine fo Z 1 rfl rfl ?_
 replace HM:=HM.pk (fs':=[.blk g3 #[.slice Ve ((qa (qa l)).length) Vg] 30,.blk g6 #[.bool ((true&&aO 63 l)&&aO 281474976710656 (qa l))] 4,.blk g8 #[vB (1:Nat),vB (au 63 l),vI (au 281474976710656 (qa l)),vI 0,vN] 85,.blk g4 #[vB 0,vB 0,vI 0,vI 0,vN] 85]) [0,1,2,3]
 have hl3:=zc hl2
 refine qX Z (f:=249) (vs:=[vI 4096]) (fst:=[]) (caps:=[vP g3 0,vP g6 0]) rfl rfl rfl kr rfl de (qc3 w _ g3 g6 Ve ((qa (qa l)).length) Vg (qa (qa l)) ((true&&aO 63 l)&&aO 281474976710656 (qa l)) 4096 [.blk g8 #[vB (1:Nat),vB (au 63 l),vI (au 281474976710656 (qa l)),vI 0,vN] 85,.blk g4 #[vB 0,vB 0,vI 0,vI 0,vN] 85] hl2 rfl om hr2 hc2 om HM) ?_
 rintro _ w41 ⟨rfl,J2,J3,hr3,hc3,hm⟩
 refine ⟨_,rfl,?_⟩
 replace HM:=hm
 clear Z;intro a Z
 have ht2:=zS 4096 (qa (qa l))
 have hs2:=zU (qa (qa l))
 refine Jb Z HM ((Jp 1∘bT∘Jj∘JQ∘JP∘Jc O1∘Jp 1) (Ju (fun eB=>?_) fun eB=>?_))
 ·
  intro a Z HM
  have h3:oP l=true:=by rw [←tk3];exact eB
  refine Jb Z HM ((Jp 3∘dR∘Jj) (Ji (fun nN=>?_) fun nN=>?_))
  ·
   refine (JT∘JP∘Jp 1) fun a Z HM=>?_
   refine fo Z 1 rfl rfl ?_
   replace HM:=HM.pk (fs':=[.blk g3 #[.slice J2 ((qa (qa (qa l))).length) J3] 30,.blk g6 #[.bool (((true&&aO 63 l)&&aO 281474976710656 (qa l))&&aO 4096 (qa (qa l)))] 4,.blk g8 #[vB (1:Nat),vB (au 63 l),vI (au 281474976710656 (qa l)),vI 0,vN] 85,.blk g4 #[vB 0,vB 0,vI 0,vI 0,vN] 85]) [0,1,2,3]
   have hl4:=zc hl3
   refine qX Z (f:=249) (vs:=[vI 281474976710656]) (fst:=[]) (caps:=[vP g3 0,vP g6 0]) rfl rfl rfl kr rfl de (qc3 w _ g3 g6 J2 ((qa (qa (qa l))).length) J3 (qa (qa (qa l))) (((true&&aO 63 l)&&aO 281474976710656 (qa l))&&aO 4096 (qa (qa l))) 281474976710656 [.blk g8 #[vB (1:Nat),vB (au 63 l),vI (au 281474976710656 (qa l)),vI 0,vN] 85,.blk g4 #[vB 0,vB 0,vI 0,vI 0,vN] 85] hl3 rfl om hr3 hc3 om HM) ?_
   rintro _ w48 ⟨rfl,Vh,Vi,hr4,hc4,hm⟩
   refine ⟨_,rfl,?_⟩
   replace HM:=hm
   clear Z;intro a Z
   have ht3:=zS 281474976710656 (qa (qa (qa l)))
   have hs3:=zU (qa (qa (qa l)))
   refine Jb Z HM ((Jp 1) fun a Z HM=>?_)
   refine fo Z 3 rfl rfl ?_
   replace HM:=HM.pk (fs':=[.blk g3 #[.slice Vh ((qa (qa (qa (qa l)))).length) Vi] 30,.blk g6 #[.bool ((((true&&aO 63 l)&&aO 281474976710656 (qa l))&&aO 4096 (qa (qa l)))&&aO 281474976710656 (qa (qa (qa l))))] 4,.blk g8 #[vB (1:Nat),vB (au 63 l),vI (au 281474976710656 (qa l)),vI 0,vN] 85,.blk g4 #[vB 0,vB 0,vI 0,vI 0,vN] 85]) [0,1,2,3]
   have hl5:=zc hl4
   refine qX Z (f:=249) (vs:=[vI 281474976710656]) (fst:=[]) (caps:=[vP g3 0,vP g6 0]) rfl rfl rfl kr rfl de (qc3 w _ g3 g6 Vh ((qa (qa (qa (qa l)))).length) Vi (qa (qa (qa (qa l)))) ((((true&&aO 63 l)&&aO 281474976710656 (qa l))&&aO 4096 (qa (qa l)))&&aO 281474976710656 (qa (qa (qa l)))) 281474976710656 [.blk g8 #[vB (1:Nat),vB (au 63 l),vI (au 281474976710656 (qa l)),vI 0,vN] 85,.blk g4 #[vB 0,vB 0,vI 0,vI 0,vN] 85] hl4 rfl om hr4 hc4 om HM) ?_
   rintro _ IX ⟨rfl,J4,J5,H7,hc5,hm⟩
   refine ⟨_,rfl,?_⟩
   replace HM:=hm
   clear Z;intro a Z
   have ht4:=zS 281474976710656 (qa (qa (qa (qa l))))
   have hs4:=zU (qa (qa (qa (qa l))))
   refine Jb Z HM ((Jy (v:= .agg #[vI (au 281474976710656 (qa (qa (qa l)))),vI (au 281474976710656 (qa (qa (qa (qa l)))))]) (h:=by exact Yl.build (vs:=[(0,vI (au 281474976710656 (qa (qa (qa l))))),(1,vI (au 281474976710656 (qa (qa (qa (qa l))))))]) rfl kr kr)∘JA #[vI 0,vI 0]) fun rE g10=>(JV ⟨kr,kr⟩ aZ) fun Vj=>(fJ∘Jq) fun a Z HM=>?_)
   obtain ⟨es,L,er,hq⟩:∃es L er,bq ⟨(au 281474976710656 (qa (qa (qa l))):Int),(au 281474976710656 (qa (qa (qa (qa l)))):Int)⟩ (au 63 l) (au 4096 (qa (qa l)):Int) (qa (qa (qa (qa (qa l)))))=(es,L,er):=⟨_,_,_,rfl⟩
   refine Jb Z HM ((JG∘JP∘Jy (v:= .agg #[vI (au 281474976710656 (qa (qa (qa l)))),vI (au 281474976710656 (qa (qa (qa (qa l)))))]) (h:=by exact Yl.qg rfl rfl ⟨kr,kr⟩ rfl (fun _ h=>qb (h.blk (i:=0) rfl)))∘Jg 1 O3∘Jp 1∘Jc O1∘JK (h:=by exact fun HM=>q4p ⟨(au 281474976710656 (qa (qa (qa l))):Int),(au 281474976710656 (qa (qa (qa (qa l)))):Int)⟩ (au 63 l) om J4 ((qa (qa (qa (qa (qa l))))).length) J5 (au 4096 (qa (qa l)):Int) (by unfold aM;omega) (qa (qa (qa (qa (qa l))))) B _ (hL.mem HM hB).laid (HM.le hB) (HM.old H7) hc5 hl5 om (.inl om) hq)) fun pV oQ Vk zZ=>(Jp 1∘Jx∘Jx∘Jx∘Jp 3∘Jj∘JQ) fun a Z HM=>?_)
   refine qw (fun aS wS=>Fr aS 99 [] [(81,.bool (!(decide (er=0∧(es.getD 0 Ev.zero).seq=(au 281474976710656 (qa (qa (qa l))):Int)∧(es.getD 0 Ev.zero).time=(au 281474976710656 (qa (qa (qa (qa l)))):Int))))),(12,vI L),(11,.slice pV es.length oQ),(10,vP g10 0),(46,.bool true),(9,vI (au 4096 (qa (qa l)))),(18,.bool false),(8,vP g8 0),(7,.func (.func 249) #[] #[vP g3 0,vP g6 0]),(6,vP g6 0),(5,.bool false),(4,vP g4 0),(3,vP g3 0),(0,vB (1:Nat))]∧Mem w wS [.row (.slice pV es.length oQ) es.length (es.flatMap aN) 73 11,.blk g10 #[vI (au 281474976710656 (qa (qa (qa l)))),vI (au 281474976710656 (qa (qa (qa (qa l)))))] 110,.blk g3 #[.slice J4 ((qa (qa (qa (qa (qa l))))).length) J5] 30,.blk g6 #[.bool (((((true&&aO 63 l)&&aO 281474976710656 (qa l))&&aO 4096 (qa (qa l)))&&aO 281474976710656 (qa (qa (qa l))))&&aO 281474976710656 (qa (qa (qa (qa l)))))] 4,.blk g8 #[vB (1:Nat),vB (au 63 l),vI (au 281474976710656 (qa l)),vI 0,vN] 85,.blk g4 #[vB 0,vB 0,vI 0,vI 0,vN] 85]) ?_ ?_
   ·
    refine Jb Z HM ((Vs .n []) fun aez=>(Vp [0,1,2]) fun a Z HM HS=>?_)
    rcases Z.tf 64 rfl with ⟨iU,Z⟩|⟨iU,Z⟩
    ·
     have Aa:=bne_iff_ne.1 iU
     refine Vb Z HM HS ((Vq [3,4,5,6,7,8,9,10,11,12,13,14,15,16,17,18,19] [(81,.bool true)]∘Vd∘fJ) fun a Z HM=>?_)
     have Z:=Z.sp 81 (.bool (!(decide (er=0∧(es.getD 0 Ev.zero).seq=(au 281474976710656 (qa (qa (qa l))):Int)∧(es.getD 0 Ev.zero).time=(au 281474976710656 (qa (qa (qa (qa l)))):Int))))) rfl (congrArg Value.bool (by rw [decide_eq_false om];rfl))
     exact ⟨Z.sub kr,HM.pk [0,1,2,3,4,5]⟩
    have Aa:=bne_eq_false_iff_eq.1 iU
    have her:er=0:=by omega
    have hq0:=hq;rw [her] at hq0;obtain ⟨rw1,rw2,rw3,rw4,Vm⟩:=I5 (cpu:=au 63 l) om hl5 hq0
    refine ap Z (fun _=>HS) [3,7] (bf 20 [0,1,2,3,7]) [(69,vP g10 0),(65,.slice pV es.length oQ)] fun a Z=>?_
    revert HM;revert a;repeat (first|clear Z|clear HM)
    intro a Z HM
    obtain ⟨nR,rfl⟩:=zb (HM.own (i:=0) rfl) (Nat.lt_of_le_of_lt (Nat.zero_le _) (show 0<es.length from by omega))
    refine cB Z HS 4 rfl (v:=vP nR 0) (Yl.indexAddr (ad:=⟨nR,0,none⟩) (y:=0) (sz:=11) rfl rfl rfl om kr) fun a Z=>?_
    refine ap Z (fun _=>HS) [5] (bf 20 [0,1,2,3,4,5,7]) [(67,vP nR 0)] fun a Z=>?_
    refine cB Z HS 6 rfl (v:=vI ((es.getD 0 Ev.zero).seq)) (Yl.qn rfl rfl kr (fun _ h=>(by have:=h.uz qv (i:=0) rfl (k:=0) (off:=0) (x:=(es.getD 0 Ev.zero)) ((getD_at Ev.zero (k:=0) (by first|omega|(simp;omega)))) rfl;simpa using this))) fun a Z=>?_
    refine jA Z HS 8 1 fun a Z=>?_
    refine ap Z (fun _=>HS) [9,10,11] (bt 20 [12,13,14,15,16,17,18,19]) [(73,.bool (((es.getD 0 Ev.zero).seq:Int) !=(au 281474976710656 (qa (qa (qa l))):Int)))] fun a Z=>?_
    refine Jb Z HM (Jh (fun Ad=>?_) fun Ad=>?_)
    ·
     intro a Z HM
     refine ap Z (fun _=>HS) [12,13,14,15,16,17,18,19] (bt 20 []) [(81,.bool true)] fun a Z=>?_
     refine qd kr ?_
     have Z:=Z.sp 81 (.bool (!(decide (er=0∧(es.getD 0 Ev.zero).seq=(au 281474976710656 (qa (qa (qa l))):Int)∧(es.getD 0 Ev.zero).time=(au 281474976710656 (qa (qa (qa (qa l)))):Int))))) rfl (congrArg Value.bool (by rw [decide_eq_false om];rfl))
     exact ⟨Z.sub kr,HM.pk [0,1,2,3,4,5]⟩
    intro a Z HM
    refine ap Z (fun _=>HS) [12,16] (bt 20 [13,14,15,17,18,19]) [(78,vP g10 1),(74,vS nR es.length oQ)] fun a Z=>?_
    refine cB Z HS 13 rfl (v:=vP nR 0) (Yl.indexAddr (ad:=⟨nR,0,none⟩) (y:=0) (sz:=11) rfl rfl rfl om kr) fun a Z=>?_
    refine ap Z (fun _=>HS) [14] (bt 20 [15,17,18,19]) [(76,vP nR 1)] fun a Z=>?_
    refine cB Z HS 15 rfl (v:=vI ((es.getD 0 Ev.zero).time)) (Yl.qn rfl rfl kr (fun _ h=>h.uz qv (i:=0) rfl (k:=0) (off:=1) (x:=(es.getD 0 Ev.zero)) ((getD_at Ev.zero (k:=0) (by first|omega|(simp;omega)))) rfl)) fun a Z=>?_
    refine jA Z HS 17 1 fun a Z=>?_
    refine ap Z (fun _=>HS) [18,19] (bt 20 []) [(81,.bool (((es.getD 0 Ev.zero).time:Int) !=(au 281474976710656 (qa (qa (qa (qa l)))):Int)))] fun a Z=>?_
    refine qd kr ?_
    have Z:=Z.sp 81 (.bool (!(decide (er=0∧(es.getD 0 Ev.zero).seq=(au 281474976710656 (qa (qa (qa l))):Int)∧(es.getD 0 Ev.zero).time=(au 281474976710656 (qa (qa (qa (qa l)))):Int))))) rfl (congrArg Value.bool (by rw [Bool.eq_iff_iff,bne_iff_ne,Bool.not_eq_true',decide_eq_false_iff_not];omega))
    exact ⟨Z.sub kr,HM.pk [0,1,2,3,4,5]⟩
   clear Z HM;rintro a Cx ⟨Z,HM⟩
   refine Jb Z HM (Ju (fun nS=>?_) fun nS=>?_)
   ·
    intro a Z HM
    have Nu:=of_decide_eq_false ((Bool.not_eq_true' _).mp nS)
    have hz:¬(er=0∧(es.getD 0 Ev.zero).seq=(au 281474976710656 (qa (qa (qa l))):Int)∧(es.getD 0 Ev.zero).time=(au 281474976710656 (qa (qa (qa (qa l)))):Int)):=fun hh=>by rw [decide_eq_true hh] at nS;cases nS
    refine Jb Z HM ((JT∘JP∘Jy (v:= .agg #[vB 0,vB 0,vI 0,vI 0,vN]) (h:=by exact Yl.build (vs:=[]) rfl kr kr)∘JV aA Cn) fun ED=>(Jp 1∘aR∘Jj∘JZ) fun a Z HM=>?_)
    exact dP rfl Z (.cellS (i:=5) Z HM rfl rfl aA rfl) (.tmp Z rfl) (E9 (by rw [zW,U0 h3 om hq];exact U1 (fun hh=>hz ⟨hh.1,hh.2.1,hh.2.2.1⟩)) rfl (by simp [Value.oneCell']) HM.below)
   intro a Z HM
   have Nu:=of_decide_eq_true ((Bool.not_eq_false' _).mp nS)
   have hz:er=0∧(es.getD 0 Ev.zero).seq=(au 281474976710656 (qa (qa (qa l))):Int)∧(es.getD 0 Ev.zero).time=(au 281474976710656 (qa (qa (qa (qa l)))):Int):=Decidable.byContradiction fun hh=>by rw [decide_eq_false hh] at nS;cases nS
   have her:=hz.1
   have hq0:=hq;rw [her] at hq0;obtain ⟨rw1,rw2,rw3,rw4,Vm⟩:=I5 (cpu:=au 63 l) om hl5 hq0
   refine Jb Z HM ((JF∘aF∘Vs (.t (.t (.t (.t (.f .n))))) [6]) fun vw=>(Vp [0,2]∘Vf 4 4∘Vc 1 O2∘Vy 3 (h:=by exact Yl.sliceFrom aB (j:=L) rfl rfl rfl om)) fun a Z HM HS=>?_)
   refine s_on Z 5 rfl (gu Z HM 4 fun Fj HM=>?_)
   refine aK (HM.pk [0,1,2,3,5]) (fun HS=>?_)
   refine s_on Z 6 rfl (gu Z HM 2 fun Vr HM=>?_)
   refine fZ kr ?_
   refine qd kr ?_
   refine qw (fun aS wS=>Fr aS 99 [] [(5,.bool ((q6 l).isSome)),(81,.bool false),(11,.slice pV es.length oQ),(10,vP g10 0),(46,.bool true),(9,vI (au 4096 (qa (qa l)))),(18,.bool false),(8,vP g8 0),(7,.func (.func 249) #[] #[vP g3 0,vP g6 0]),(6,vP g6 0),(4,vP g4 0),(3,vP g3 0),(0,vB (1:Nat))]∧Mem w wS [.row (.slice pV es.length oQ) es.length (es.flatMap aN) 73 11,.blk g10 #[vI (au 281474976710656 (qa (qa (qa l)))),vI (au 281474976710656 (qa (qa (qa (qa l)))))] 110,.blk g3 #[.slice (if J5=L then J4 else J4.map (·.add (L*1))) (((qa (qa (qa (qa (qa l))))).length)-L) (J5-L)] 30,.blk g6 #[.bool (((((true&&aO 63 l)&&aO 281474976710656 (qa l))&&aO 4096 (qa (qa l)))&&aO 281474976710656 (qa (qa (qa l))))&&aO 281474976710656 (qa (qa (qa (qa l)))))] 4,.blk g8 #[vB (1:Nat),vB (au 63 l),vI (au 281474976710656 (qa l)),vI 0,.slice pV es.length oQ] 85,.blk g4 #[vB (1:Nat),vB (au 63 l),vI (au 281474976710656 (qa l)),vI 0,.slice pV es.length oQ] 85]) ?_ ?_
   ·
    refine Jb Z HM ((Vs (.t (.t (.t (.t (.t (.f .n)))))) []) fun Fp=>(Vy 0 (v:= .agg #[vB (1:Nat),vB (au 63 l),vI (au 281474976710656 (qa l)),vI 0,.slice pV es.length oQ]) (h:=by exact Yl.qg rfl rfl aA rfl (fun _ h=>qb (h.blk (i:=4) rfl)))∘Vc 1 O3∘Vp [2]) fun a Z HM HS=>?_)
    rcases Z.tf 90 rfl with ⟨jP,Z⟩|⟨jP,Z⟩
    ·
     refine Vb Z HM HS ((Vc 3 O2∘Vl 4∘Vp [5,6,7]) fun a Z HM HS=>?_)
     rcases Z.tf 95 rfl with ⟨jQ,Z⟩|⟨jQ,Z⟩
     ·
      have hd95:=eq_of_beq jQ
      refine Vb Z HM HS ((Vy 8 (v:= .agg #[vB (1:Nat),vB (au 63 l),vI (au 281474976710656 (qa l)),vI 0,.slice pV es.length oQ]) (h:=by exact Yl.qg rfl rfl aA rfl (fun _ h=>qb (h.blk (i:=4) rfl)))∘VI 9 (.t (.t (.t (.t (.t (.f .n)))))) (h:=by exact fun HM=>CG ⟨1,au 63 l,(au 281474976710656 (qa l):Int),0,es⟩ (rU om om (fun e he=>(Vm e he).1)) pV oQ B _ (hL.mem HM hB) (HM.le hB) (HM.rd (i:=0) rfl) (by show es.length≤_;omega))) fun Vt hbw=>(Vp [10]) fun a Z HM HS=>?_)
      refine s_on Z 11 rfl (bN Z HM 5 rfl rfl rfl rfl rfl aA rfl rfl (by simp [Value.oneCell']) fun gH HM=>?_)
      refine aK (HM.pk [0,1,2,3,4]) (fun HS=>?_)
      refine Vb Z HM HS ((Vp [12]∘Vd∘aI) fun a Z HM=>?_)
      have Z:=Z.sp 5 (.bool ((q6 l).isSome)) rfl (congrArg Value.bool (by rw [Jz h3 om hq her,Nq ⟨hz.2.1,hz.2.2⟩,show (aO 281474976710656 (qa (qa (qa l)))&&aO 281474976710656 (qa (qa (qa (qa l)))))=true by have h9:=jP;rw [U5 (l:=l),tk3,h3,Bool.true_and] at h9;exact h9,decide_eq_true om,Bool.true_and,Bool.true_and]))
      exact ⟨Z.sub kr,HM.pk [0,1,2,3,4,5]⟩
     have hd95:=ne_of_beq_false jQ
     refine ap Z (fun _=>HS) [8,9,10] (bt 13 [11,12]) [(98,.bool false)] fun a Z=>?_
     refine s_on Z 11 rfl (bN Z HM 5 rfl rfl rfl rfl rfl aA rfl rfl (by simp [Value.oneCell']) fun gH HM=>?_)
     refine aK (HM.pk [0,1,2,3,4]) (fun HS=>?_)
     refine ap Z (fun _=>HS) [12] (bt 13 []) [(5,.bool false)] fun a Z=>?_
     refine qd kr ?_
     have Z:=Z.sp 5 (.bool ((q6 l).isSome)) rfl (congrArg Value.bool (by rw [Jz h3 om hq her,Nq ⟨hz.2.1,hz.2.2⟩,decide_eq_false om,Bool.false_and,Bool.and_false]))
     exact ⟨Z.sub kr,HM.pk [0,1,2,3,4,5]⟩
    refine ap Z (fun _=>HS) [3,4,5,6,7,8,9,10] (bt 13 [11,12]) [(98,.bool false)] fun a Z=>?_
    refine s_on Z 11 rfl (bN Z HM 5 rfl rfl rfl rfl rfl aA rfl rfl (by simp [Value.oneCell']) fun gH HM=>?_)
    refine aK (HM.pk [0,1,2,3,4]) (fun HS=>?_)
    refine ap Z (fun _=>HS) [12] (bt 13 []) [(5,.bool false)] fun a Z=>?_
    refine qd kr ?_
    have Z:=Z.sp 5 (.bool ((q6 l).isSome)) rfl (congrArg Value.bool (by rw [Jz h3 om hq her,Nq ⟨hz.2.1,hz.2.2⟩,show (aO 281474976710656 (qa (qa (qa l)))&&aO 281474976710656 (qa (qa (qa (qa l)))))=false by have h9:=jP;rw [U5 (l:=l),tk3,h3,Bool.true_and] at h9;exact h9,Bool.false_and]))
    exact ⟨Z.sub kr,HM.pk [0,1,2,3,4,5]⟩
   clear Z HM;rintro a oM ⟨Z,HM⟩
   refine Jb Z HM ((JZ) (Ju (fun hb5=>?_) fun hb5=>?_))
   ·
    intro a Z HM
    have hfin:=hb5
    exact dP rfl Z (.cellS (i:=5) Z HM rfl rfl aA rfl) (.tmp Z rfl) (Jk (b:=⟨1,au 63 l,(au 281474976710656 (qa l):Int),0,es⟩) (A:=pV) (c:=oQ) (by rw [zW];rw [Jz h3 om hq her] at hfin⊢;exact q1u hfin) (HM.own (i:=0) rfl) zZ HM.below)
   intro a Z HM
   have hfin:=hb5
   exact dP rfl Z (.cellS (i:=5) Z HM rfl rfl aA rfl) (.tmp Z rfl) (E9 (by rw [zW];exact Option.not_isSome_iff_eq_none.1 (by rw [hfin];decide)) rfl (by simp [Value.oneCell']) HM.below)
  refine (JF∘aF) fun a Z HM=>?_
  refine qw (fun aS wS=>Fr aS 99 [] [(5,.bool ((q6 l).isSome)),(46,.bool false),(9,vI (au 4096 (qa (qa l)))),(18,.bool false),(8,vP g8 0),(7,.func (.func 249) #[] #[vP g3 0,vP g6 0]),(6,vP g6 0),(4,vP g4 0),(3,vP g3 0),(0,vB (1:Nat))]∧Mem w wS [.blk g3 #[.slice J2 ((qa (qa (qa l))).length) J3] 30,.blk g6 #[.bool (((true&&aO 63 l)&&aO 281474976710656 (qa l))&&aO 4096 (qa (qa l)))] 4,.blk g8 #[vB (1:Nat),vB (au 63 l),vI (au 281474976710656 (qa l)),vI 0,vN] 85,.blk g4 #[vB (1:Nat),vB (au 63 l),vI (au 281474976710656 (qa l)),vI 0,vN] 85]) ?_ ?_
  ·
   refine Jb Z HM ((Vs (.t (.t (.t (.f .n)))) []) fun Fp=>(Vy 0 (v:= .agg #[vB (1:Nat),vB (au 63 l),vI (au 281474976710656 (qa l)),vI 0,vN]) (h:=by exact Yl.qg rfl rfl aA rfl (fun _ h=>qb (h.blk (i:=2) rfl)))∘Vc 1 O1∘Vp [2]) fun a Z HM HS=>?_)
   rcases Z.tf 90 rfl with ⟨jP,Z⟩|⟨jP,Z⟩
   ·
    refine Vb Z HM HS ((Vc 3 O0∘Vl 4∘Vp [5,6,7]) fun a Z HM HS=>?_)
    rcases Z.tf 95 rfl with ⟨jQ,Z⟩|⟨jQ,Z⟩
    ·
     have hd95:=eq_of_beq jQ
     refine Vb Z HM HS ((Vy 8 (v:= .agg #[vB (1:Nat),vB (au 63 l),vI (au 281474976710656 (qa l)),vI 0,vN]) (h:=by exact Yl.qg rfl rfl aA rfl (fun _ h=>qb (h.blk (i:=2) rfl)))∘VI 9 (.t (.t (.t (.f .n)))) (h:=by exact fun HM=>CG ⟨1,au 63 l,(au 281474976710656 (qa l):Int),0,[]⟩ (rU om om (by simp)) none 0 B _ (hL.mem HM hB) (HM.le hB) Rd.nil (by show 0≤_;omega))) fun Vt hbw=>(Vp [10]) fun a Z HM HS=>?_)
     refine s_on Z 11 rfl (bN Z HM 3 rfl rfl rfl rfl rfl aA rfl rfl (by simp [Value.oneCell']) fun gH HM=>?_)
     refine aK (HM.pk [0,1,2]) (fun HS=>?_)
     refine Vb Z HM HS ((Vp [12]∘Vd∘aI) fun a Z HM=>?_)
     have Z:=Z.sp 5 (.bool ((q6 l).isSome)) rfl (congrArg Value.bool (by rw [Jm (l:=l) (fun hh=>by have h0:=hh.2;omega),h3,decide_eq_true om,Bool.true_and,Bool.true_and]))
     exact ⟨Z.sub kr,HM.pk [0,1,2,3]⟩
    have hd95:=ne_of_beq_false jQ
    refine ap Z (fun _=>HS) [8,9,10] (bt 13 [11,12]) [(98,.bool false)] fun a Z=>?_
    refine s_on Z 11 rfl (bN Z HM 3 rfl rfl rfl rfl rfl aA rfl rfl (by simp [Value.oneCell']) fun gH HM=>?_)
    refine aK (HM.pk [0,1,2]) (fun HS=>?_)
    refine ap Z (fun _=>HS) [12] (bt 13 []) [(5,.bool false)] fun a Z=>?_
    refine qd kr ?_
    have Z:=Z.sp 5 (.bool ((q6 l).isSome)) rfl (congrArg Value.bool (by rw [Jm (l:=l) (fun hh=>by have h0:=hh.2;omega),decide_eq_false om,Bool.false_and,Bool.and_false]))
    exact ⟨Z.sub kr,HM.pk [0,1,2,3]⟩
   refine ap Z (fun _=>HS) [3,4,5,6,7,8,9,10] (bt 13 [11,12]) [(98,.bool false)] fun a Z=>?_
   refine s_on Z 11 rfl (bN Z HM 3 rfl rfl rfl rfl rfl aA rfl rfl (by simp [Value.oneCell']) fun gH HM=>?_)
   refine aK (HM.pk [0,1,2]) (fun HS=>?_)
   refine ap Z (fun _=>HS) [12] (bt 13 []) [(5,.bool false)] fun a Z=>?_
   refine qd kr ?_
   have Z:=Z.sp 5 (.bool ((q6 l).isSome)) rfl (congrArg Value.bool (by have h9:=jP;rw [tk3] at h9;rw [Jm (l:=l) (fun hh=>by have h0:=hh.2;omega),h9,Bool.false_and]))
   exact ⟨Z.sub kr,HM.pk [0,1,2,3]⟩
  clear Z HM;rintro a oM ⟨Z,HM⟩
  refine Jb Z HM ((JZ) (Ju (fun hb5=>?_) fun hb5=>?_))
  ·
   intro a Z HM
   have hfin:=hb5
   exact dP rfl Z (.cellS (i:=3) Z HM rfl rfl aA rfl) (.tmp Z rfl) (Jk (b:=⟨1,au 63 l,(au 281474976710656 (qa l):Int),0,[]⟩) (A:=none) (c:=0) (by rw [zW];exact U2 (fun hh=>by have h0:=hh.2;omega) hfin) (World.ownsRow_nil _ _ _ _) (Nat.le_refl _) HM.below)
  intro a Z HM
  have hfin:=hb5
  exact dP rfl Z (.cellS (i:=3) Z HM rfl rfl aA rfl) (.tmp Z rfl) (E9 (by rw [zW];exact Option.not_isSome_iff_eq_none.1 (by rw [hfin];decide)) rfl (by simp [Value.oneCell']) HM.below)
 intro a Z HM
 have h3:oP l=false:=by rw [←tk3];exact eB
 refine Jb Z HM ((Jp 3∘dR∘Jj∘JF∘aF) fun a Z HM=>?_)
 refine qw (fun aS wS=>Fr aS 99 [] [(5,.bool ((q6 l).isSome)),(46,.bool false),(9,vI (au 4096 (qa (qa l)))),(18,.bool false),(8,vP g8 0),(7,.func (.func 249) #[] #[vP g3 0,vP g6 0]),(6,vP g6 0),(4,vP g4 0),(3,vP g3 0),(0,vB (1:Nat))]∧Mem w wS [.blk g3 #[.slice J2 ((qa (qa (qa l))).length) J3] 30,.blk g6 #[.bool (((true&&aO 63 l)&&aO 281474976710656 (qa l))&&aO 4096 (qa (qa l)))] 4,.blk g8 #[vB (1:Nat),vB (au 63 l),vI (au 281474976710656 (qa l)),vI 0,vN] 85,.blk g4 #[vB (1:Nat),vB (au 63 l),vI (au 281474976710656 (qa l)),vI 0,vN] 85]) ?_ ?_
 ·
  refine Jb Z HM ((Vs (.t (.t (.t (.f .n)))) []) fun Fp=>(Vy 0 (v:= .agg #[vB (1:Nat),vB (au 63 l),vI (au 281474976710656 (qa l)),vI 0,vN]) (h:=by exact Yl.qg rfl rfl aA rfl (fun _ h=>qb (h.blk (i:=2) rfl)))∘Vc 1 O1∘Vp [2]) fun a Z HM HS=>?_)
  rcases Z.tf 90 rfl with ⟨jP,Z⟩|⟨jP,Z⟩
  ·
   refine Vb Z HM HS ((Vc 3 O0∘Vl 4∘Vp [5,6,7]) fun a Z HM HS=>?_)
   rcases Z.tf 95 rfl with ⟨jQ,Z⟩|⟨jQ,Z⟩
   ·
    have hd95:=eq_of_beq jQ
    refine Vb Z HM HS ((Vy 8 (v:= .agg #[vB (1:Nat),vB (au 63 l),vI (au 281474976710656 (qa l)),vI 0,vN]) (h:=by exact Yl.qg rfl rfl aA rfl (fun _ h=>qb (h.blk (i:=2) rfl)))∘VI 9 (.t (.t (.t (.f .n)))) (h:=by exact fun HM=>CG ⟨1,au 63 l,(au 281474976710656 (qa l):Int),0,[]⟩ (rU om om (by simp)) none 0 B _ (hL.mem HM hB) (HM.le hB) Rd.nil (by show 0≤_;omega))) fun Vt hbw=>(Vp [10]) fun a Z HM HS=>?_)
    refine s_on Z 11 rfl (bN Z HM 3 rfl rfl rfl rfl rfl aA rfl rfl (by simp [Value.oneCell']) fun gH HM=>?_)
    refine aK (HM.pk [0,1,2]) (fun HS=>?_)
    refine Vb Z HM HS ((Vp [12]∘Vd∘aI) fun a Z HM=>?_)
    have Z:=Z.sp 5 (.bool ((q6 l).isSome)) rfl (congrArg Value.bool (by have h9:=jP;rw [tk3,h3] at h9;cases h9))
    exact ⟨Z.sub kr,HM.pk [0,1,2,3]⟩
   have hd95:=ne_of_beq_false jQ
   refine ap Z (fun _=>HS) [8,9,10] (bt 13 [11,12]) [(98,.bool false)] fun a Z=>?_
   refine s_on Z 11 rfl (bN Z HM 3 rfl rfl rfl rfl rfl aA rfl rfl (by simp [Value.oneCell']) fun gH HM=>?_)
   refine aK (HM.pk [0,1,2]) (fun HS=>?_)
   refine ap Z (fun _=>HS) [12] (bt 13 []) [(5,.bool false)] fun a Z=>?_
   refine qd kr ?_
   have Z:=Z.sp 5 (.bool ((q6 l).isSome)) rfl (congrArg Value.bool (by have h9:=jP;rw [tk3,h3] at h9;cases h9))
   exact ⟨Z.sub kr,HM.pk [0,1,2,3]⟩
  refine ap Z (fun _=>HS) [3,4,5,6,7,8,9,10] (bt 13 [11,12]) [(98,.bool false)] fun a Z=>?_
  refine s_on Z 11 rfl (bN Z HM 3 rfl rfl rfl rfl rfl aA rfl rfl (by simp [Value.oneCell']) fun gH HM=>?_)
  refine aK (HM.pk [0,1,2]) (fun HS=>?_)
  refine ap Z (fun _=>HS) [12] (bt 13 []) [(5,.bool false)] fun a Z=>?_
  refine qd kr ?_
  have Z:=Z.sp 5 (.bool ((q6 l).isSome)) rfl (congrArg Value.bool (by have h9:=jP;rw [tk3] at h9;rw [Jm (l:=l) (fun hh=>by rw [h3] at hh;cases hh.1),h9,Bool.false_and]))
  exact ⟨Z.sub kr,HM.pk [0,1,2,3]⟩
 clear Z HM;rintro a oM ⟨Z,HM⟩
 refine Jb Z HM ((JZ) (Ju (fun hb5=>?_) fun hb5=>?_))
 ·
  intro a Z HM
  have hfin:=hb5
  exact dP rfl Z (.cellS (i:=3) Z HM rfl rfl aA rfl) (.tmp Z rfl) (Jk (b:=⟨1,au 63 l,(au 281474976710656 (qa l):Int),0,[]⟩) (A:=none) (c:=0) (by rw [zW];exact U2 (fun hh=>by rw [h3] at hh;cases hh.1) hfin) (World.ownsRow_nil _ _ _ _) (Nat.le_refl _) HM.below)
 intro a Z HM
 have hfin:=hb5
 exact dP rfl Z (.cellS (i:=3) Z HM rfl rfl aA rfl) (.tmp Z rfl) (E9 (by rw [zW];exact Option.not_isSome_iff_eq_none.1 (by rw [hfin];decide)) rfl (by simp [Value.oneCell']) HM.below)
theorem qxu (A:Option Addr) (n cp:Nat) (l:List Nat) (B:Nat) (w:World) (hL:aL B w) (hB:B≤w.heap.size) (hr:Rd w w.heap.size 1 A n (l.map B8)) (hc:n≤cp) (hln:l.length=n) (hn:n≤9223372036854775807) (hl:∀b∈l,b<256):
    Calls Tryz.prog 134 #[.slice A n cp] w (Nr 73 w (bg l)):=by
 refine (dh Tryz.func134 68) ?_
 refine (JP∘JA #[vB 0,vB 0,vI 0,vI 0,vN]) fun w2 g2=>(Jp 2∘Jr∘Jp 1∘JI (h:=by exact fun HM=>qt7 A n cp l _ (HM.old hr) hln hn hl)) fun mF hbw=>(Jp 1∘Jx∘Jx∘Jp 2∘Jj∘JQ∘JP∘Jp 2∘aR∘Jj) (Ju (fun eF=>?_) fun eF=>?_)
 ·
  intro a Z HM
  have iR:=bne_iff_ne.1 eF
  refine Jb Z HM ((JT∘JP∘Jy (v:= .agg #[vB 0,vB 0,vI 0,vI 0,vN]) (h:=by exact Yl.build (vs:=[]) rfl kr kr)∘Jp 1∘JV aA aZ) fun vC=>(Jp 2∘Jj∘JZ) fun a Z HM=>?_)
  exact bE rfl Z (.cellS (i:=0) Z HM rfl rfl aA rfl) (.tmp Z rfl) (.tmp Z rfl) (xA (qxs om) HM.below)
 intro a Z HM
 have iR:=bne_eq_false_iff_eq.1 eF
 have hl0:(aC l).2=0:=by omega
 obtain ⟨v1,v2,v3,v4⟩:=J7 hl0
 obtain ⟨Lb,iP⟩:∃x,x=l.take (aC l).1:=⟨_,rfl⟩
 have gI:Rd w w.heap.size 1 A (aC l).1 (Lb.map B8):=by rw [iP];exact hr.mh om
 have gM:∀b∈Lb,b<256:=by rw [iP];exact zl hl _
 have nU:Lb.length=(aC l).1:=by rw [iP,List.length_take];omega
 refine Jb Z HM ((JF∘aF∘JP∘Jp 2∘Jy (h:=by exact Yl.q0 aB (j:=(aC l).1) rfl rfl rfl om)∘Jp 1∘bT∘Jq) ?_)
 repeat (first|clear Z|clear HM)
 intro a Z HM
 obtain ⟨gA,oA,rfl,_⟩:=gI.qm (Nat.lt_of_le_of_lt (Nat.zero_le _) (show 0<(aC l).1 from by omega)) de
 refine Jb Z HM ((JG∘JQ∘JB∘JP∘Jp 1∘JI (h:=by exact fun HM=>qt6 _ (aC l).1 cp Lb B _ (hL.mem HM hB) (HM.le hB) (HM.old gI) om nU om gM)) fun Mx hbw=>(Jp 2∘bT∘Jj) (Ju (fun dF=>?_) fun dF=>?_))
 ·
  intro a Z HM
  have hs:mE Lb=false:=by simpa using dF
  refine Jb Z HM ((JT∘JP∘Jy (v:= .agg #[vB 0,vB 0,vI 0,vI 0,vN]) (h:=by exact Yl.build (vs:=[]) rfl kr kr)∘JV aA aZ) fun EC=>(Jp 2∘Jj∘JZ) fun a Z HM=>?_)
  exact bE rfl Z (.cellS (i:=0) Z HM rfl rfl aA rfl) (.tmp Z rfl) (.tmp Z rfl) (xA (zX hl0 iP (by unfold dn;rw [if_pos hs])) HM.below)
 intro a Z HM
 have hs:mE Lb=true:=by simpa using dF
 refine Jb Z HM ((JF) fun a Z HM=>?_)
 refine wp_seq ?_
 refine Jb Z HM ((Vs .n []) fun IQ=>(Vp [0]∘Vy 1 (v:= .slice (if cp=4 then some ⟨gA,oA,none⟩ else (some ⟨gA,oA,none⟩:Option Addr).map (·.add (4*1))) (6-4) (cp-4)) (h:=by exact Yl.Cm aB (i:=4) (j:=6) rfl rfl rfl rfl om om)∘Vo (.slice (some ⟨gA,oA+4,none⟩) (6-4) (cp-4)) (by simp only [if_neg (show ¬cp=4 by omega),Option.map_some,Addr.add_mid,Nat.mul_one])∘Vy 2 (v:=vP gA (oA+4)) (h:=by exact Yl.arrayAt (k:=2) rfl rfl kr om)∘Vy 3 (v:= .agg #[vB (Lb.getD 4 0),vB (Lb.getD 5 0)]) (h:=by exact Yl.qg rfl rfl xk rfl (fun _ h=>q6n (k:=4) (l:=Lb) (h.old gI) om))∘Vy 4 (v:= .agg #[vB 113,vB 116]) (h:=by exact Yl.qg rfl rfl xk rfl (fun _ h=>q1p hL h hB))∘Vy 5 (v:= .bool (!(((Lb.getD 4 0:Int)==(113:Int))&& ((Lb.getD 5 0:Int)==(116:Int))))) (h:=by exact Yl.q5u rfl rfl rfl kr kr)∘Vp [6]∘Vd∘aI) (Ju (fun dG=>?_) fun dG=>?_))
 ·
  intro a Z HM
  simp only [Bool.not_eq_true',Bool.and_eq_false_iff,beq_eq_false_iff_ne] at dG
  have kV:¬(Lb.getD 4 0=113∧Lb.getD 5 0=116):=by omega
  refine Jb Z HM ((JT∘JP∘Jy (v:= .agg #[vB 0,vB 0,vI 0,vI 0,vN]) (h:=by exact Yl.build (vs:=[]) rfl kr kr)∘JV aA aZ) fun rG=>(Jp 2∘Jj∘JZ) fun a Z HM=>?_)
  exact bE rfl Z (.cellS (i:=0) Z HM rfl rfl aA rfl) (.tmp Z rfl) (.tmp Z rfl) (xA (zX hl0 iP (by unfold dn;rw [if_neg (by rw [hs];decide),if_pos kV])) HM.below)
 intro a Z HM
 simp only [Bool.not_eq_false',Bool.and_eq_true,beq_iff_eq] at dG
 have kV:Lb.getD 4 0=113∧Lb.getD 5 0=116:=by omega
 refine Jb Z HM ((JF∘JP∘Jp 1∘Jy (v:=vP gA (oA+6)) (h:=by exact Yl.indexAddr (ad:=⟨gA,oA,none⟩) (y:=6) (sz:=1) rfl rfl rfl om kr)∘JH (getD_lt gM (k:=6) (by first|omega|(simp;omega)))) fun hx1=>(Jy (h:=by exact Yl.o1 gI 6 0 (by first|omega|(simp;omega)) rfl rfl)∘Jp 2∘dR∘Jj) (Jh (fun hd34=>?_) fun hd34=>?_))
 ·
  refine (JT∘JP∘Jy (v:= .agg #[vB 0,vB 0,vI 0,vI 0,vN]) (h:=by exact Yl.build (vs:=[]) rfl kr kr)∘JV aA aZ) fun oO=>(Jp 2∘Jj∘JZ) fun a Z HM=>?_
  exact bE rfl Z (.cellS (i:=0) Z HM rfl rfl aA rfl) (.tmp Z rfl) (.tmp Z rfl) (xA (zX hl0 iP (by unfold dn;rw [if_neg (by rw [hs];decide),if_neg (fun hh=>hh kV),if_pos om])) HM.below)
 refine (JF∘JP∘Jp 1∘Jy (v:=vP gA (oA+7)) (h:=by exact Yl.indexAddr (ad:=⟨gA,oA,none⟩) (y:=7) (sz:=1) rfl rfl rfl om kr)∘JH (getD_lt gM (k:=7) (by first|omega|(simp;omega)))) fun hx2=>(Jy (h:=by exact Yl.o1 gI 7 0 (by first|omega|(simp;omega)) rfl rfl)∘Jp 2) (Ju (fun nV=>?_) fun nV=>?_)
 ·
  intro a Z HM
  have r9:=bne_iff_ne.1 nV
  refine Jb Z HM ((Jp 1∘Jy (v:=vP gA (oA+7)) (h:=by exact Yl.indexAddr (ad:=⟨gA,oA,none⟩) (y:=7) (sz:=1) rfl rfl rfl om kr)∘JH (getD_lt gM (k:=7) (by first|omega|(simp;omega)))) fun hx3=>(Jy (h:=by exact Yl.o1 gI 7 0 (by first|omega|(simp;omega)) rfl rfl)∘Jp 3∘aI∘Jq) fun a Z HM=>?_)
  rcases hp:qc2 (Lb.getD 7 0) ((Lb.take (Lb.length-4)).drop 8) with _|b
  ·
   refine Jb Z HM (Ju (fun dD=>?_) fun dD=>?_)
   ·
    intro a Z HM
    have jG:=bne_iff_ne.1 dD
    have hkd:Lb.getD 7 0≠1∧Lb.getD 7 0≠2:=by omega
    refine Jb Z HM ((JT∘JP∘Jy (v:= .agg #[vB 0,vB 0,vI 0,vI 0,vN]) (h:=by exact Yl.build (vs:=[]) rfl kr kr)∘JV aA aZ) fun xE=>(Jp 2∘Jj∘JZ) fun a Z HM=>?_)
    exact bE rfl Z (.cellS (i:=0) Z HM rfl rfl aA rfl) (.tmp Z rfl) (.tmp Z rfl) (xA (zX hl0 iP (by unfold dn;rw [if_neg (by rw [hs];decide),if_neg (fun hh=>hh kV),if_neg om,if_pos hkd])) HM.below)
   intro a Z HM
   have jG:=bne_eq_false_iff_eq.1 dD
   have hkd:Lb.getD 7 0=1∨Lb.getD 7 0=2:=by omega
   refine Jb Z HM ((JF∘aF) fun a Z HM=>?_)
   refine qw (fun aS wS=>∃(cs:Array Value) (g7:Nat),Fr aS 68 [] [(8,.bool false),(7,vP g7 0),(40,.bool false),(34,.bool false),(26,.bool false),(21,.bool false),(0,.slice (some ⟨gA,oA,none⟩) ((aC l).1) cp),(15,.bool false),(6,vI ((aC l).2)),(5,vI ((aC l).1)),(4,vI 0),(3,vI 0),(2,vP g2 0)]∧Mem w wS [.blk g7 cs 85,.blk g2 #[vB 0,vB 0,vI 0,vI 0,vN] 85]∧(cs.size=5)∧(∀v∈cs.toList,v.oneCell'=true)) ?_ ?_
   ·
    refine Jb Z HM ((Vs .n [12]) fun sj=>(Vp [0,3,4]∘Vy 1 (v:=vP gA (oA+7)) (h:=by exact Yl.indexAddr (ad:=⟨gA,oA,none⟩) (y:=7) (sz:=1) rfl rfl rfl om kr)∘VH (getD_lt gM (k:=7) (by first|omega|(simp;omega)))) fun hx8=>(Vy 2 (h:=by exact Yl.o1 gI 7 0 (by first|omega|(simp;omega)) rfl rfl)∘Ei 5 4∘Vy 6 (v:= .slice (if cp=8 then some ⟨gA,oA,none⟩ else (some ⟨gA,oA,none⟩:Option Addr).map (·.add (8*1))) (((aC l).1-4)-8) (cp-8)) (h:=by exact Yl.Cm aB (i:=8) (j:=(aC l).1-4) rfl rfl rfl rfl om om)) fun a Z HM HS=>?_)
    refine pE [7,11] kr rfl ?_
    refine all_cons ?_ ?_
    ·refine jl Z (i:=7) rfl rfl ?_
     refine iQ Z [vB (Lb.getD 7 0),.slice (if cp=8 then some ⟨gA,oA,none⟩ else (some ⟨gA,oA,none⟩:Option Addr).map (·.add (8*1))) (((aC l).1-4)-8) (cp-8)] rfl rfl ((xC (Lb.getD 7 0) hkd _ (((aC l).1-4)-8) (cp-8) ((Lb.take (Lb.length-4)).drop 8) B _ (hL.mem HM hB) (HM.le hB) (HM.old (by rw [nU];exact gI.uF (i:=8) (j:=(aC l).1-4) om om om)) om (by rw [List.length_drop,List.length_take];omega) om (zj (zl gM _) _)).mono (fun _ _ h=>h.none hp)) ?_
     rintro _ xG ⟨⟨cs,rfl,hs5,h1⟩,hbw⟩
     refine ⟨_,rfl,?_⟩
     replace HM:=HM.call hbw
     clear Z;intro a Z
     refine aK (HM.pk [0]) (fun HS=>?_)
     refine Vb Z HM HS ((Vp [8]∘Vx 9∘Vx 10∘VA 11 .n #[vB 0,vB 0,vI 0,vI 0,vN]) fun w7 g7=>fun a Z HM HS=>?_)
     refine s_on Z 12 rfl (bN Z HM 0 rfl rfl rfl rfl rfl aA rfl hs5 (h1) fun iD HM=>?_)
     refine fZ kr ?_
     refine ap Z (dJ kr) [13] (bt 14 []) [(8,.bool false)] fun a Z=>?_
     refine qd kr ?_
     exact ⟨cs,g7,Z.sub kr,HM.pk [0,1],hs5,h1⟩
    refine all_cons ?_ all_nil
    refine jl Z (i:=11) rfl rfl ?_
    refine kF Z HM #[vB 0,vB 0,vI 0,vI 0,vN] ?_
    clear Z HM;intro a w7 g7 Z HM
    refine aK (HM.pk [1]) (fun HS=>?_)
    refine s_on Z 7 rfl ?_
    refine iQ Z [vB (Lb.getD 7 0),.slice (if cp=8 then some ⟨gA,oA,none⟩ else (some ⟨gA,oA,none⟩:Option Addr).map (·.add (8*1))) (((aC l).1-4)-8) (cp-8)] rfl rfl ((xC (Lb.getD 7 0) hkd _ (((aC l).1-4)-8) (cp-8) ((Lb.take (Lb.length-4)).drop 8) B _ (hL.mem HM hB) (HM.le hB) (HM.old (by rw [nU];exact gI.uF (i:=8) (j:=(aC l).1-4) om om om)) om (by rw [List.length_drop,List.length_take];omega) om (zj (zl gM _) _)).mono (fun _ _ h=>h.none hp)) ?_
    rintro _ xG ⟨⟨cs,rfl,hs5,h1⟩,hbw⟩
    refine ⟨_,rfl,?_⟩
    replace HM:=HM.call hbw
    clear Z;intro a Z
    refine aK (HM.pk [1]) (fun HS=>?_)
    refine Vb Z HM HS ((Vp [8]∘Vx 9∘Vx 10) fun a Z HM HS=>?_)
    refine s_on Z 12 rfl (bN Z HM 0 rfl rfl rfl rfl rfl aA rfl hs5 (h1) fun iD HM=>?_)
    refine fZ kr ?_
    refine ap Z (dJ kr) [13] (bt 14 []) [(8,.bool false)] fun a Z=>?_
    refine qd kr ?_
    exact ⟨cs,g7,Z.sub kr,HM.pk [0,1],hs5,h1⟩
   clear Z HM;rintro a nD ⟨cs,g7,Z,HM,hs5,h1⟩
   refine Jb Z HM ((JQ∘JP∘Jp 2∘aY∘Jj∘JT∘JP∘Jy (v:= .agg #[vB 0,vB 0,vI 0,vI 0,vN]) (h:=by exact Yl.build (vs:=[]) rfl kr kr)∘JV aA dO) fun iM=>(Jp 2∘Jj∘JZ) fun a Z HM=>?_)
   exact bE rfl Z (.cellS (i:=1) Z HM rfl rfl aA rfl) (.tmp Z rfl) (.tmp Z rfl) (xA (zX hl0 iP (by unfold dn;rw [if_neg (by rw [hs];decide),if_neg (fun hh=>hh kV),if_neg om,if_neg om,hp])) HM.below)
  ·
   refine Jb Z HM (Ju (fun dD=>?_) fun dD=>?_)
   ·
    intro a Z HM
    have jG:=bne_iff_ne.1 dD
    have hkd:Lb.getD 7 0≠1∧Lb.getD 7 0≠2:=by omega
    refine Jb Z HM ((JT∘JP∘Jy (v:= .agg #[vB 0,vB 0,vI 0,vI 0,vN]) (h:=by exact Yl.build (vs:=[]) rfl kr kr)∘JV aA aZ) fun xE=>(Jp 2∘Jj∘JZ) fun a Z HM=>?_)
    exact bE rfl Z (.cellS (i:=0) Z HM rfl rfl aA rfl) (.tmp Z rfl) (.tmp Z rfl) (xA (zX hl0 iP (by unfold dn;rw [if_neg (by rw [hs];decide),if_neg (fun hh=>hh kV),if_neg om,if_pos hkd])) HM.below)
   intro a Z HM
   have jG:=bne_eq_false_iff_eq.1 dD
   have hkd:Lb.getD 7 0=1∨Lb.getD 7 0=2:=by omega
   refine Jb Z HM ((JF∘aF) fun a Z HM=>?_)
   refine qw (fun aS wS=>∃(Ab:Option Addr) (cb:Nat) (g7:Nat),Fr aS 68 [] [(8,.bool true),(7,vP g7 0),(40,.bool false),(34,.bool false),(26,.bool false),(21,.bool false),(0,.slice (some ⟨gA,oA,none⟩) ((aC l).1) cp),(15,.bool false),(6,vI ((aC l).2)),(5,vI ((aC l).1)),(4,vI 0),(3,vI 0),(2,vP g2 0)]∧Mem w wS [.blk g7 (b.cells Ab cb) 85,.row (.slice Ab b.evs.length cb) b.evs.length (b.evs.flatMap aN) 73 11,.blk g2 #[vB 0,vB 0,vI 0,vI 0,vN] 85]∧(b.evs.length≤cb)) ?_ ?_
   ·
    refine Jb Z HM ((Vs .n [12]) fun sj=>(Vp [0,3,4]∘Vy 1 (v:=vP gA (oA+7)) (h:=by exact Yl.indexAddr (ad:=⟨gA,oA,none⟩) (y:=7) (sz:=1) rfl rfl rfl om kr)∘VH (getD_lt gM (k:=7) (by first|omega|(simp;omega)))) fun aeK=>(Vy 2 (h:=by exact Yl.o1 gI 7 0 (by first|omega|(simp;omega)) rfl rfl)∘Ei 5 4∘Vy 6 (v:= .slice (if cp=8 then some ⟨gA,oA,none⟩ else (some ⟨gA,oA,none⟩:Option Addr).map (·.add (8*1))) (((aC l).1-4)-8) (cp-8)) (h:=by exact Yl.Cm aB (i:=8) (j:=(aC l).1-4) rfl rfl rfl rfl om om)) fun a Z HM HS=>?_)
    refine pE [7,11] kr rfl ?_
    refine all_cons ?_ ?_
    ·refine jl Z (i:=7) rfl rfl ?_
     refine mo Z HM [vB (Lb.getD 7 0),.slice (if cp=8 then some ⟨gA,oA,none⟩ else (some ⟨gA,oA,none⟩:Option Addr).map (·.add (8*1))) (((aC l).1-4)-8) (cp-8)] ((xC (Lb.getD 7 0) hkd _ (((aC l).1-4)-8) (cp-8) ((Lb.take (Lb.length-4)).drop 8) B _ (hL.mem HM hB) (HM.le hB) (HM.old (by rw [nU];exact gI.uF (i:=8) (j:=(aC l).1-4) om om om)) om (by rw [List.length_drop,List.length_take];omega) om (zj (zl gM _) _)).mono (fun _ _ h=>h.some hp)) fun Ab cb xG hcb HM a Z=>?_
     refine aK (HM.pk [1]) (fun HS=>?_)
     refine Vb Z HM HS ((Vp [8]∘Vx 9∘Vx 10∘VA 11 (.f .n) #[vB 0,vB 0,vI 0,vI 0,vN]) fun w7 g7=>fun a Z HM HS=>?_)
     refine s_on Z 12 rfl (bN Z HM 0 rfl rfl rfl rfl rfl aA rfl rfl (zy _ _ _) fun iD HM=>?_)
     refine fZ kr ?_
     refine ap Z (dJ kr) [13] (bt 14 []) [(8,.bool true)] fun a Z=>?_
     refine qd kr ?_
     exact ⟨Ab,cb,g7,Z.sub kr,HM.pk [0,1,2],hcb⟩
    refine all_cons ?_ all_nil
    refine jl Z (i:=11) rfl rfl ?_
    refine kF Z HM #[vB 0,vB 0,vI 0,vI 0,vN] ?_
    clear Z HM;intro a w7 g7 Z HM
    refine aK (HM.pk [1]) (fun HS=>?_)
    refine Vb Z HM HS ((VK 7 (.f .n) (h:=by exact fun HM=>(xC (Lb.getD 7 0) hkd _ (((aC l).1-4)-8) (cp-8) ((Lb.take (Lb.length-4)).drop 8) B _ (hL.mem HM hB) (HM.le hB) (HM.old (by rw [nU];exact gI.uF (i:=8) (j:=(aC l).1-4) om om om)) om (by rw [List.length_drop,List.length_take];omega) om (zj (zl gM _) _)).mono (fun _ _ h=>h.some hp))) fun Ab cb xG hcb=>(Vp [8]∘Vx 9∘Vx 10) fun a Z HM HS=>?_)
    refine s_on Z 12 rfl (bN Z HM 1 rfl rfl rfl rfl rfl aA rfl rfl (zy _ _ _) fun iD HM=>?_)
    refine fZ kr ?_
    refine ap Z (dJ kr) [13] (bt 14 []) [(8,.bool true)] fun a Z=>?_
    refine qd kr ?_
    exact ⟨Ab,cb,g7,Z.sub kr,HM.pk [1,0,2],hcb⟩
   clear Z HM;rintro a nD ⟨Ab,cb,g7,Z,HM,hcb⟩
   refine Jb Z HM ((JQ∘JP∘Jp 2∘aY∘Jj∘JF∘aF∘JP∘Jy (v:= .agg (b.cells Ab cb)) (h:=by exact Yl.qg rfl rfl aA rfl (fun _ h=>qb (h.blk (i:=0) rfl)))∘Jp 1∘JV aA fF (h1:=by exact zy _ _ _)) fun su=>(Jp 2∘Jj∘JZ) fun a Z HM=>?_)
   exact bE rfl Z (.cellS (i:=2) Z HM rfl rfl aA rfl) (.tmp Z rfl) (.tmp Z rfl) (U3 (U4 (e:=0) hl0 iP (by unfold dn;rw [if_neg (by rw [hs];decide),if_neg (fun hh=>hh kV),if_neg om,if_neg om,hp])) (HM.own (i:=1) rfl) hcb HM.below)
 intro a Z HM
 have r9:=bne_eq_false_iff_eq.1 nV
 have hkd:Lb.getD 7 0=1∨Lb.getD 7 0=2:=by omega
 refine Jb Z HM ((Jp 6∘aI∘Jq) fun a Z HM=>?_)
 rcases hp:qc2 (Lb.getD 7 0) ((Lb.take (Lb.length-4)).drop 8) with _|b
 ·
  refine Jb Z HM ((JG∘JF∘aF) fun a Z HM=>?_)
  refine qw (fun aS wS=>∃(cs:Array Value) (g7:Nat),Fr aS 68 [] [(8,.bool false),(7,vP g7 0),(40,.bool false),(34,.bool false),(26,.bool false),(21,.bool false),(0,.slice (some ⟨gA,oA,none⟩) ((aC l).1) cp),(15,.bool false),(6,vI ((aC l).2)),(5,vI ((aC l).1)),(4,vI 0),(3,vI 0),(2,vP g2 0)]∧Mem w wS [.blk g7 cs 85,.blk g2 #[vB 0,vB 0,vI 0,vI 0,vN] 85]∧(cs.size=5)∧(∀v∈cs.toList,v.oneCell'=true)) ?_ ?_
  ·
   refine Jb Z HM ((Vs .n [12]) fun sj=>(Vp [0,3,4]∘Vy 1 (v:=vP gA (oA+7)) (h:=by exact Yl.indexAddr (ad:=⟨gA,oA,none⟩) (y:=7) (sz:=1) rfl rfl rfl om kr)∘VH (getD_lt gM (k:=7) (by first|omega|(simp;omega)))) fun hx16=>(Vy 2 (h:=by exact Yl.o1 gI 7 0 (by first|omega|(simp;omega)) rfl rfl)∘Ei 5 4∘Vy 6 (v:= .slice (if cp=8 then some ⟨gA,oA,none⟩ else (some ⟨gA,oA,none⟩:Option Addr).map (·.add (8*1))) (((aC l).1-4)-8) (cp-8)) (h:=by exact Yl.Cm aB (i:=8) (j:=(aC l).1-4) rfl rfl rfl rfl om om)) fun a Z HM HS=>?_)
   refine pE [7,11] kr rfl ?_
   refine all_cons ?_ ?_
   ·refine jl Z (i:=7) rfl rfl ?_
    refine iQ Z [vB (Lb.getD 7 0),.slice (if cp=8 then some ⟨gA,oA,none⟩ else (some ⟨gA,oA,none⟩:Option Addr).map (·.add (8*1))) (((aC l).1-4)-8) (cp-8)] rfl rfl ((xC (Lb.getD 7 0) hkd _ (((aC l).1-4)-8) (cp-8) ((Lb.take (Lb.length-4)).drop 8) B _ (hL.mem HM hB) (HM.le hB) (HM.old (by rw [nU];exact gI.uF (i:=8) (j:=(aC l).1-4) om om om)) om (by rw [List.length_drop,List.length_take];omega) om (zj (zl gM _) _)).mono (fun _ _ h=>h.none hp)) ?_
    rintro _ xG ⟨⟨cs,rfl,hs5,h1⟩,hbw⟩
    refine ⟨_,rfl,?_⟩
    replace HM:=HM.call hbw
    clear Z;intro a Z
    refine aK (HM.pk [0]) (fun HS=>?_)
    refine Vb Z HM HS ((Vp [8]∘Vx 9∘Vx 10∘VA 11 .n #[vB 0,vB 0,vI 0,vI 0,vN]) fun w7 g7=>fun a Z HM HS=>?_)
    refine s_on Z 12 rfl (bN Z HM 0 rfl rfl rfl rfl rfl aA rfl hs5 (h1) fun iD HM=>?_)
    refine fZ kr ?_
    refine ap Z (dJ kr) [13] (bt 14 []) [(8,.bool false)] fun a Z=>?_
    refine qd kr ?_
    exact ⟨cs,g7,Z.sub kr,HM.pk [0,1],hs5,h1⟩
   refine all_cons ?_ all_nil
   refine jl Z (i:=11) rfl rfl ?_
   refine kF Z HM #[vB 0,vB 0,vI 0,vI 0,vN] ?_
   clear Z HM;intro a w7 g7 Z HM
   refine aK (HM.pk [1]) (fun HS=>?_)
   refine s_on Z 7 rfl ?_
   refine iQ Z [vB (Lb.getD 7 0),.slice (if cp=8 then some ⟨gA,oA,none⟩ else (some ⟨gA,oA,none⟩:Option Addr).map (·.add (8*1))) (((aC l).1-4)-8) (cp-8)] rfl rfl ((xC (Lb.getD 7 0) hkd _ (((aC l).1-4)-8) (cp-8) ((Lb.take (Lb.length-4)).drop 8) B _ (hL.mem HM hB) (HM.le hB) (HM.old (by rw [nU];exact gI.uF (i:=8) (j:=(aC l).1-4) om om om)) om (by rw [List.length_drop,List.length_take];omega) om (zj (zl gM _) _)).mono (fun _ _ h=>h.none hp)) ?_
   rintro _ xG ⟨⟨cs,rfl,hs5,h1⟩,hbw⟩
   refine ⟨_,rfl,?_⟩
   replace HM:=HM.call hbw
   clear Z;intro a Z
   refine aK (HM.pk [1]) (fun HS=>?_)
   refine Vb Z HM HS ((Vp [8]∘Vx 9∘Vx 10) fun a Z HM HS=>?_)
   refine s_on Z 12 rfl (bN Z HM 0 rfl rfl rfl rfl rfl aA rfl hs5 (h1) fun iD HM=>?_)
   refine fZ kr ?_
   refine ap Z (dJ kr) [13] (bt 14 []) [(8,.bool false)] fun a Z=>?_
   refine qd kr ?_
   exact ⟨cs,g7,Z.sub kr,HM.pk [0,1],hs5,h1⟩
  clear Z HM;rintro a nD ⟨cs,g7,Z,HM,hs5,h1⟩
  refine Jb Z HM ((JQ∘JP∘Jp 2∘aY∘Jj∘JT∘JP∘Jy (v:= .agg #[vB 0,vB 0,vI 0,vI 0,vN]) (h:=by exact Yl.build (vs:=[]) rfl kr kr)∘JV aA dO) fun iM=>(Jp 2∘Jj∘JZ) fun a Z HM=>?_)
  exact bE rfl Z (.cellS (i:=1) Z HM rfl rfl aA rfl) (.tmp Z rfl) (.tmp Z rfl) (xA (zX hl0 iP (by unfold dn;rw [if_neg (by rw [hs];decide),if_neg (fun hh=>hh kV),if_neg om,if_neg om,hp])) HM.below)
 ·
  refine Jb Z HM ((JG∘JF∘aF) fun a Z HM=>?_)
  refine qw (fun aS wS=>∃(Ab:Option Addr) (cb:Nat) (g7:Nat),Fr aS 68 [] [(8,.bool true),(7,vP g7 0),(40,.bool false),(34,.bool false),(26,.bool false),(21,.bool false),(0,.slice (some ⟨gA,oA,none⟩) ((aC l).1) cp),(15,.bool false),(6,vI ((aC l).2)),(5,vI ((aC l).1)),(4,vI 0),(3,vI 0),(2,vP g2 0)]∧Mem w wS [.blk g7 (b.cells Ab cb) 85,.row (.slice Ab b.evs.length cb) b.evs.length (b.evs.flatMap aN) 73 11,.blk g2 #[vB 0,vB 0,vI 0,vI 0,vN] 85]∧(b.evs.length≤cb)) ?_ ?_
  ·
   refine Jb Z HM ((Vs .n [12]) fun sj=>(Vp [0,3,4]∘Vy 1 (v:=vP gA (oA+7)) (h:=by exact Yl.indexAddr (ad:=⟨gA,oA,none⟩) (y:=7) (sz:=1) rfl rfl rfl om kr)∘VH (getD_lt gM (k:=7) (by first|omega|(simp;omega)))) fun EW=>(Vy 2 (h:=by exact Yl.o1 gI 7 0 (by first|omega|(simp;omega)) rfl rfl)∘Ei 5 4∘Vy 6 (v:= .slice (if cp=8 then some ⟨gA,oA,none⟩ else (some ⟨gA,oA,none⟩:Option Addr).map (·.add (8*1))) (((aC l).1-4)-8) (cp-8)) (h:=by exact Yl.Cm aB (i:=8) (j:=(aC l).1-4) rfl rfl rfl rfl om om)) fun a Z HM HS=>?_)
   refine pE [7,11] kr rfl ?_
   refine all_cons ?_ ?_
   ·refine jl Z (i:=7) rfl rfl ?_
    refine mo Z HM [vB (Lb.getD 7 0),.slice (if cp=8 then some ⟨gA,oA,none⟩ else (some ⟨gA,oA,none⟩:Option Addr).map (·.add (8*1))) (((aC l).1-4)-8) (cp-8)] ((xC (Lb.getD 7 0) hkd _ (((aC l).1-4)-8) (cp-8) ((Lb.take (Lb.length-4)).drop 8) B _ (hL.mem HM hB) (HM.le hB) (HM.old (by rw [nU];exact gI.uF (i:=8) (j:=(aC l).1-4) om om om)) om (by rw [List.length_drop,List.length_take];omega) om (zj (zl gM _) _)).mono (fun _ _ h=>h.some hp)) fun Ab cb xG hcb HM a Z=>?_
    refine aK (HM.pk [1]) (fun HS=>?_)
    refine Vb Z HM HS ((Vp [8]∘Vx 9∘Vx 10∘VA 11 (.f .n) #[vB 0,vB 0,vI 0,vI 0,vN]) fun w7 g7=>fun a Z HM HS=>?_)
    refine s_on Z 12 rfl (bN Z HM 0 rfl rfl rfl rfl rfl aA rfl rfl (zy _ _ _) fun iD HM=>?_)
    refine fZ kr ?_
    refine ap Z (dJ kr) [13] (bt 14 []) [(8,.bool true)] fun a Z=>?_
    refine qd kr ?_
    exact ⟨Ab,cb,g7,Z.sub kr,HM.pk [0,1,2],hcb⟩
   refine all_cons ?_ all_nil
   refine jl Z (i:=11) rfl rfl ?_
   refine kF Z HM #[vB 0,vB 0,vI 0,vI 0,vN] ?_
   clear Z HM;intro a w7 g7 Z HM
   refine aK (HM.pk [1]) (fun HS=>?_)
   refine Vb Z HM HS ((VK 7 (.f .n) (h:=by exact fun HM=>(xC (Lb.getD 7 0) hkd _ (((aC l).1-4)-8) (cp-8) ((Lb.take (Lb.length-4)).drop 8) B _ (hL.mem HM hB) (HM.le hB) (HM.old (by rw [nU];exact gI.uF (i:=8) (j:=(aC l).1-4) om om om)) om (by rw [List.length_drop,List.length_take];omega) om (zj (zl gM _) _)).mono (fun _ _ h=>h.some hp))) fun Ab cb xG hcb=>(Vp [8]∘Vx 9∘Vx 10) fun a Z HM HS=>?_)
   refine s_on Z 12 rfl (bN Z HM 1 rfl rfl rfl rfl rfl aA rfl rfl (zy _ _ _) fun iD HM=>?_)
   refine fZ kr ?_
   refine ap Z (dJ kr) [13] (bt 14 []) [(8,.bool true)] fun a Z=>?_
   refine qd kr ?_
   exact ⟨Ab,cb,g7,Z.sub kr,HM.pk [1,0,2],hcb⟩
  clear Z HM;rintro a nD ⟨Ab,cb,g7,Z,HM,hcb⟩
  refine Jb Z HM ((JQ∘JP∘Jp 2∘aY∘Jj∘JF∘aF∘JP∘Jy (v:= .agg (b.cells Ab cb)) (h:=by exact Yl.qg rfl rfl aA rfl (fun _ h=>qb (h.blk (i:=0) rfl)))∘Jp 1∘JV aA fF (h1:=by exact zy _ _ _)) fun su=>(Jp 2∘Jj∘JZ) fun a Z HM=>?_)
  exact bE rfl Z (.cellS (i:=2) Z HM rfl rfl aA rfl) (.tmp Z rfl) (.tmp Z rfl) (U3 (U4 (e:=0) hl0 iP (by unfold dn;rw [if_neg (by rw [hs];decide),if_neg (fun hh=>hh kV),if_neg om,if_neg om,hp])) (HM.own (i:=1) rfl) hcb HM.below)
theorem J8 {b d:Bk} (h:(b.kind:Int)≠d.kind∨(b.cpu:Int)≠d.cpu∨b.lost≠d.lost∨b.next≠d.next):decide (b=d)=false:=by
 rw [decide_eq_false]
 rintro rfl
 omega
theorem q11 {b d:Bk} (h1:b.kind=d.kind) (h2:b.cpu=d.cpu) (h3:b.lost=d.lost) (h4:b.next=d.next):decide (b.evs=d.evs)=decide (b=d):=by
 rw [Bool.eq_iff_iff,decide_eq_true_eq,decide_eq_true_eq]
 cases b;cases d
 simp only at h1 h2 h3 h4
 subst h1;subst h2;subst h3;subst h4
 simp
theorem q12 (b d:Bk) (A A2:Option Addr) (c c2:Nat) (w:World) (hr:Rd w w.heap.size 11 A b.evs.length (b.evs.flatMap aN)) (hr2:Rd w w.heap.size 11 A2 d.evs.length (d.evs.flatMap aN)) (hn:b.evs.length≤1000000):
    Calls Tryz.prog 41 #[.agg (b.cells A c),.agg (d.cells A2 c2)] w (Is w (.bool (decide (b=d)))):=by
 refine (iG Tryz.func41 38) ?_
 refine (JP∘JE) fun w2 g2=>(JE) fun w3 g3=>(Jp 1∘Jr∘Jg 0 O1∘Jg 0 O0∘Jp 2) (Je (fun iB=>?_) fun iB=>?_)
 ·
  refine (Jg 1 O1∘Jg 1 O0∘Jp 3) (Je (fun fK=>?_) fun fK=>?_)
  ·
   refine (Jg 2 O1∘Jg 2 O0∘Jp 3) (Je (fun hd24=>?_) fun hd24=>?_)
   ·
    refine (Jg 3 O1∘Jg 3 O0∘Jp 3) (Je (fun hd31=>?_) fun hd31=>?_)
    ·
     exact (Jg 4 O1∘Jg 4 O0∘JI (h:=by exact fun HM=>qxk _ _ _ _ _ _ b.evs d.evs _ (HM.old hr) (HM.old hr2) rfl rfl om)) fun w36 hbw=>(Jp 2∘aI∘Jj∘JZ∘bB) fun HM=>by exact ⟨by rw [q11 om om om om],HM.below⟩
    exact (Jp 7∘aI∘Jj∘JZ∘bB) fun HM=>by exact ⟨by rw [J8 om],HM.below⟩
   exact (Jv 14 [(4,.bool false)]∘aI∘Jj∘JZ∘bB) fun HM=>by exact ⟨by rw [J8 om],HM.below⟩
  exact (Jv 21 [(4,.bool false)]∘aI∘Jj∘JZ∘bB) fun HM=>by exact ⟨by rw [J8 om],HM.below⟩
 exact (Jv 28 [(4,.bool false)]∘dR∘Jj∘JZ∘bB) fun HM=>by exact ⟨by rw [J8 om],HM.below⟩
theorem za.as {w w':World} {er Cu:Nat} {R R':List Nat} {r:Ending} (h:za w er R r w') (h1:er=Cu) (h2:R=R'):za w Cu R' r w':=by subst h1;subst h2;exact h
theorem qxx (b:Bk) (hok:b.Ok) (A:Option Addr) (c B:Nat) (w:World) (hL:aL B w) (hB:B≤w.heap.size) (hr:Rd w w.heap.size 11 A b.evs.length (b.evs.flatMap aN)) (hn:b.evs.length≤1000000) {er:Nat} {R:List Nat} (h1:b.err=er) (h2:b.out=R):Calls Tryz.prog 106 #[.agg (b.cells A c)] w (za w er R):=
 (U6 b hok A c B w hL hB hr hn).mono fun _ _ h=>h.as h1 h2
theorem qxy (b:Bk) (hok:b.Ok) (A:Option Addr) (c B:Nat) (w:World) (hL:aL B w) (hB:B≤w.heap.size) (hr:Rd w w.heap.size 11 A b.evs.length (b.evs.flatMap aN)) (hn:b.evs.length≤1000000) {er:Nat} (h1:b.err=er):Calls Tryz.prog 45 #[.agg (b.cells A c)] w (Is w (.int .i64 (er:Int))):=
 (qt9 b hok A c B w hL hB hr hn).mono fun _ _ h=>by rw [h1] at h;exact h
theorem Nz (A:Option Addr) (n cp:Nat) (l:List Nat) (B:Nat) (w:World) (hL:aL B w) (hB:B≤w.heap.size) (hr:Rd w w.heap.size 1 A n (l.map B8)) (hc:n≤cp) (hln:l.length=n) (hn:n≤9223372036854775807) (hl:∀b∈l,b<256) {b:Bk} {m er:Nat} (h:bg l=(b,m,er)):
  Calls Tryz.prog 134 #[.slice A n cp] w fun r w'=>(∃A c,r= .returned (.tuple #[.agg (b.cells A c),.int .i64 (m:Int),.int .i64 (er:Int)])∧w'.ownsRow w.heap.size 73 11 (.slice A b.evs.length c) b.evs.length (b.evs.flatMap aN)∧b.evs.length≤c)∧Below w.heap.size w w':=
 (qxu A n cp l B w hL hB hr hc hln hn hl).mono fun _ _ hh=>by rw [h] at hh;exact hh
def mM:Ev:={Ev.zero with seq:=5,time:=340,cpu:=2,kind:=5,ticks:=40,got:=7}
def mO:List Nat:=[13,0,0,0,113,116,1,2,7,91,144,57,154]
theorem VE:mM.Ok:=⟨⟨by decide,by decide⟩,⟨by decide,by decide⟩,by decide,by decide,⟨by decide,by decide⟩,⟨by decide,by decide⟩,⟨by decide,by decide⟩,⟨by decide,by decide⟩,⟨by decide,by decide⟩,by decide,⟨by decide,by decide⟩⟩
theorem VF:∀b∈mO,b<256:=by decide
def vE (b:Bs) (l:List Ev):Nat→Bs
 |0=>b
 |k+1=>(l.getD k Ev.zero).at
theorem VG:∀(l:List Ev) (b:Bs) (k:Nat),k<l.length→recs b (l.take (k+1))=recs b (l.take k)++qq (vE b l k) (l.getD k Ev.zero)
 |[],_,_,h=>by simp at h
 |e::r,b,0,_=>by simp [recs,vE]
 |e::r,b,k+1,h=>by
  have h':k<r.length:=by simpa using h
  have ih:=VG r e.at k h'
  rw [List.take_succ_cons,List.take_succ_cons,recs,recs,ih,List.append_assoc]
  congr 2
  cases k with
  |zero=>rfl
  |succ k=>rfl
theorem VJ {cpu:Nat}:∀(l:List Ev) (p:Option Ev) (b:Bs) (k:Nat),Chain cpu p b l→k<l.length→Fit (vE b l k) (l.getD k Ev.zero)
 |[],_,_,_,_,h=>by simp at h
 |e::r,p,b,0,hc,_=>hc.1
 |e::r,p,b,k+1,hc,h=>by
  have h':k<r.length:=by simpa using h
  have ih:=VJ r (some e) e.at k hc.2.2.2 h'
  cases k with
  |zero=>exact ih
  |succ k=>exact ih
theorem q4u {b:Bs} {e:Ev} (h:Fit b e):qs b e=0∧zz b e=qq b e:=by
 have h1:qs b e=0:=by
  unfold qs
  rw [if_neg (by have:=h.check;omega),if_pos ⟨h.right,h.behind⟩]
 exact ⟨h1,by unfold zz;rw [if_pos h1]⟩
def Bk.CS (b:Bk) (k:Nat):Bs:=vE b.base b.evs k
def Bk.sz (b:Bk) (k:Nat):Nat:=12+(ak b.cpu).length+(ak b.lost.toNat).length+(ak b.base.seq.toNat).length+(ak b.base.time.toNat).length+(recs b.base (b.evs.take k)).length
def Bk.big (b:Bk) (k:Nat):Bool:=decide (4096<b.sz k+(ak k).length)
def Bk.oU (b:Bk):Nat:=((List.range b.evs.length).find? fun i=>b.big (i+1)).getD b.evs.length
def Bk.fill (b:Bk):Nat×Nat:=if b.fits=false then (0,107) else (b.oU,0)
theorem mP (b:Bk) (k:Nat):b.sz k≤52+61*k:=by
 unfold Bk.sz
 have h1:=qe b.cpu
 have h2:=qe b.lost.toNat
 have h4:=qe b.base.seq.toNat
 have h5:=qe b.base.time.toNat
 have h6:=EJ (b.evs.take k) b.base
 rw [List.length_take] at h6
 have:min k b.evs.length≤k:=Nat.min_le_left _ _
 have h7:61*min k b.evs.length≤61*k:=Nat.mul_le_mul_left _ this
 omega
theorem q4v (b:Bk):b.sz 0=8+([b.cpu,b.lost.toNat,b.base.seq.toNat,b.base.time.toNat].flatMap ak).length+4:=by
 unfold Bk.sz
 simp [recs]
 omega
theorem VL {b:Bk} {k:Nat} (h:k<b.evs.length):b.sz (k+1)=b.sz k+(qq (b.CS k) (b.evs.getD k Ev.zero)).length:=by
 unfold Bk.sz Bk.CS
 rw [VG _ _ _ h,List.length_append]
 omega
theorem VN {b:Bk} {k:Nat} (hk:k<b.evs.length) (hno:∀i,i<k→b.big (i+1)=false) (h:b.big (k+1)=true):b.oU=k:=by
 unfold Bk.oU
 have:(List.range b.evs.length).find? (fun i=>b.big (i+1))=some k:=by
  rw [List.find?_eq_some_iff_append]
  refine ⟨h,List.range k,List.range' (k+1) (b.evs.length-k-1),?_,?_⟩
  ·rw [List.range_eq_range',List.range_eq_range']
   have e1:b.evs.length=k+(b.evs.length-k):=by omega
   have e2:b.evs.length-k=(b.evs.length-k-1)+1:=by omega
   conv=>lhs;rw [e1,←List.range'_append_1,e2,List.range'_succ]
   simp
  ·intro i hi
   have:=hno i (List.mem_range.1 hi)
   simp [this]
 rw [this]
 rfl
theorem NC {b:Bk} (hno:∀i,i<b.evs.length→b.big (i+1)=false):b.oU=b.evs.length:=by
 unfold Bk.oU
 have:(List.range b.evs.length).find? (fun i=>b.big (i+1))=none:=by
  rw [List.find?_eq_none]
  intro i hi
  have:=hno i (List.mem_range.1 hi)
  simp [this]
 rw [this]
 rfl
theorem J9 {w w':World} {b:Bk} {n e:Nat} (h:b.fill=(n,e)) (hb:Below w.heap.size w w'):Is w (.tuple #[.int .i64 (b.fill.1:Int),.int .i64 (b.fill.2:Int)]) (.returned (.tuple #[.int .i64 (n:Int),.int .i64 (e:Int)])) w':=by rw [h];exact ⟨rfl,hb⟩
theorem qzh (b:Bk) (hok:b.Ok) (A:Option Addr) (c B:Nat) (w:World) (hL:aL B w) (hB:B≤w.heap.size) (hr:Rd w w.heap.size 11 A b.evs.length (b.evs.flatMap aN)) (hn:b.evs.length≤1000000):
    Calls Tryz.prog 122 #[.agg (b.cells A c)] w (Is w (.tuple #[vI (b.fill.1:Int),vI (b.fill.2:Int)])):=by
 refine (dh Tryz.func122 70) ?_
 refine (JP∘JE) fun w1 g1=>(Jp 2∘Jj∘JQ∘JP∘Jy (v:= .agg (b.cells A c)) (h:=by exact Yl.qg rfl rfl aA rfl (fun _ h=>qb (h.blk (i:=0) rfl)))∘JI (h:=by exact fun HM=>CG b hok A c B _ (hL.mem HM hB) (HM.le hB) (HM.old hr) hn)) fun mF hbw=>(Jp 1∘aY∘Jj) (Ju (fun fP=>?_) fun fP=>?_)
 ·
  intro a Z HM
  have hf:b.fits=false:=by simpa using fP
  exact Jb Z HM ((JT∘JP∘Jp 2∘Jj∘JZ∘bY) fun HM=>J9 (by unfold Bk.fill;rw [if_pos hf]) HM.below)
 intro a Z HM
 have hf:b.fits=true:=by simpa using fP
 refine Jb Z HM ((JF∘aF∘JQ∘JP∘Jg 4 O0∘Jl∘Jp 1∘aY∘Jj) (Ju (fun dU=>?_) fun dU=>?_))
 ·
  intro a Z HM
  have lC:=eq_of_beq dU
  exact Jb Z HM ((JT∘JP∘Jp 2∘Jj∘JZ∘bY) fun HM=>J9 (by unfold Bk.fill;rw [if_neg (by rw [hf];decide),NC (fun i hi=>absurd hi om),show b.evs.length=0 by omega]) HM.below)
 intro a Z HM
 have lC:=ne_of_beq_false dU
 have hk:b.kind≠2:=fun h2=>by have:=M4 hf h2;omega
 obtain ⟨m0,m1,m2,m3,m4⟩:=M0 hf hk
 obtain ⟨q1,q2,q3,q4⟩:=MZ hok hf hk om
 obtain ⟨e0,r0,g0⟩:=CB hok (xg hf hk).2 om
 have hch:=g0.chain
 rw [←g0.base] at hch
 refine Jb Z HM ((JF∘aF∘JP∘Jy (v:= .agg (b.cells A c)) (h:=by exact Yl.qg rfl rfl aA rfl (fun _ h=>qb (h.blk (i:=0) rfl)))∘JI (h:=by exact fun HM=>UN b A c _ (HM.old hr) om)) fun qJ hbw=>(JA #[vI 0,vI 0]) fun w4 g4=>(JV ⟨kr,kr⟩ aZ (h1:=by exact Ct b.base)) fun Fh=>(aY∘Jr∘Jg 1 O1∘Jw .u64∘Jg 2 O1∘Jv 1 [(24,vQ (IntKind.u64.wrap b.lost))]∘Jo (vQ b.lost.toNat) (by exact qY om om)∘Jg 0 O0∘Jv 1 [(27,vQ (IntKind.u64.wrap b.base.seq))]∘Jo (vQ b.base.seq.toNat) (by exact qY om om)∘Jg 1 O0∘Jv 1 [(30,vQ (IntKind.u64.wrap b.base.time))]∘Jo (vQ b.base.time.toNat) (by exact qY om om)∘JU qbv #[vQ b.cpu,vQ b.lost.toNat,vQ b.base.seq.toNat,vQ b.base.time.toNat]) fun JY g31=>(JK (h:=by exact fun HM=>Mj _ 4 _ [b.cpu,b.lost.toNat,b.base.seq.toNat,b.base.time.toNat] _ (HM.aU (i:=0) (n:=4) (size:=1) rfl rfl) (by intro x hx;simp only [List.mem_cons,List.not_mem_nil,or_false] at hx;omega) om)) fun A32 c32 w32 hc32=>fun a Z HM=>?_)
 have hfl:=uO [b.cpu,b.lost.toNat,b.base.seq.toNat,b.base.time.toNat]
 refine Jb Z HM ((Jl∘Jp 1∘Jo (vI (8+([b.cpu,b.lost.toNat,b.base.seq.toNat,b.base.time.toNat].flatMap ak).length:Nat)) (by exact zq om (by simp only [List.length_cons,List.length_nil] at hfl;omega))∘Jp 1∘Jo (vI (b.sz 0)) (by exact zq (by rw [q4v];omega) (by have:=mP b 0;omega))∘Jp 1∘aI∘Jj∘JQ∘JP∘Jg 4 O3∘Jl∘Jp 1∘Jj∘JB∘JM (.f (.f .n))) fun a Z HM=>?_)
 refine qc (fun mS aS wS=>∃(k:Nat),(k≤b.evs.length)∧(∀i,i<k→b.big (i+1)=false)∧mS=b.evs.length-k∧Fr aS 70 [] [(39,vI k),(38,vI b.evs.length),(37,.slice A b.evs.length c),(5,vI (b.sz k)),(4,vP g4 0),(16,.bool false),(12,.bool false),(3,vI 0),(2,vI 0),(1,vP g1 0)]∧Mem w wS [.blk g4 ((b.CS k).cells) 110,.blk g1 (b.cells A c) 85]) (m:=b.evs.length-0) ⟨0,Nat.zero_le _,fun i hi=>absurd hi (Nat.not_lt_zero _),rfl,Z.sub kr,HM.pk [0,1]⟩ ?_
 clear Z HM;rintro mS a w_ ⟨k,hk0,hno,rfl,Z,HM⟩
 refine Jb Z HM ((JP∘Jp 1∘Jj∘JQ) (Ju (fun dD=>?_) fun dD=>?_))
 ·
  intro a Z HM
  have jG:=of_decide_eq_true dD
  have FY:k<b.evs.length:=by omega
  have hp:=q4u (VJ b.evs none b.base k hch FY)
  have hs0:=mP b k
  have hs1:=mP b (k+1)
  have hvb:=qe (k+1)
  refine Jb Z HM ((JT∘aF∘JQ∘JB∘JP∘Jp 1) ?_)
  repeat (first|clear Z|clear HM)
  intro a Z HM
  obtain ⟨gA,oA,rfl,_⟩:=hr.qm (Nat.lt_of_le_of_lt (Nat.zero_le _) (show k<b.evs.length from by omega)) de
  refine Jb Z HM ((Jy (h:=by exact Yl.ix gA oA k 11 rfl rfl rfl)∘Jy (v:= .agg ((b.evs.getD k Ev.zero).cells)) (h:=by exact Yl.qg rfl rfl ⟨kr,kr⟩ rfl (fun _ h=>(h.old hr).q8 qv ((getD_at Ev.zero (k:=k) (by first|omega|(simp;omega))))))∘JA #[vI 0,vI 0,vB 0,vB 0,vI 0,vI 0,vI 0,vI 0,vI 0,vQ 0,vI 0]) fun w7 g7=>(Jp 1∘JV ⟨kr,kr⟩ aZ (h1:=by exact zf (b.evs.getD k Ev.zero))) fun Og=>(Jr∘Jy (v:= .agg ((b.CS k).cells)) (h:=by exact Yl.qg rfl rfl ⟨kr,kr⟩ rfl (fun _ h=>qb (h.blk (i:=1) rfl)))∘Jy (v:= .agg ((b.evs.getD k Ev.zero).cells)) (h:=by exact Yl.qg rfl rfl ⟨kr,kr⟩ rfl (fun _ h=>qb (h.blk (i:=0) rfl)))∘JI (v:=.tuple #[vI ((qq (b.CS k) (b.evs.getD k Ev.zero)).length),vI 0]) (h:=by exact fun HM=>q4i (b.CS k) (b.evs.getD k Ev.zero) (hok.evs _ (q7 _ om)) B _ (hL.mem HM hB).laid (HM.le hB) (congrArg List.length hp.2) hp.1)) fun Ya hbw=>(Jp 1∘Jx∘Jx∘Jp 2∘kg∘Jr∘Jp 3∘Jo (vI (b.sz (k+1))) (by exact zq (by rw [VL om];omega) om)∘Jp 1∘bT∘Jj∘JQ∘JP∘Jp 2∘cK 1∘Jw .u64∘JL (h:=by exact fun HM=>qxz (k+1) _ om)) ?_)
  rintro HM _ XR ⟨rfl,hbw⟩
  refine ⟨_,rfl,_,HM.call hbw,?_⟩
  refine (Ja∘Jp 1∘aI∘Jj) (Ji (fun zH=>?_) fun zH=>?_)
  ·
   exact (JT∘JP∘Jp 3∘Jj∘JZ∘bY) fun HM=>J9 (by unfold Bk.fill;rw [if_neg (by rw [hf];decide),VN FY hno (by unfold Bk.big;rw [decide_eq_true];omega)]) HM.below
  refine (JF∘aF∘JR∘Jg 0 O0∘Jg 1 O0∘Jy (v:= .agg #[vI ((b.evs.getD k Ev.zero).seq),vI ((b.evs.getD k Ev.zero).time)]) (h:=by exact Yl.build (vs:=[(0,vI ((b.evs.getD k Ev.zero).seq)),(1,vI ((b.evs.getD k Ev.zero).time))]) rfl kr kr)∘JV ⟨kr,kr⟩ dO) fun Fj=>(uV∘Jj∘JR∘cK 1∘Jp 1∘aR∘Jq) fun a Z HM=>?_
  exact ⟨_,om,k+1,by omega,fun i hi=>(Nat.lt_succ_iff_lt_or_eq.1 hi).elim (hno i) (fun h=>by subst h;unfold Bk.big;rw [decide_eq_false];omega),rfl,Z.sub kr,HM.pk [1,2]⟩
 intro a Z HM
 have jG:=of_decide_eq_false dD
 have hke:k=b.evs.length:=by omega
 exact Jb Z HM ((JF∘JX∘JG∘JP∘Jg 4 O1∘Jl∘Jp 2∘Jj∘JZ∘bY) fun HM=>J9 (by unfold Bk.fill;rw [if_neg (by rw [hf];decide),NC (fun i hi=>hno i om)]) HM.below)
theorem qrg {w:World} {base n m c size:Nat} {e:TypeId} {A:Option Addr} {xs:List Value} (h:w.ownsRow base e size (.slice A n c) n xs) (hm:m≤n):w.ownsRow base e size (.slice A m c) m (xs.take (m*size)):=by
 have hms:m*size≤n*size:=Nat.mul_le_mul_right _ hm
 refine ⟨by rw [List.length_take,h.1];omega,?_⟩
 rcases h.2 with ⟨hv,hn⟩|⟨g,cap,cur,hv,hb,hg,h1,h2,h3,h4⟩
 ·injection hv with a1 a2 a3
  subst a1;subst a3;subst hn
  have:m=0:=by omega
  subst this
  exact .inl ⟨rfl,rfl⟩
 ·injection hv with a1 a2 a3
  subst a1;subst a3
  refine .inr ⟨g,c,cur,rfl,hb,hg,by omega,h2,h3,?_⟩
  rw [←h4,List.take_take]
  congr 1
  omega
section
variable {W w:World} {fs:List Fact}
theorem Mem.lS (h:Mem W w fs) {i n m c size:Nat} {e:TypeId} {A:Option Addr} {xs ys:List Value} (hi:fs[i]?=some (.row (.slice A n c) n xs e size)) (hm:m≤n) (hy:xs.take (m*size)=ys):Mem W w (fs.set i (.row (.slice A m c) m ys e size)):=by
 subst hy
 have hb:=h.holds _ (List.mem_of_getElem? hi)
 exact h.turn hi h.below (fun _ _ _=>rfl) (qrg hb hm) (fun g' hg'=> .inl (by cases A<;>exact hg'))
end
theorem l6:EI Tryz.prog 388 3 (.int .i64 0) 1 8:=⟨by kernel_rfl,by kernel_rfl,rfl,by omega⟩
def oZ (w:World) (l:List Nat) (r:Ending) (w':World):Prop:=
 (∃A c,r= .returned (.slice A l.length c)∧w'.ownsRow w.heap.size 3 1 (.slice A l.length c) l.length (l.map bn)∧l.length≤c)∧Below w.heap.size w w'
def sI (w:World) (A:Option Addr) (c:Nat) (a b:List Nat) (r:Ending) (w':World):Prop:=
 (∃vq X c',r= .returned (.tuple #[vq,.slice X (dK (a.length+1) a b).length c'])∧(a.length<b.length→X=A∧c'=c)∧(b.length≤a.length→w'.ownsRow w.heap.size 3 1 (.slice X (dK (a.length+1) a b).length c') (dK (a.length+1) a b).length ((dK (a.length+1) a b).map bn)∧(dK (a.length+1) a b).length≤c'))∧Below w.heap.size w w'
def jT (l:List Nat):Prop:=∀x∈l,x<2
def Tr (l:List Nat):Prop:=0<l.length→l.getD (l.length-1) 0≠0
theorem OA {l:List Nat} (h:jT l) (k:Nat):l.getD k 0<2:=by
 rw [List.getD_eq_getElem?_getD]
 cases hk:l[k]? with
 |none=>simp
 |some x=>exact h x (List.mem_of_getElem? hk)
theorem OB {l:List Nat} {k:Nat} (h:0<k) (hk:k≤l.length):l.take k=l.take (k-1)++[l.getD (k-1) 0]:=by
 obtain ⟨j,rfl⟩:∃j,k=j+1:=⟨k-1,by omega⟩
 rw [Nat.add_sub_cancel,List.take_succ_eq_append_getElem om,List.getD_eq_getElem?_getD,List.getElem?_eq_getElem om]
 rfl
theorem Xy {l:List Nat} {k:Nat} (h:0<k) (hk:k≤l.length) (h0:l.getD (k-1) 0=0) (ht:bC (l.take k)=bC l):bC (l.take (k-1))=bC l:=by
 rw [←ht,OB h hk,h0,Mg]
theorem Kz {l:List Nat} {k:Nat} (hk:k≤l.length) (h0:0<k→l.getD (k-1) 0≠0) (ht:bC (l.take k)=bC l):bC l=l.take k:=by
 rw [←ht]
 by_cases h:0<k
 ·rw [OB h hk,Te (h0 h)]
 ·have:k=0:=by omega
  subst this
  rfl
theorem OC (l:List Nat):bC l<+:l:=by
 have h:=List.dropWhile_suffix (l:=l.reverse) (· ==0)
 have:=List.reverse_prefix.2 h
 rwa [List.reverse_reverse] at this
theorem qy6 (l:List Nat):l.take (bC l).length=bC l:=(List.prefix_iff_eq_take.1 (OC l)).symm
theorem FI (l:List Nat):(bC l).length≤l.length:=(OC l).length_le
theorem Xz (l:List Nat):(l.map bn).take ((bC l).length*1)=(bC l).map bn:=by rw [Nat.mul_one,←List.map_take,qy6]
theorem OD {l:List Nat} (h:jT l):jT (bC l):=fun x hx=>h x ((OC l).sublist.mem hx)
theorem XA:∀(n:Nat) (l:List Nat),l.length=n→Tr (bC l)
 |0,l,h=>by
  rw [List.length_eq_zero_iff] at h
  subst h
  intro h;simp [bC] at h
 | n + 1, l, h => by
  have e:=OB (l:=l) (k:=l.length) om om
  rw [List.take_length] at e
  by_cases h0:l.getD (l.length-1) 0=0
  ·rw [e,h0,Mg]
   exact XA n _ (by rw [List.length_take];omega)
  ·rw [e,Te h0,←e]
   intro _
   exact h0
theorem OE (l:List Nat):Tr (bC l):=XA _ l rfl
theorem KA (f:Nat→Nat) (k:Nat):(List.range (k+1)).map f=(List.range k).map f++[f k]:=by rw [List.range_succ,List.map_append];rfl
def sJ (p k:Nat):List Nat:=(List.range k).map fun i=>p/2^i%2
theorem qri (p k:Nat):sJ p (k+1)=sJ p k++[p/2^k%2]:=KA _ _
theorem XB (p k:Nat):(sJ p k).length=k:=by unfold sJ;rw [List.length_map,List.length_range]
def dY (a b:List Nat) (s k:Nat):List Nat:=(List.range k).map (gB a b s)
theorem Db (a b:List Nat) (s k:Nat):dY a b s (k+1)=dY a b s k++[gB a b s k]:=KA _ _
theorem XC (a b:List Nat) (s k:Nat):(dY a b s k).length=k:=by unfold dY;rw [List.length_map,List.length_range]
theorem qy8 (a b:List Nat) (s:Nat):bC (dY a b s (max a.length (b.length+s)))=gN a b s:=rfl
theorem XD {l:List Nat} {k:Nat} (h:l.length≤k):l.getD k 0=0:=by rw [List.getD_eq_getElem?_getD,List.getElem?_eq_none h];rfl
theorem XE {a b:List Nat} {s k:Nat} (h1:s≤k) (h2:k-s<b.length):gB a b s k=(a.getD k 0+b.getD (k-s) 0)%2:=if_pos ⟨h1,h2⟩
theorem q6v {a b:List Nat} {s k:Nat} (h1:s≤k) (h2:k-s<b.length) (h3:a.length≤k):gB a b s k=(0+b.getD (k-s) 0)%2:=by rw [XE h1 h2,XD h3]
theorem OG {a b:List Nat} {s k:Nat} (h:¬(s≤k∧k-s<b.length)):gB a b s k=a.getD k 0:=if_neg h
theorem XF {a b:List Nat} {s k:Nat} (h:¬(s≤k∧k-s<b.length)) (h3:a.length≤k):gB a b s k=0:=by rw [OG h,XD h3]
theorem q42 {a b:List Nat} (ha:jT a) (s i:Nat):gB a b s i<2:=by
 unfold gB
 split
 ·omega
 ·exact OA ha i
theorem mR {a b:List Nat} (ha:jT a) (s:Nat):jT (gN a b s):=by
 unfold gN
 apply OD
 intro x hx
 obtain ⟨i,_,rfl⟩:=List.mem_map.1 hx
 exact q42 ha s i
theorem o7 (a b:List Nat) (s:Nat):Tr (gN a b s):=OE _
theorem q43 (a b:List Nat) (s:Nat):(gN a b s).length≤max a.length (b.length+s):=by
 unfold gN
 refine Nat.le_trans (FI _) ?_
 rw [List.length_map,List.length_range]
 exact Nat.le_refl _
theorem KC {a b:List Nat} (ha:jT a) (hb:jT b) (xM:Tr a) (htb:Tr b) (h0:0<b.length) (h:b.length≤a.length):(gN a b (a.length-b.length)).length<a.length:=by
 have e:max a.length (b.length+(a.length-b.length))=(a.length-1)+1:=by omega
 have h1:=xM om
 have h2:=htb h0
 have h3:=OA ha (a.length-1)
 have h4:=OA hb (b.length-1)
 unfold gN
 rw [e,KA]
 have hz:gB a b (a.length-b.length) (a.length-1)=0:=by
  unfold gB
  rw [if_pos ⟨by omega,by omega⟩,show a.length-1- (a.length-b.length)=b.length-1 by omega]
  omega
 rw [hz,Mg]
 refine Nat.lt_of_le_of_lt (FI _) ?_
 rw [List.length_map,List.length_range]
 omega
theorem XG {b:List Nat} (hb:jT b) (htb:Tr b) (h0:0<b.length):∀(n:Nat) (a:List Nat),a.length=n→jT a→Tr a→∀f g,a.length<f→a.length<g→dK f a b=dK g a b:=by
 intro n
 induction n using Nat.strongRecOn with
 | _ n ih =>
  intro a hn ha xM f g hf hg
  obtain ⟨f,rfl⟩:∃j,f=j+1:=⟨f-1,by omega⟩
  obtain ⟨g,rfl⟩:∃j,g=j+1:=⟨g-1,by omega⟩
  rw [dK,dK]
  split
  ·rename_i h
   have hl:=KC ha hb xM htb h0 h
   exact ih _ om _ rfl (mR ha _) (o7 _ _ _) f g om om
  ·rfl
theorem XH {a0 a b:List Nat} (hb:jT b) (htb:Tr b) (h0:0<b.length) (ha:jT a) (xM:Tr a) (h:b.length≤a.length) (he:dK (a.length+1) a b=dK (a0.length+1) a0 b):
  dK ((gN a b (a.length-b.length)).length+1) (gN a b (a.length-b.length)) b=dK (a0.length+1) a0 b:=by
 have hl:=KC ha hb xM htb h0 h
 have e:dK (a.length+1) a b=dK a.length (gN a b (a.length-b.length)) b:=by rw [dK,if_pos h]
 rw [←he,e]
 exact XG hb htb h0 _ _ rfl (mR ha _) (o7 _ _ _) _ _ om om
theorem XI {a b:List Nat} (h:¬b.length≤a.length):dK (a.length+1) a b=a:=by rw [dK,if_neg h]
theorem KD (p:Nat):jT (Es p):=by
 unfold Es
 apply OD
 intro x hx
 obtain ⟨i,_,rfl⟩:=List.mem_map.1 hx
 omega
theorem KE (p:Nat):jT (bitsOf p):=by
 unfold bitsOf
 apply OD
 intro x hx
 obtain ⟨i,_,rfl⟩:=List.mem_map.1 hx
 split<;>omega
theorem KF (p:Nat):Tr (Es p):=OE _
theorem KG (p:Nat):Tr (bitsOf p):=OE _
theorem AJ:lu.length=33:=by decide+kernel
theorem OH (p:Nat):(bitsOf p).length≤40:=by
 unfold bitsOf
 refine Nat.le_trans (FI _) ?_
 rw [List.length_map,List.length_range]
 exact Nat.le_refl _
theorem q44 {b:List Nat} (h0:0<b.length) (hb:jT b) (htb:Tr b):∀(n:Nat) (a:List Nat),a.length=n→jT a→Tr a→(dK (a.length+1) a b).length<b.length:=by
 intro n
 induction n using Nat.strongRecOn with
 | _ n ih =>
  intro a hn ha xM
  by_cases h:b.length≤a.length
  ·have hl:=KC ha hb xM htb h0 h
   have hs:=XH hb htb h0 ha xM h rfl
   rw [←hs]
   exact ih _ om _ rfl (mR ha _) (o7 _ _ _)
  ·rw [XI h];omega
def d9 (y:Nat):List Nat:=dK ((bitsOf y).length+1) (bitsOf y) lu
theorem XJ (y:Nat):(d9 y).length≤32:=by
 have h:=q44 (b:=lu) (by rw [AJ];decide) (KD _) (KF _) _ (bitsOf y) rfl (KE _) (KG _)
 rw [AJ] at h
 exact Nat.le_of_lt_succ h
theorem XK (y:Nat):Mh (d9 y)=kG y:=by
 unfold kG d9
 have:=OH y
 rw [XG (b:=lu) (KD _) (KF _) (by rw [AJ];decide) _ (bitsOf y) rfl (KE _) (KG _) ((bitsOf y).length+1) 41 om om]
def iq (r:List Nat) (k:Nat):Nat:=((List.range k).map fun k=>if r.getD k 0=1 then 2^ (31-k) else 0).sum
theorem KH (r:List Nat) (k:Nat):iq r (k+1)=iq r k+if r.getD k 0=1 then 2^ (31-k) else 0:=by
 unfold iq
 rw [KA,List.sum_append]
 simp
theorem XL (r:List Nat):∀k,k≤32→iq r k+2^ (32-k)≤4294967296
 |0,_=>by show 0+2^32≤_;decide
 |k+1,h=>by
  have ih:=XL r k om
  rw [KH]
  have e1:(2:Nat)^ (32-k)=2^ (32- (k+1))*2:=by rw [show 32-k=(32- (k+1))+1 by omega,Nat.pow_succ]
  have e2:(2:Nat)^ (31-k)=2^ (32- (k+1)):=by rw [show 31-k=32- (k+1) by omega]
  split<;>omega
theorem XM (r:List Nat):iq r r.length=Mh r:=rfl
def mU (y k:Nat):List Nat:=(List.range 40).map fun i=>if 40-k≤i then y/2^ (39-i)%2 else 0
theorem xO (y k:Nat):(mU y k).length=40:=by unfold mU;rw [List.length_map,List.length_range]
theorem OI (y k:Nat) {i:Nat} (h:i<40):(mU y k)[i]?=some (if 40-k≤i then y/2^ (39-i)%2 else 0):=by
 unfold mU
 rw [List.getElem?_map,List.getElem?_range h]
 rfl
theorem qrj (y:Nat):mU y 0=List.replicate 40 0:=by
 apply List.ext_getElem?
 intro i
 by_cases h:i<40
 ·rw [OI y 0 h,if_neg om,List.getElem?_replicate,if_pos h]
 ·rw [List.getElem?_eq_none (by rw [xO];omega),List.getElem?_eq_none (by rw [List.length_replicate];omega)]
theorem qrk {y k:Nat} (hk:k<8):(mU y k).set (39-k) (y/2^k%2)=mU y (k+1):=by
 apply List.ext_getElem?
 intro i
 by_cases h:i<40
 ·rw [List.getElem?_set,OI y (k+1) h]
  by_cases hi:39-k=i
  ·rw [if_pos hi,if_pos (by rw [xO];omega),if_pos om,show 39-i=k by omega]
  ·rw [if_neg hi,OI y k h]
   by_cases h2:40-k≤i
   ·rw [if_pos h2,if_pos om]
   ·rw [if_neg h2,if_neg om]
 ·rw [List.getElem?_eq_none (by rw [List.length_set,xO];omega),List.getElem?_eq_none (by rw [xO];omega)]
theorem XO (y:Nat):bC (mU y 8)=bitsOf y:=rfl
theorem FJ (k:Nat):1*2^ (31-k)≤4294967295:=by
 have:(2:Nat)^ (31-k)≤2^31:=Nat.pow_le_pow_right de om
 omega
theorem q45 (r:List Nat) {k:Nat} (h:k<32):iq r k+1*2^ (31-k)≤4294967295:=by
 have h1:=XL r k om
 have e1:(2:Nat)^ (32-k)=2^ (31-k)*2:=by rw [show 32-k=(31-k)+1 by omega,Nat.pow_succ]
 have:0<(2:Nat)^ (31-k):=Nat.pow_pos de
 omega
theorem qzb:d9 0=[]:=by decide+kernel
theorem quy {l:List Nat} {n:Nat} (hl:∀x∈l,x<256) (hln:l.length=n):decide (bI (l.take (n-4))=l)=mE l:=by
 subst hln
 rw [Bool.eq_iff_iff,decide_eq_true_eq]
 constructor
 ·intro h
  have:=qql (l:=l.take (l.length-4))
  rwa [h] at this
 ·intro h
  exact Tt hl h
theorem q2m:∀y,y<256→y≠0→33≤(bitsOf y).length:=by decide+kernel
theorem XP (A:Option Addr) (n c:Nat) (l:List Nat) (w:World) (hr:Rd w w.heap.size 1 A n (l.map bn)) (hln:l.length=n) (hn:n≤140737488355328) (hc:n≤c):
    Calls Tryz.prog 300 #[.slice A n c] w (Is w (.slice A (bC l).length c)):=by
 refine (dh Tryz.func300 21) ?_
 refine (JP∘Jp 1∘Jj∘JQ∘JB) fun a Z HM=>?_
 refine qc (fun mS aS wS=>∃(k:Nat),(k≤n)∧(bC (l.take k)=bC l)∧mS=0+k∧Fr aS 21 [] [(2,vN),(0,.slice A k c)]∧Mem w wS []) (m:=0+n) ⟨n,Nat.le_refl _,by rw [List.take_of_length_le om],rfl,Z.sub kr,HM.pk []⟩ ?_
 clear Z HM;rintro mS a w_ ⟨k,hk,ht,rfl,Z,HM⟩
 refine Jb Z HM ((JQ∘JP∘Jp 1∘Jl∘Jp 2) (Ju (fun hb6=>?_) fun hb6=>?_))
 ·
  intro a Z HM
  have hd6:=of_decide_eq_true hb6
  have hk0:0<k:=by omega
  revert HM;revert a;repeat (first|clear Z|clear HM)
  intro a Z HM
  obtain ⟨gA,oA,rfl,_⟩:=hr.qm (Nat.lt_of_le_of_lt (Nat.zero_le _) (show 0<n from by omega)) de
  refine Jb Z HM ((Jp 2∘Jl∘yO 1∘Jy (h:=by exact Yl.ix gA oA (k-1) 1 rfl rfl rfl)∘Jy (h:=by exact Yl.o1 hr (k-1) 0 (by first|omega|(simp;omega)) rfl rfl)∘Jp 2∘aI∘Jj) (Je (fun gG=>?_) fun gG=>?_))
  ·
   refine (JT∘aF∘JB∘JR∘Jp 2∘Jl∘yO 1∘Jy (h:=by exact Yl.q0 l6 (j:=k-1) rfl rfl rfl om)∘Jp 1∘fJ∘Jq) fun a Z HM=>?_
   exact ⟨_,om,(k-1),by omega,Xy om om om ht,rfl,Z.sub kr,HM.pk []⟩
  exact (JF∘JX∘JG∘JP∘Jp 2∘aR∘Jj∘JZ∘bB) fun HM=>by exact ⟨by rw [Kz (k:=k) om (fun _=>by omega) ht,List.length_take,Nat.min_eq_left om],HM.below⟩
 intro a Z HM
 have hd6:=of_decide_eq_false hb6
 exact Jb Z HM ((Jv 8 [(14,.bool false)]∘dR∘Jj∘JF∘JX∘JG∘JP∘Jp 2∘aR∘Jj∘JZ∘bB) fun HM=>by exact ⟨by rw [Kz (k:=k) om (fun _=>by omega) ht,List.length_take,Nat.min_eq_left om],HM.below⟩)
theorem qzc (p:Nat) (hp:p<18446744073709551616) (w:World):
    Calls Tryz.prog 260 #[vQ p] w (oZ w (Es p)):=by
 refine (dh Tryz.func260 19) ?_
 refine (JP∘Jp 1∘Jr∘Jp 1∘Jq) fun a Z HM=>?_
 replace HM:=HM.nil 3 1
 refine Jb Z HM ((JG∘JQ∘JP∘Jp 1∘Jj∘JB) fun a Z HM=>?_)
 refine qc (fun mS aS wS=>∃(k:Nat) (Ak:Option Addr) (ck:Nat),(k≤64)∧(k≤ck)∧mS=64-k∧Fr aS 19 [] [(4,vI k),(3,.slice Ak k ck),(2,vN),(0,vQ p)]∧Mem w wS [.row (.slice Ak k ck) k ((sJ p k).map bn) 3 1]) (m:=64-0) ⟨0,none,0,by omega,Nat.le_refl _,rfl,Z.sub kr,HM.pk [0]⟩ ?_
 clear Z HM;rintro mS a w_ ⟨k,Ak,ck,hk,hck,rfl,Z,HM⟩
 refine Jb Z HM ((JQ∘JP∘Jp 2∘aR∘Jj) (Ju (fun hb6=>?_) fun hb6=>?_))
 ·
  intro a Z HM
  have hd6:=of_decide_eq_true hb6
  refine Jb Z HM ((JT∘aF∘JQ∘JB∘JR∘Jp 3∘Jy (v:=vQ (p/2^k:Nat)) (h:=by exact Yl.Fv (m:=p) (n:=k) rfl rfl rfl (by show _≤64;omega))∘Jp 1∘Jo (vQ ((p/2^k)%2:Nat)) (by exact nI .u64 _ 2)∘Jw .i64∘JU l6 #[vI ((p/2^k)%2:Nat)]) fun oM g15=>(JD [bn ((p/2^k)%2)] 1 (fun _ _=>dO) l6 (hr:=by exact fun HM=>HM.aU (i:=0) (n:=1) (size:=1) rfl rfl) (h1:=by simp [Value.oneCell',bn])) fun w16 xq c16 hc16=>(Jp 1∘aI∘Jq) fun a Z HM=>?_)
  have sK:k+1=k+1:=rfl
  replace HM:=HM.aV (i:=1) (ys:=(sJ p (k+1)).map bn) rfl sK (by rw [qri];simp)
  rw [sK] at hc16
  replace Z:=Z.sp 3 (.slice xq (k+1) c16) rfl (by rw [sK])
  refine Jb Z HM ((JG∘JR∘Jp 1∘cK 1∘Jp 1∘aY∘Jq) fun a Z HM=>?_)
  exact ⟨_,om,k+1,xq,c16,by omega,hc16,rfl,Z.sub kr,HM.pk [1]⟩
 intro a Z HM
 have hd6:=of_decide_eq_false hb6
 revert HM;revert a;repeat (first|clear Z|clear HM)
 intro a Z HM
 obtain rfl:k=64:=by omega
 refine Jb Z HM ((JF∘JX∘JG∘JP∘Jp 1∘JI (h:=by exact fun HM=>XP _ _ _ (sJ p 64) _ (HM.rd (i:=0) rfl) (XB p 64) om om)) fun qJ hbw=>fun a Z HM=>?_)
 have xP:=FI (sJ p 64)
 have FK:(bC (sJ p 64)).length≤64:=by rw [XB p 64] at xP;exact xP
 replace HM:=HM.lS (i:=0) rfl FK (Xz (sJ p 64))
 exact Jb Z HM ((Jp 1∘aY∘Jj∘JZ∘bB) fun HM=>by exact ⟨⟨_,_,rfl,HM.own (i:=0) rfl,by show (bC (sJ p 64)).length≤_;omega⟩,HM.below⟩)
theorem XQ (A A2:Option Addr) (c c2:Nat) (p q:List Nat) (s:Nat) (w:World) (h1:jT p) (h2:jT q) (hr:Rd w w.heap.size 1 A p.length (p.map bn)) (hr2:Rd w w.heap.size 1 A2 q.length (q.map bn)) (hp:p.length≤1000000) (hq:q.length+s≤1000000):
    Calls Tryz.prog 299 #[.slice A p.length c,.slice A2 q.length c2,vI s] w (oZ w (gN p q s)):=by
 refine (Co Tryz.func299 58) ?_
 refine (JP∘Jp 1∘Jr∘Jp 1∘Jq) fun a Z HM=>?_
 replace HM:=HM.nil 3 1
 refine Jb Z HM ((JG∘JQ∘JP∘Jp 1∘Jj∘JB) fun a Z HM=>?_)
 refine qc (fun mS aS wS=>∃(k:Nat) (Ak:Option Addr) (ck:Nat),(k≤(max p.length (q.length+s)))∧(k≤ck)∧mS=(max p.length (q.length+s))-k∧Fr aS 58 [] [(8,vI k),(7,.slice Ak k ck),(6,vN),(0,.slice A p.length c),(1,.slice A2 q.length c2),(2,vI s)]∧Mem w wS [.row (.slice Ak k ck) k ((dY p q s k).map bn) 3 1]) (m:=(max p.length (q.length+s))-0) ⟨0,none,0,Nat.zero_le _,Nat.le_refl _,rfl,Z.sub kr,HM.pk [0]⟩ ?_
 clear Z HM;rintro mS a w_ ⟨k,Ak,ck,hk,hck,rfl,Z,HM⟩
 refine Jb Z HM ((JQ∘JP∘Jp 2∘Jl∘Jp 2) (Ji (fun gG=>?_) fun gG=>?_))
 ·
  refine (Jp 7∘aI∘Jj∘JT∘aF∘JQ∘JB∘JP∘Jp 1∘Jj∘JQ∘JP∘Jp 2∘Jl∘Jp 1∘bT∘Jj) (Ju (fun iE=>?_) fun iE=>?_)
  ·
   intro a Z HM
   have hd27:=of_decide_eq_true iE
   refine Jb Z HM ((JT∘JR∘Jp 2) ?_)
   repeat (first|clear Z|clear HM)
   intro a Z HM
   obtain ⟨gA,oA,rfl,_⟩:=hr.qm (Nat.lt_of_le_of_lt (Nat.zero_le _) (show k<p.length from by omega)) de
   refine Jb Z HM ((Jy (h:=by exact Yl.ix gA oA k 1 rfl rfl rfl)∘JH (getD_lt h1 (k:=k) (by first|omega|(simp;omega)))) fun hx1=>(Jy (h:=by exact Yl.o1 hr k 0 (by first|omega|(simp;omega)) rfl rfl)∘Jp 1∘dR∘Jj∘JQ∘JP∘Jp 4) (Ji (fun lN=>?_) fun lN=>?_))
   ·
    refine (Jp 2∘Js∘Jp 1∘Jl∘Jp 2∘aI∘Jj) (Ji (fun AL=>?_) fun AL=>?_)
    ·
     refine (JT∘JR∘Jp 4∘Js) ?_
     repeat (first|clear Z|clear HM)
     intro a Z HM
     obtain ⟨rQ,rR,rfl,_⟩:=hr2.qm (Nat.lt_of_le_of_lt (Nat.zero_le _) (show k-s<q.length from by omega)) de
     refine Jb Z HM ((Jy (h:=by exact Yl.ix rQ rR (k-s) 1 rfl rfl rfl)∘JH (getD_lt h2 (k:=(k-s)) (by first|omega|(simp;omega)))) fun hx2=>(Jy (h:=by exact Yl.o1 hr2 (k-s) 0 (by first|omega|(simp;omega)) rfl rfl)∘Ja∘Jp 1∘Jo (vI (((p.getD k 0)+(q.getD (k-s) 0))%2:Nat)) (by exact nI .i64 _ 2)∘Jp 1∘aI∘Jj∘JR∘Jp 2∘JU l6 #[vI (((p.getD k 0)+(q.getD (k-s) 0))%2:Nat)]) fun pY qN=>(JD [bn (((p.getD k 0)+(q.getD (k-s) 0))%2)] 1 (fun _ _=>dO) l6 (hr:=by exact fun HM=>HM.aU (i:=0) (n:=1) (size:=1) rfl rfl) (h1:=by simp [Value.oneCell',bn])) fun vL kJ kK fC=>(Jp 1∘dR∘Jq) fun a Z HM=>?_)
     have bR:k+1=k+1:=rfl
     replace HM:=HM.aV (i:=1) (ys:=(dY p q s (k+1)).map bn) rfl bR (by rw [Db,XE om om];simp)
     rw [bR] at fC
     replace Z:=Z.sp 7 (.slice kJ (k+1) kK) rfl (by rw [bR])
     refine Jb Z HM ((JG∘JR∘Jp 1∘cK 1∘Jp 1∘aY∘Jq) fun a Z HM=>?_)
     exact ⟨_,om,k+1,kJ,kK,by omega,fC,rfl,Z.sub kr,HM.pk [1]⟩
    refine (JF∘aF∘JR∘Jp 2∘JU l6 #[vI (p.getD k 0)]) fun pY qN=>(JD [bn (p.getD k 0)] 1 (fun _ _=>dO) l6 (hr:=by exact fun HM=>HM.aU (i:=0) (n:=1) (size:=1) rfl rfl) (h1:=by simp [Value.oneCell',bn])) fun vL kJ kK fC=>(Jp 1∘dR∘Jq) fun a Z HM=>?_
    have bR:k+1=k+1:=rfl
    replace HM:=HM.aV (i:=1) (ys:=(dY p q s (k+1)).map bn) rfl bR (by rw [Db,OG om];simp)
    rw [bR] at fC
    replace Z:=Z.sp 7 (.slice kJ (k+1) kK) rfl (by rw [bR])
    refine Jb Z HM ((JG∘JR∘Jp 1∘cK 1∘Jp 1∘aY∘Jq) fun a Z HM=>?_)
    exact ⟨_,om,k+1,kJ,kK,by omega,fC,rfl,Z.sub kr,HM.pk [1]⟩
   refine (Jp 7∘aI∘Jj∘JF∘aF∘JR∘Jp 2∘JU l6 #[vI (p.getD k 0)]) fun pY qN=>(JD [bn (p.getD k 0)] 1 (fun _ _=>dO) l6 (hr:=by exact fun HM=>HM.aU (i:=0) (n:=1) (size:=1) rfl rfl) (h1:=by simp [Value.oneCell',bn])) fun vL kJ kK fC=>(Jp 1∘dR∘Jq) fun a Z HM=>?_
   have bR:k+1=k+1:=rfl
   replace HM:=HM.aV (i:=1) (ys:=(dY p q s (k+1)).map bn) rfl bR (by rw [Db,OG om];simp)
   rw [bR] at fC
   replace Z:=Z.sp 7 (.slice kJ (k+1) kK) rfl (by rw [bR])
   refine Jb Z HM ((JG∘JR∘Jp 1∘cK 1∘Jp 1∘aY∘Jq) fun a Z HM=>?_)
   exact ⟨_,om,k+1,kJ,kK,by omega,fC,rfl,Z.sub kr,HM.pk [1]⟩
  intro a Z HM
  have hd27:=of_decide_eq_false iE
  omega
 refine (Jp 2∘Jl∘Jp 1∘Ja∘Jp 2∘aI∘Jj) (Ju (fun dF=>?_) fun dF=>?_)
 ·
  intro a Z HM
  have gF:=of_decide_eq_true dF
  refine Jb Z HM ((JT∘aF∘JQ∘JB∘JP∘Jp 1∘Jj∘JQ∘JP∘Jp 2∘Jl∘Jp 1∘bT∘Jj) (Ju (fun iE=>?_) fun iE=>?_))
  ·
   intro a Z HM
   have hd27:=of_decide_eq_true iE
   omega
  intro a Z HM
  have hd27:=of_decide_eq_false iE
  refine Jb Z HM ((JF∘aF∘JQ∘JP∘Jp 4) (Ji (fun lN=>?_) fun lN=>?_))
  ·
   refine (Jp 2∘Js∘Jp 1∘Jl∘Jp 2∘aI∘Jj) (Ji (fun AL=>?_) fun AL=>?_)
   ·
    refine (JT∘JR∘Jp 4∘Js) ?_
    repeat (first|clear Z|clear HM)
    intro a Z HM
    obtain ⟨rQ,rR,rfl,_⟩:=hr2.qm (Nat.lt_of_le_of_lt (Nat.zero_le _) (show k-s<q.length from by omega)) de
    refine Jb Z HM ((Jy (h:=by exact Yl.ix rQ rR (k-s) 1 rfl rfl rfl)∘JH (getD_lt h2 (k:=(k-s)) (by first|omega|(simp;omega)))) fun hx3=>(Jy (h:=by exact Yl.o1 hr2 (k-s) 0 (by first|omega|(simp;omega)) rfl rfl)∘Jp 1∘Jo (vI (0+(q.getD (k-s) 0):Nat)) (by exact zq om om)∘Jp 1∘Jo (vI ((0+(q.getD (k-s) 0))%2:Nat)) (by exact nI .i64 _ 2)∘Jp 1∘aI∘Jj∘JR∘Jp 2∘JU l6 #[vI ((0+(q.getD (k-s) 0))%2:Nat)]) fun pY qN=>(JD [bn ((0+(q.getD (k-s) 0))%2)] 1 (fun _ _=>dO) l6 (hr:=by exact fun HM=>HM.aU (i:=0) (n:=1) (size:=1) rfl rfl) (h1:=by simp [Value.oneCell',bn])) fun vL kJ kK fC=>(Jp 1∘dR∘Jq) fun a Z HM=>?_)
    have bR:k+1=k+1:=rfl
    replace HM:=HM.aV (i:=1) (ys:=(dY p q s (k+1)).map bn) rfl bR (by rw [Db,q6v om om om];simp)
    rw [bR] at fC
    replace Z:=Z.sp 7 (.slice kJ (k+1) kK) rfl (by rw [bR])
    refine Jb Z HM ((JG∘JR∘Jp 1∘cK 1∘Jp 1∘aY∘Jq) fun a Z HM=>?_)
    exact ⟨_,om,k+1,kJ,kK,by omega,fC,rfl,Z.sub kr,HM.pk [1]⟩
   refine (JF∘aF∘JR∘Jp 2∘JU l6 #[vI 0]) fun pY qN=>(JD [bn 0] 1 (fun _ _=>dO) l6 (hr:=by exact fun HM=>HM.aU (i:=0) (n:=1) (size:=1) rfl rfl) (h1:=by simp [Value.oneCell',bn])) fun vL kJ kK fC=>(Jp 1∘dR∘Jq) fun a Z HM=>?_
   have bR:k+1=k+1:=rfl
   replace HM:=HM.aV (i:=1) (ys:=(dY p q s (k+1)).map bn) rfl bR (by rw [Db,XF om om];simp)
   rw [bR] at fC
   replace Z:=Z.sp 7 (.slice kJ (k+1) kK) rfl (by rw [bR])
   refine Jb Z HM ((JG∘JR∘Jp 1∘cK 1∘Jp 1∘aY∘Jq) fun a Z HM=>?_)
   exact ⟨_,om,k+1,kJ,kK,by omega,fC,rfl,Z.sub kr,HM.pk [1]⟩
  refine (Jp 7∘aI∘Jj∘JF∘aF∘JR∘Jp 2∘JU l6 #[vI 0]) fun pY qN=>(JD [bn 0] 1 (fun _ _=>dO) l6 (hr:=by exact fun HM=>HM.aU (i:=0) (n:=1) (size:=1) rfl rfl) (h1:=by simp [Value.oneCell',bn])) fun vL kJ kK fC=>(Jp 1∘dR∘Jq) fun a Z HM=>?_
  have bR:k+1=k+1:=rfl
  replace HM:=HM.aV (i:=1) (ys:=(dY p q s (k+1)).map bn) rfl bR (by rw [Db,XF om om];simp)
  rw [bR] at fC
  replace Z:=Z.sp 7 (.slice kJ (k+1) kK) rfl (by rw [bR])
  refine Jb Z HM ((JG∘JR∘Jp 1∘cK 1∘Jp 1∘aY∘Jq) fun a Z HM=>?_)
  exact ⟨_,om,k+1,kJ,kK,by omega,fC,rfl,Z.sub kr,HM.pk [1]⟩
 intro a Z HM
 have gF:=of_decide_eq_false dF
 have hkM:k=(max p.length (q.length+s)):=by omega
 refine Jb Z HM ((JF∘JX∘JG∘JP∘Jp 1∘JI (h:=by exact fun HM=>XP _ _ _ (dY p q s k) _ (HM.rd (i:=0) rfl) (XC p q s k) om om)) fun XR hbw=>fun a Z HM=>?_)
 have xQ:=FI (dY p q s k)
 have FL:(bC (dY p q s k)).length≤k:=by rw [XC p q s k] at xQ;exact xQ
 replace HM:=HM.lS (i:=0) rfl FL (Xz (dY p q s k))
 exact Jb Z HM ((Jp 1∘aY∘Jj∘JZ∘bB) fun HM=>by rw [←qy8 p q s,←hkM];exact ⟨⟨_,_,rfl,HM.own (i:=0) rfl,by omega⟩,HM.below⟩)
theorem FM:jT [1]:=by intro x hx;simp at hx;omega
theorem q2n {w w':World} {A X Xr:Option Addr} {c ca cr:Nat} {p q al xr:List Nat} {vq:Value} (hR:dK (p.length+1) p q=al) (hX:(X=A∧ca=c∧al=p)∨(X=Xr∧ca=cr∧al=xr∧q.length≤p.length))
  (hO:w'.ownsRow w.heap.size 3 1 (.slice Xr xr.length cr) xr.length (xr.map bn)) (hcr:xr.length≤cr) (hless:al.length<q.length) (hb:Below w.heap.size w w'):
  sI w A c p q (.returned (.tuple #[vq,.slice X al.length ca])) w':=by
 unfold sI
 rw [hR]
 refine ⟨⟨vq,X,ca,rfl,?_,?_⟩,hb⟩
 ·intro h
  rcases hX with ⟨h1,h2,_⟩|⟨_,_,_,h4⟩
  ·exact ⟨h1,h2⟩
  ·omega
 ·intro h
  rcases hX with ⟨_,_,h3⟩|⟨rfl,rfl,rfl,_⟩
  ·subst h3;omega
  ·exact ⟨hO,hcr⟩
theorem XT (A A2:Option Addr) (c c2:Nat) (p q:List Nat) (w:World) (h1:jT p) (h2:jT q) (t1:Tr p) (t2:Tr q) (h0:0<q.length) (hr:Rd w w.heap.size 1 A p.length (p.map bn)) (hr2:Rd w w.heap.size 1 A2 q.length (q.map bn)) (hp:p.length≤100000) (hq:q.length≤100000):
    Calls Tryz.prog 258 #[.slice A p.length c,.slice A2 q.length c2] w (sI w A c p q):=by
 refine (iG Tryz.func258 28) ?_
 refine (JP∘Jp 2∘Jr∘Jp 1∘Jq) fun a Z HM=>?_
 replace HM:=(HM.nil 3 1).nil 3 1
 refine Jb Z HM ((JG∘JQ∘JB) fun a Z HM=>?_)
 refine qc (fun mS aS wS=>∃(al:List Nat) (X:Option Addr) (ca:Nat) (Xr:Option Addr) (xr:List Nat) (cr:Nat) (ql:List Nat) (Aq:Option Addr) (cq:Nat),(jT al)∧(Tr al)∧(al.length≤p.length)∧(dK (al.length+1) al q=dK (p.length+1) p q)∧((X=A∧ca=c∧al=p)∨(X=Xr∧ca=cr∧al=xr∧q.length≤p.length))∧(jT ql)∧(ql.length≤p.length+1)∧(xr.length≤cr)∧mS=al.length∧Fr aS 28 [] [(6,.slice Aq ql.length cq),(5,vN),(4,vN),(0,.slice X al.length ca),(1,.slice A2 q.length c2)]∧Mem w wS [.row (.slice Aq ql.length cq) ql.length (ql.map bn) 3 1,.row (.slice Xr xr.length cr) xr.length (xr.map bn) 3 1]) (m:=p.length) ⟨p,A,c,none,[],0,[],none,0,h1,t1,Nat.le_refl _,rfl,.inl ⟨rfl,rfl,rfl⟩,(by intro x hx;cases hx),Nat.zero_le _,Nat.le_refl _,rfl,Z.sub kr,HM.pk [0,1]⟩ ?_
 clear Z HM;rintro mS a w_ ⟨al,X,ca,Xr,xr,cr,ql,Aq,cq,ha1,hat,hal,hdv,hX,hq1,kW,hcr,rfl,Z,HM⟩
 refine Jb Z HM ((JQ∘JP∘Jp 1∘Jl∘Jp 1∘Jl∘Jp 1∘dR∘Jj) (Ju (fun fP=>?_) fun fP=>?_))
 ·
  intro a Z HM
  have lM:=of_decide_eq_true fP
  have hless:=KC ha1 h2 hat t2 h0 om
  refine Jb Z HM ((JT∘aF∘JB∘JP∘Jp 1∘Jl∘Jp 1∘Jl∘Js∘Jp 1∘fJ∘Jr∘Jp 1∘JU l6 #[vI 1]) fun uJ g19=>(Jp 1∘JK (h:=by exact fun HM=>XQ _ _ _ _ ql [1] (al.length-q.length) _ hq1 FM (HM.rd (i:=1) rfl) (HM.aU (i:=0) (n:=1) (size:=1) rfl rfl) om (by simp only [List.length_singleton];omega))) fun eU c21 Az hc21=>(Jp 1∘dR∘Jj∘JR∘Jp 3∘JK (h:=by exact fun HM=>XQ _ _ _ _ al q (al.length-q.length) _ ha1 h2 (by rcases hX with ⟨rfl,rfl,rfl⟩|⟨rfl,rfl,rfl,_⟩<;>first|exact HM.old hr|exact HM.rd (i:=3) rfl) (HM.old hr2) om om)) fun zP zQ rM hc25=>(Jp 1∘dR∘Jq) fun a Z HM=>?_)
  exact ⟨_,hless,(gN al q (al.length-q.length)),zP,zQ,zP,(gN al q (al.length-q.length)),zQ,(gN ql [1] (al.length-q.length)),eU,c21,mR ha1 _,o7 _ _ _,by omega,XH h2 t2 h0 ha1 hat om hdv,.inr ⟨rfl,rfl,rfl,by omega⟩,mR hq1 _,by have:=q43 ql [1] (al.length-q.length);simp only [List.length_singleton] at this;omega,hc25,rfl,Z.sub kr,HM.pk [1,0]⟩
 intro a Z HM
 have lM:=of_decide_eq_false fP
 refine Jb Z HM ((JF∘JX∘JG∘JP∘Jp 4∘Jj∘JZ) fun a Z HM=>?_)
 have hR:dK (p.length+1) p q=al:=by rw [←hdv,XI om]
 exact jC rfl Z rfl rfl (q2n hR hX (HM.own (i:=1) rfl) hcr om HM.below)
def lZ (e:Ev) (vs:List Nat) (k:Nat):Ev:=e.base.fH ((upTo e.kind k).zip vs)
theorem q40 {e:Ev} (h:e.Ok) (i x:Nat) (hx:x<18446744073709551616):(e.dM i x).Ok:=by
 have hv:aM (Ev.rval x):=by unfold Ev.rval aM;split<;>omega
 unfold Ev.dM Ev.jf
 split
 ·exact {h with task:=hv}
 ·exact {h with group:=hv}
 ·exact ⟨h.seq,h.time,h.cpu,h.kind,h.task,h.group,hv,h.weight,h.ticks,h.mask,h.got⟩
 ·exact {h with weight:=hv}
 ·exact {h with ticks:=hv}
 ·exact {h with mask:=hx}
 ·exact {h with got:=hv}
theorem WW:∀(l:List (Nat×Nat)) (e:Ev),e.Ok→(∀p∈l,p.2<18446744073709551616)→(e.fH l).Ok
 |[],_,h,_=>h
 |p::l,e,h,hl=>WW l (e.dM p.1 p.2) (q40 h p.1 p.2 (hl p (by simp))) (fun q hq=>hl q (by simp [hq]))
theorem qus (e:Ev) (l:List (Nat×Nat)) (p:Nat×Nat):e.fH (l++[p])=(e.fH l).dM p.1 p.2:=by unfold Ev.fH;rw [List.foldl_append];rfl
theorem q2f (kd k:Nat):∃r,aj kd=upTo kd k++r∨7≤k:=by
 by_cases h:7≤k
 ·exact ⟨[],.inr h⟩
 ·refine ⟨((List.range 7).drop k).filter fun i=>(aj kd).contains i,.inl ?_⟩
  have h1:List.range 7=List.range k++(List.range 7).drop k:=by
   rw [←List.take_append_drop k (List.range 7)]
   congr 1
   ·rw [List.take_range];congr 1;omega
   ·rw [List.take_append_drop]
  conv=>lhs;rw [←WS kd,h1,List.filter_append]
  rfl
theorem qrc (kd k:Nat) (hk:k≤7):(upTo kd k).length≤(aj kd).length:=by
 obtain ⟨r,h|h⟩:=q2f kd k
 ·rw [h,List.length_append];omega
 ·rw [show k=7 by omega,Kt];omega
theorem q2g {l:List Nat} {a n:Nat} {vs:List Nat} (hl:l.length=n) (hn:n<vs.length):(l++[a]).zip vs=l.zip vs++[(a,vs[n])]:=by
 have h1:vs=vs.take n++vs.drop n:=(List.take_append_drop n vs).symm
 have h2:vs.drop n=vs[n]::vs.drop (n+1):=List.drop_eq_getElem_cons hn
 have h3:(vs.take n).length=n:=by rw [List.length_take];omega
 have h4:l.zip vs=l.zip (vs.take n):=by
  conv=>lhs;rw [h1,←List.append_nil l]
  rw [List.zip_append om];simp
 rw [h4]
 conv=>lhs;rw [h1]
 rw [List.zip_append om,h2]
 rfl
theorem Oq (e:Ev) (vs:List Nat):lZ e vs 7=e.eG vs:=by unfold lZ Ev.eG;rw [Kt]
theorem qut {e:Ev} {vs:List Nat} {k x:Nat} (h:(aj e.kind).contains k=true) (hx:vs[(upTo e.kind k).length]?=some x):(lZ e vs k).dM k x=lZ e vs (k+1):=by
 obtain ⟨hl,he⟩:=List.getElem?_eq_some_iff.1 hx
 unfold lZ
 rw [FB h,q2g rfl hl,qus,he]
theorem qyp {e:Ev} {vs:List Nat} {k:Nat} (h:(aj e.kind).contains k=false):lZ e vs (k+1)=lZ e vs k:=by unfold lZ;rw [Kr h]
theorem WX {kd k:Nat} (h:(aj kd).contains k=true):(upTo kd (k+1)).length=(upTo kd k).length+1:=by rw [FB h,List.length_append];rfl
theorem qyq {kd k:Nat} (h:(aj kd).contains k=true) (hk:k<7):(upTo kd k).length<(aj kd).length:=by
 have h1:=qrc kd (k+1) om
 rw [WX h] at h1
 omega
theorem qyr {e:Ev} (he:e.Ok) {vs:List Nat} (hv:∀x∈vs,x<18446744073709551616) (k:Nat):(lZ e vs k).Ok:=by
 have z:aM 0:=⟨by decide,by decide⟩
 have zm:(0:Nat)<18446744073709551616:=by decide
 refine WW _ _ ?_ (fun p hp=>hv _ (List.of_mem_zip hp).2)
 exact ⟨he.seq,he.time,he.cpu,he.kind,z,z,z,z,z,zm,z⟩
def Ev.kI (e:Ev) (vs:List Nat):Nat:=if e.kind=0∨10<e.kind then 60 else if vs.length≠(aj e.kind).length then 2 else if (e.eG vs).check≠0 then 61 else 0
def Ev.AA (e:Ev) (vs:List Nat):Ev:=if e.kI vs=0 then e.eG vs else Ev.zero
theorem WY (e:Ev) (vs:List Nat) (hv:∀x∈vs,x<18446744073709551616):e.kI vs=e.aD vs∧e.AA vs=e.aP vs:=by
 have h:e.kI vs=e.aD vs∧(e.kI vs=0→e.eG vs=e.made vs):=by
  unfold Ev.kI Ev.aD
  split
  ·exact ⟨rfl,fun h=>by omega⟩
  ·split
   ·exact ⟨rfl,fun h=>by omega⟩
   ·rename_i h1 h2
    rcases qur e vs om hv with h|⟨h3,h4⟩
    ·rw [h];exact ⟨rfl,fun _=>rfl⟩
    ·rw [if_pos h3,if_pos h4];exact ⟨rfl,fun h=>by omega⟩
 refine ⟨h.1,?_⟩
 unfold Ev.AA Ev.aP
 rw [←h.1]
 split
 ·exact h.2 ‹_›
 ·rfl
theorem q2h (k i:Nat) (hi:i<7) (hk:k<256) (w:World):Calls Tryz.prog 288 #[.int .u8 (k:Int),.int .i64 (i:Int)] w (iN w ((aj k).contains i)):=
 (Ko k i hi hk w).mono fun _ _ h=>⟨h.1,by rw [h.2];exact Below.refl _ _⟩
theorem qu2 (e:Ev) (he:e.Ok) (A:Option Addr) (n c:Nat) (vs:List Nat) (w:World) (hr:Rd w w.heap.size 1 A n (vs.map dB)) (hvs:∀x∈vs,x<18446744073709551616) (hn:vs.length=n):
    Calls Tryz.prog 309 #[.agg e.cells,.slice A n c] w (dI w (e.AA vs) (e.kI vs)):=by
 refine (iG Tryz.func309 53) ?_
 refine (JP∘JE) fun w2 g2=>(JA #[vI 0,vI 0,vB 0,vB 0,vI 0,vI 0,vI 0,vI 0,vI 0,vQ 0,vI 0]) fun w4 g4=>(Jp 1∘Jj∘JQ∘JP∘Jg 3 O1∘JL (h:=by exact fun HM=>Oj e.kind he.kind _)) ?_
 rintro HM _ mF ⟨⟨s,rfl,hs⟩,hbw⟩
 refine ⟨_,rfl,_,HM.call hbw,?_⟩
 refine (Jp 1∘Jo (.bool (!decide (1≤e.kind∧e.kind≤10))) (by rw [R6 hs])∘aY∘Jj) (Ju (fun fP=>?_) fun fP=>?_)
 ·
  intro a Z HM
  have hbad:e.kind=0∨10<e.kind:=by simp only [Bool.not_eq_true',decide_eq_false_iff_not] at fP;omega
  refine Jb Z HM ((JT∘JP∘Jy (v:= .agg Ev.zero.cells) (h:=by exact (Yl.build (vs:=[]) rfl kr kr))∘JV ⟨kr,kr⟩ aZ (h1:=by exact zf Ev.zero)) fun pJ=>(Jp 1∘aR∘Jj∘JZ) fun a Z HM=>?_)
  exact dP rfl Z (.cellS (i:=0) Z HM rfl rfl ⟨kr,kr⟩ rfl) (.tmp Z rfl) (⟨by rw [Ev.AA,Ev.kI,if_pos hbad];rfl,HM.below⟩)
 intro a Z HM
 have hgood:¬(e.kind=0∨10<e.kind):=by simp only [Bool.not_eq_false',decide_eq_true_eq] at fP;omega
 refine Jb Z HM ((JF∘aF∘JQ∘JP∘Jp 1∘Jl∘Jg 3 O1∘JL (h:=by exact fun HM=>WT e.kind he.kind _)) ?_)
 rintro HM _ qJ ⟨⟨v,ahw,rfl,ho⟩,hbw⟩
 obtain ⟨KO,c18,rfl,hc18⟩:=zw ho
 refine ⟨_,rfl,_,HM.aQ hbw ho,?_⟩
 refine (Jl∘Jp 1∘fJ∘Jj) (Ju (fun fG=>?_) fun fG=>?_)
 ·
  intro a Z HM
  have hlb:vs.length≠(aj e.kind).length:=by rw [bne_iff_ne] at fG;omega
  refine Jb Z HM ((JT∘JP∘Jy (v:= .agg Ev.zero.cells) (h:=by exact (Yl.build (vs:=[]) rfl kr kr))∘JV ⟨kr,kr⟩ dO (h1:=by exact zf Ev.zero)) fun zA=>(Jp 1∘aR∘Jj∘JZ∘JM (.f .n)) fun a Z HM=>?_)
  exact dP rfl Z (.cellS (i:=0) Z HM rfl rfl ⟨kr,kr⟩ rfl) (.tmp Z rfl) (⟨by rw [Ev.AA,Ev.kI,if_neg hgood,if_pos hlb];rfl,HM.below⟩)
 intro a Z HM
 have Di:n=(aj e.kind).length:=by rw [bne_eq_false_iff_eq] at fG;omega
 have F3:¬vs.length≠(aj e.kind).length:=by omega
 refine Jb Z HM ((JF∘aF∘JP∘Jg 0 O2∘Jg 1 O2∘Jg 2 O2∘Jg 3 O2∘Jy (v:= .agg e.base.cells) (h:=by exact (Yl.build (vs:=[(0,vI e.seq),(1,vI e.time),(2,vB e.cpu),(3,vB e.kind)]) rfl kr kr))∘JA #[vI 0,vI 0,vB 0,vB 0,vI 0,vI 0,vI 0,vI 0,vI 0,vQ 0,vI 0]) fun w6 g6=>(JV ⟨kr,kr⟩ aZ (h1:=by exact zf e.base)) fun F4=>(fJ∘Jr∘Jp 1∘Jj∘JQ∘JP∘Jp 1∘Jj∘JB∘JM (.t (.f .n))) fun a Z HM=>?_)
 refine qc (fun mS aS wS=>∃(k:Nat),(k≤7)∧mS=7-k∧Fr aS 53 [] [(8,vI k),(7,vI ((upTo e.kind k).length:Nat)),(6,vP g6 0),(20,.bool false),(12,.bool false),(5,vI 0),(4,vP g4 0),(2,vP g2 0),(1,.slice A n c)]∧Mem w wS [.blk g6 ((lZ e vs k).cells) 242,.blk g4 #[vI 0,vI 0,vB 0,vB 0,vI 0,vI 0,vI 0,vI 0,vI 0,vQ 0,vI 0] 242,.blk g2 e.cells 242]) (m:=7-0) ⟨0,by omega,rfl,Z.sub kr,HM.pk [0,1,2]⟩ ?_
 clear Z HM;rintro mS a w_ ⟨k,hk,rfl,Z,HM⟩
 refine Jb Z HM ((JQ∘JP∘Jp 2∘aR∘Jj) (Ju (fun nL=>?_) fun nL=>?_))
 ·
  intro a Z HM
  have C8:k<7:=by have:=of_decide_eq_true nL;omega
  refine Jb Z HM ((JT∘aF∘JQ∘JB∘JP∘Jg 3 O2∘Jp 1∘JL (h:=by exact fun HM=>q2h e.kind k C8 he.kind _)) ?_)
  rintro HM _ yX ⟨rfl,hbw⟩
  refine ⟨_,rfl,_,HM.call hbw,?_⟩
  refine (aY∘Jj) (Ju (fun p9=>?_) fun p9=>?_)
  ·
   intro a Z HM
   have hroom:(upTo e.kind k).length<n:=by have:=qyq p9 C8;omega
   obtain ⟨x,hx⟩:∃x,vs[(upTo e.kind k).length]?=some x:=⟨_,List.getElem?_eq_getElem om⟩
   refine Jb Z HM ((JT) fun a Z HM=>?_)
   refine wp_seq ?_
   refine Jb Z HM ((Vs .n [7]) fun yY=>(Vp [1,2,3]∘Vy 0 (v:= .agg ((lZ e vs k).cells)) (h:=by exact Yl.qg rfl rfl ⟨kr,kr⟩ rfl (fun _ h=>qb (h.blk (i:=0) rfl)))) ?_)
   repeat (first|clear Z|clear HM|clear HS)
   intro a Z HM HS
   obtain ⟨gA,oA,rfl,_⟩:=hr.qm (Nat.lt_of_le_of_lt (Nat.zero_le _) (show (upTo e.kind k).length<n from hroom)) de
   refine Vb Z HM HS ((Vy 4 (h:=by exact Yl.ix gA oA ((upTo e.kind k).length) 1 rfl rfl rfl (hroom))∘Vy 5 (v:=vQ x) (h:=by exact Yl.qn rfl rfl kr (fun _ h=>(h.old hr).uD (k:=((upTo e.kind k).length)) (lW (F:=dB) (k:=((upTo e.kind k).length)) (x:=x) (hx))))) fun a Z HM HS=>?_)
   refine s_on Z 6 rfl ?_
   refine iQ Z [.agg ((lZ e vs k).cells),vI k,vQ x] rfl rfl (quk (lZ e vs k) k x C8 (hvs x (List.mem_of_getElem? hx)) _) ?_
   rintro _ Cw ⟨rfl,hbw⟩
   refine ⟨_,rfl,?_⟩
   replace HM:=HM.call hbw
   clear Z;intro a Z
   refine aK (HM.pk [0,1,2]) (fun HS=>?_)
   refine s_on Z 7 rfl (bN Z HM 0 rfl rfl rfl rfl rfl ⟨kr,kr⟩ rfl rfl (zf ((lZ e vs k).dM k x)) fun Yc HM=>?_)
   refine fZ kr ?_
   refine qd kr ?_
   rw [qut p9 hx] at HM
   refine Jb Z HM ((JR∘Jp 2∘Jo (vI ((upTo e.kind (k+1)).length:Nat)) (by rw [IntWalk.i64_in _ (by have:=Om e.kind k om;omega),WX p9];simp)∘Jp 1∘aI∘Jj∘JR∘Jp 2∘Jo (vI (k+1:Nat)) (by rw [IntWalk.i64_in _ om];simp)∘Jp 1∘aY∘Jq) fun a Z HM=>?_)
   exact ⟨_,om,k+1,by omega,rfl,Z.sub kr,HM.pk [0,1,2]⟩
  intro a Z HM
  rw [←qyp p9] at HM
  have Z:=Z.sp 7 (vI (((upTo e.kind (k+1)).length:Nat):Int)) rfl (by rw [Kr p9])
  refine Jb Z HM ((JF∘aF∘JR∘Jp 2∘Jo (vI (k+1:Nat)) (by rw [IntWalk.i64_in _ om];simp)∘Jp 1∘aY∘Jq) fun a Z HM=>?_)
  exact ⟨_,om,k+1,by omega,rfl,Z.sub kr,HM.pk [0,1,2]⟩
 repeat (first|clear Z|clear HM)
 intro a Z HM
 obtain rfl:k=7:=by have:=of_decide_eq_false nL;omega
 refine Jb Z HM ((JF∘JX∘JG∘JQ∘JP∘Jy (v:= .agg ((lZ e vs 7).cells)) (h:=by exact Yl.qg rfl rfl ⟨kr,kr⟩ rfl (fun _ h=>qb (h.blk (i:=0) rfl)))∘JL (h:=by exact fun HM=>Ol (lZ e vs 7) (qyr he hvs 7) _)) ?_)
 rintro HM _ w49 ⟨rfl,hbw⟩
 refine ⟨_,rfl,_,HM.call hbw,?_⟩
 refine (Jp 1∘aY∘Jj) (Ju (fun fD=>?_) fun fD=>?_)
 ·
  intro a Z HM
  have hcb:(e.eG vs).check≠0:=by rw [bne_iff_ne,Oq] at fD;omega
  refine Jb Z HM ((JT∘JP∘Jy (v:= .agg Ev.zero.cells) (h:=by exact (Yl.build (vs:=[]) rfl kr kr))∘JV ⟨kr,kr⟩ dO (h1:=by exact zf Ev.zero)) fun Yd=>(Jp 1∘aR∘Jj∘JZ) fun a Z HM=>?_)
  exact dP rfl Z (.cellS (i:=1) Z HM rfl rfl ⟨kr,kr⟩ rfl) (.tmp Z rfl) (⟨by rw [Ev.AA,Ev.kI,if_neg hgood,if_neg F3,if_pos hcb];rfl,HM.below⟩)
 intro a Z HM
 have hcg:(e.eG vs).check=0:=by rw [bne_eq_false_iff_eq,Oq] at fD;omega
 have Pg:¬(e.eG vs).check≠0:=by omega
 refine Jb Z HM ((JF∘aF∘JP∘Jy (v:= .agg ((lZ e vs 7).cells)) (h:=by exact Yl.qg rfl rfl ⟨kr,kr⟩ rfl (fun _ h=>qb (h.blk (i:=0) rfl)))∘JV ⟨kr,kr⟩ dO (h1:=by exact zf (lZ e vs 7))) fun iM=>(Jp 1∘aR∘Jj∘JZ) fun a Z HM=>?_)
 exact dP rfl Z (.cellS (i:=1) Z HM rfl rfl ⟨kr,kr⟩ rfl) (.tmp Z rfl) (⟨by rw [Ev.AA,Ev.kI,if_neg hgood,if_neg F3,if_neg Pg,Oq];rfl,HM.below⟩)
theorem Ye (e:Ev) (he:e.Ok) (A:Option Addr) (n c:Nat) (vs:List Nat) (w:World) (hr:Rd w w.heap.size 1 A n (vs.map dB)) (hvs:∀x∈vs,x<18446744073709551616):
  Calls Tryz.prog 309 #[.agg e.cells,.slice A n c] w (dI w (e.aP vs) (e.aD vs)):=by
 rw [←(WY e vs hvs).1,←(WY e vs hvs).2]
 exact qu2 e he A n c vs w hr hvs (by simpa using hr.len)
def fq (xs:List Nat) (u:Nat) (q:List Nat×Nat×Nat):List Nat×Nat×Nat:=if q.2.2≠0 then ([],0,q.2.2) else (xs++q.1,u+q.2.1,0)
theorem quu {j:Nat} {l:List Nat} (h:(av l).2.2=0) (xs:List Nat) (u:Nat):fq xs u (aH (j+1) l)=fq (xs++[(av l).1]) (u+(av l).2.1) (aH j (l.drop (av l).2.1)):=by
 have e:aH (j+1) l=if (aH j (l.drop (av l).2.1)).2.2≠0 then ([],0,(aH j (l.drop (av l).2.1)).2.2) else ((av l).1::(aH j (l.drop (av l).2.1)).1,(av l).2.1+(aH j (l.drop (av l).2.1)).2.1,0):=by
  rw [aH,if_neg om]
 rw [e]
 by_cases h2:(aH j (l.drop (av l).2.1)).2.2=0
 ·rw [if_neg om];unfold fq;simp [h2];omega
 ·rw [if_pos h2];unfold fq;simp [h2]
theorem qyt {j:Nat} {l:List Nat} (h:(av l).2.2≠0) (xs:List Nat) (u:Nat):fq xs u (aH (j+1) l)=([],0,(av l).2.2):=by
 have e:aH (j+1) l=([],0,(av l).2.2):=by rw [aH,if_pos h]
 rw [e];unfold fq;simp [h]
theorem qyu (q:List Nat×Nat×Nat) (h:q.2.2≠0→q=([],0,q.2.2)):fq [] 0 q=q:=by
 unfold fq
 by_cases h2:q.2.2=0
 ·obtain ⟨a,b,c⟩:=q
  simp only at h2
  simp [h2]
 ·rw [if_pos h2];exact (h h2).symm
theorem qyv:∀(j:Nat) (l:List Nat),(aH j l).2.2≠0→aH j l=([],0,(aH j l).2.2)
 |0,_,h=>absurd rfl h
 | j + 1, l, h => by
  rw [aH] at h⊢
  split
  ·rfl
  ·split
   ·rfl
   ·rename_i h1 h2
    rw [if_neg h1,if_neg h2] at h
    exact absurd rfl h
structure sF (w:World) (q:Ev×Nat×Nat) (r:Ending) (w':World):Prop where
 ret:r= .returned (.tuple #[.agg q.1.cells,.int .i64 (q.2.1:Int),.int .i64 (q.2.2:Int)])
 below:Below w.heap.size w w'
def qc4 (l:List Ev):Nat→Option Ev
 |0=>none
 |k+1=>l[k]?
structure vK (w:World) (q:Int×Nat) (r:Ending) (w':World):Prop where
 ret:r= .returned (.tuple #[.int .i64 q.1,.int .i64 (q.2:Int)])
 below:Below w.heap.size w w'
theorem xI:EI Tryz.prog 78 242 (.agg Ev.zero.cells) 11 80:=⟨by kernel_rfl,by kernel_rfl,rfl,by omega⟩
def bU (b:Bs) (e:Ev) (k:Nat):List Nat:=[e.kind]++ak (e.seq-b.seq).toNat++ak (e.time-b.time).toNat++(e.vals.take k).flatMap ak
theorem WZ (b:Bs) (e:Ev):bU b e 0=[e.kind]++ak (e.seq-b.seq).toNat++ak (e.time-b.time).toNat:=by simp [bU]
theorem W9 {b:Bs} {e:Ev} {k x:Nat} (h:e.vals[k]?=some x):bU b e (k+1)=bU b e k++ak x:=by
 unfold bU
 rw [List.take_add_one,h]
 simp
theorem Ot (b:Bs) (e:Ev):bU b e e.vals.length=qq b e:=by
 unfold bU qq pz
 rw [List.take_length]
 simp
theorem qyw (b:Bs) (e:Ev) (k:Nat):(bU b e k).length≤61:=by
 unfold bU
 simp only [List.length_append,List.length_cons,List.length_nil]
 have h1:=qe (e.seq-b.seq).toNat
 have h2:=qe (e.time-b.time).toNat
 have h3:∀l:List Nat,(l.flatMap ak).length≤l.length*10:=by
  intro l
  induction l with
  |nil=>simp
  |cons x r ih=>rw [List.flatMap_cons,List.length_append,List.length_cons];have:=qe x;omega
 have h4:=h3 (e.vals.take k)
 have h5:=Mq e
 rw [List.length_take] at h4
 omega
theorem Xa {b:Bs} {cpu kd:Nat} {r:List Nat} (hb:b.right=true) (hu:(aj kd).length≠0):aG b cpu (kd::r)=j5 b cpu kd (aH (2+(aj kd).length) r):=by
 unfold aG
 rw [if_neg (by simp [hb]),if_neg (by simp),if_neg (by simpa using hu)]
 rfl
theorem qkp {b:Bs} {cpu kd:Nat} {r:List Nat} (hb:b.right=true) (hu:(aj kd).length=0):aG b cpu (kd::r)=(Ev.zero,0,60):=by
 unfold aG
 rw [if_neg (by simp [hb]),if_neg (by simp),if_pos (by simpa using hu)]
theorem qpb {b:Bs} {cpu kd u:Nat} {r xs:List Nat} {q:Nat×Nat×Nat} (hb:b.right=true) (hu:(aj kd).length≠0) (hj:aH (2+(aj kd).length) r=fq xs u (aH (2+(aj kd).length-xs.length) (r.drop u))) (hlt:xs.length<2+(aj kd).length) (hq:av (r.drop u)=q) (hq2:q.2.2≠0):aG b cpu (kd::r)=(Ev.zero,0,q.2.2):=by
 rw [Xa hb hu,hj,show 2+(aj kd).length-xs.length=(2+(aj kd).length-xs.length-1)+1 by omega,qyt (by rw [hq];exact hq2)]
 unfold j5
 rw [if_pos (by simpa [hq] using hq2),hq]
theorem q2i {kd u:Nat} {r xs:List Nat} {q:Nat×Nat×Nat} (hj:aH (2+(aj kd).length) r=fq xs u (aH (2+(aj kd).length-xs.length) (r.drop u))) (hlt:xs.length<2+(aj kd).length) (hq:av (r.drop u)=q) (hq2:q.2.2=0):
  aH (2+(aj kd).length) r=fq (xs++[q.1]) (u+q.2.1) (aH (2+(aj kd).length- (xs++[q.1]).length) (r.drop (u+q.2.1))):=by
 rw [hj,show 2+(aj kd).length-xs.length=(2+(aj kd).length-xs.length-1)+1 by omega,quu (by rw [hq];exact hq2),hq,List.drop_drop]
 congr 2
 simp;omega
theorem Ou {b:Bs} {cpu kd u x0 x1:Nat} {r vs:List Nat} (hb:b.right=true) (hu:(aj kd).length≠0) (hj:aH (2+(aj kd).length) r=fq (x0::x1::vs) u (aH (2+(aj kd).length- (x0::x1::vs).length) (r.drop u))) (hl:(x0::x1::vs).length=2+(aj kd).length):
  aG b cpu (kd::r)=j5 b cpu kd (x0::x1::vs,u,0):=by
 rw [Xa hb hu,hj,hl,Nat.sub_self]
 unfold fq aH
 simp
theorem quv {b:Bs} {cpu kd u x0 x1:Nat} {vs:List Nat} (hb:1≤b.seq∧0≤b.time) (h:281474976710656<x0∨281474976710656<x1):j5 b cpu kd (x0::x1::vs,u,0)=(Ev.zero,0,61):=by
 unfold j5
 rw [if_neg (by simp),if_pos (by simp;omega)]
theorem quw {b:Bs} {cpu kd u x0 x1:Nat} {vs:List Nat} (h:(b.ev cpu kd x0 x1).aD vs≠0):j5 b cpu kd (x0::x1::vs,u,0)=(Ev.zero,0,61):=by
 unfold j5
 rw [if_neg (by simp)]
 split
 ·rfl
 ·rw [if_pos (by simpa using h)]
theorem qrd {b:Bs} {cpu kd u x0 x1:Nat} {vs:List Nat} (h:(b.ev cpu kd x0 x1).aD vs=0):j5 b cpu kd (x0::x1::vs,u,0)=((b.ev cpu kd x0 x1).aP vs,1+u,0):=by
 have hm:((b.ev cpu kd x0 x1).made vs).check=0:=by
  unfold Ev.aD at h
  split at h
  ·cases h
  ·split at h
   ·cases h
   ·split at h
    ·cases h
    ·rename_i h3;exact Decidable.not_not.1 h3
 have hv:=nu hm
 have hk:=BX (b.ev cpu kd x0 x1) vs
 rw [hk.2.1,hk.2.2.1] at hv
 obtain ⟨_,_,_,h1,h2,h3,h4⟩:=hv
 have h5:b.seq+(x0:Int)≤281474976710656:=h2
 have h6:b.time+(x1:Int)≤281474976710656:=h4
 unfold j5 Ev.aP
 rw [if_neg (by simp),if_neg (by simp;omega),if_neg (by simpa using h),if_pos h]
 rfl
theorem q6s {b:Bs} {cpu kd x0 x1:Nat} (hb:1≤b.seq∧b.seq≤281474976710656∧0≤b.time∧b.time≤281474976710656) (hc:cpu<256) (hk:kd<256) (h:¬(281474976710656<x0∨281474976710656<x1)):(b.ev cpu kd x0 x1).Ok:=by
 have z:aM 0:=⟨by decide,by decide⟩
 have zm:(0:Nat)<18446744073709551616:=by decide
 exact ⟨⟨by show _≤b.seq+(x0:Int);omega,by show b.seq+(x0:Int)≤_;omega⟩,⟨by show _≤b.time+(x1:Int);omega,by show b.time+(x1:Int)≤_;omega⟩,hc,hk,z,z,z,z,z,zm,z⟩
theorem qyx {b:Bs} (h:b.right=true):1≤b.seq∧b.seq≤281474976710656∧0≤b.time∧b.time≤281474976710656:=by simpa [Bs.right] using h
theorem qyy {kd:Nat} (h:1≤kd∧kd≤10):(aj kd).length≠0:=by
 obtain rfl|rfl|rfl|rfl|rfl|rfl|rfl|rfl|rfl|rfl:kd=1∨kd=2∨kd=3∨kd=4∨kd=5∨kd=6∨kd=7∨kd=8∨kd=9∨kd=10:=by omega
 all_goals decide
theorem qm5 {kd:Nat} (h:¬(1≤kd∧kd≤10)):(aj kd).length=0:=by
 unfold aj
 split<;>first|omega|rfl
theorem qux {l:List Ev} {k:Nat} {e:Ev} (hk:l[k]?=some e):bW (qc4 l k) k (l.drop k)=if e.check≠0 then ((k:Int),e.check) else if (qc4 l k).all (fun q=>e.after q)=false then ((k:Int),71) else bW (qc4 l (k+1)) (k+1) (l.drop (k+1)):=by
 obtain ⟨hl,he⟩:=List.getElem?_eq_some_iff.1 hk
 rw [List.drop_eq_getElem_cons hl,he,show qc4 l (k+1)=some e from hk]
 rfl
theorem Ov {w w':World} {b:Bs} {l:List Ev} {er:Nat} (h:qr b l=er) (he:er≠0) (hb:Below w.heap.size w w'):za w (qr b l) (zd b l) (.returned (.tuple #[.slice none 0 0,.int .i64 (er:Int)])) w':=by
 have ho:zd b l=[]:=by unfold zd;rw [if_neg om]
 rw [ho,h]
 exact ⟨⟨none,0,rfl,World.ownsRow_nil _ _ _ _,Nat.le_refl _⟩,hb⟩
theorem qpc {b:Bs} {l:List Ev} (h:(bL l).2≠0):qr b l=(bL l).2:=by unfold qr;rw [if_pos h]
theorem qm6 {b:Bs} {l:List Ev} (h:(bL l).2=0) (hb:¬b.right=true):qr b l=70:=by unfold qr;rw [if_neg om,if_neg (by simp [hb])]
theorem Xb:∀(l:List Ev) (b:Bs) (e:Ev),recs b (l++[e])=recs b l++qq (match l.getLast? with|some q=>q.at|none=>b) e
 |[],b,e=>by simp [recs]
 |x::l,b,e=>by
  rw [List.cons_append,recs,recs,Xb l x.at e,List.append_assoc]
  congr 2
  cases l with
  |nil=>rfl
  |cons y r=>simp only [List.getLast?_cons,Option.getD_some]
def zr (b:Bs) (l:List Ev) (k:Nat):List Nat:=recs b (l.take k)
theorem Xc:∀(l:List Ev) (b:Bs),(recs b l).length≤61*l.length
 |[],_=>by simp [recs]
 |e::l,b=>by
  rw [recs,List.length_append,List.length_cons]
  have h1:=Xc l e.at
  have h2:=Ms b e
  omega
theorem qre (b:Bs) (l:List Ev) (k:Nat):(zr b l k).length≤61*k:=by
 have h1:=Xc (l.take k) b
 have h2:(l.take k).length≤k:=by rw [List.length_take];omega
 unfold zr
 omega
theorem qyz (b:Bs) (e:Ev):(zz b e).length≤61:=by
 unfold zz
 split
 ·exact Ms b e
 ·simp
structure WriteAt (b:Bs) (l:List Ev) (k:Nat) (bk:Bs):Prop where
 base:bk=yU b l k
 head:0<k→l.head?.all b.behind=true
theorem WriteAt.start (b:Bs) (l:List Ev):WriteAt b l 0 b:=⟨rfl,fun h=>by omega⟩
section
variable {b bk:Bs} {l:List Ev} {k:Nat} {e:Ev}
theorem WriteAt.bad (h:WriteAt b l k bk) (hr:(bL l).2=0) (hb:b.right=true) (hk:l[k]?=some e) (hp:qs bk e≠0):k=0:=by
 rcases Nat.eq_zero_or_pos k with h0|h0
 ·exact h0
 ·obtain ⟨hl,he⟩:=List.getElem?_eq_some_iff.1 hk
  have:=Tv hr hb (h.head h0) k hl
  rw [he,←h.base] at this
  exact absurd this hp
theorem WriteAt.fail (h:WriteAt b l k bk) (hr:(bL l).2=0) (hb:b.right=true) (hk:l[k]?=some e) (h0:k=0) (hp:qs bk e≠0):qr b l=qs bk e:=by
 subst h0
 have hbk:bk=b:=h.base
 subst hbk
 obtain ⟨g1,_,_⟩:=Mr l none 0 hr
 have hc:=g1 e (List.mem_of_getElem? hk)
 have Xd:¬bk.behind e=true:=by
  intro h1
  unfold qs at hp
  rw [if_neg (by simp [hc]),if_pos ⟨hb,h1⟩] at hp
  exact hp rfl
 have hh:l.head?=some e:=by rw [List.head?_eq_getElem?];exact hk
 unfold qr qs
 rw [if_neg om,if_neg (by simp [hh,Xd]),if_neg (by simp [hc]),if_neg (by simp [Xd])]
theorem WriteAt.up (h:WriteAt b l k bk) (hk:l[k]?=some e) (hp:qs bk e=0):zr b l (k+1)=zr b l k++zz bk e:=by
 obtain ⟨hl,he⟩:=List.getElem?_eq_some_iff.1 hk
 unfold zr zz
 rw [List.take_add_one,hk,if_pos hp,h.base]
 show recs b (l.take k++[e])=_
 rw [Xb]
 congr 2
 cases k with
 |zero=>simp [yU]
 |succ j=>
  rw [show (l.take (j+1)).getLast?=l[j]? from by rw [List.getLast?_take];simp [List.getElem?_eq_getElem (show j<l.length by omega)]]
  rfl
theorem WriteAt.next (h:WriteAt b l k bk) (hk:l[k]?=some e) (hp:qs bk e=0):WriteAt b l (k+1) e.at:=by
 refine ⟨by show e.at=(match l[k]? with|some e=>e.at|none=>b);rw [hk],fun _=>?_⟩
 rcases Nat.eq_zero_or_pos k with h0|h0
 ·subst h0
  have hbk:bk=b:=h.base
  subst hbk
  have hh:l.head?=some e:=by rw [List.head?_eq_getElem?];exact hk
  rw [hh]
  unfold qs at hp
  split at hp
  ·omega
  ·split at hp
   ·rename_i h1;exact h1.2
   ·omega
 ·exact h.head h0
theorem WriteAt.done {w w':World} {n c:Nat} {A:Option Addr} (h:WriteAt b l n bk) (hr:(bL l).2=0) (hb:b.right=true) (hln:l.length=n) (ho:w'.ownsRow w.heap.size 5 1 (.slice A (zr b l n).length c) (zr b l n).length ((zr b l n).map B8)) (hc:(zr b l n).length≤c) (hw:Below w.heap.size w w'):
  za w (qr b l) (zd b l) (.returned (.tuple #[.slice A (zr b l n).length c,.int .i64 0])) w':=by
 have hh:l.head?.all b.behind=true:=by
  rcases Nat.eq_zero_or_pos n with h0|h0
  ·subst h0;rw [List.length_eq_zero_iff.1 hln];rfl
  ·exact h.head h0
 have he:qr b l=0:=by unfold qr;rw [if_neg om,if_pos ⟨hb,hh⟩]
 have hout:zd b l=zr b l n:=by unfold zd zr;rw [if_pos he,←hln,List.take_length]
 rw [he,hout]
 exact ⟨⟨A,c,rfl,ho,hc⟩,hw⟩
end
def sG (T:TypeId) (w:World) (q:List Ev×Nat×Nat) (r:Ending) (w':World):Prop:=
 (∃A c,r= .returned (.tuple #[.slice A q.1.length c,.int .i64 (q.2.1:Int),.int .i64 (q.2.2:Int)])∧w'.ownsRow w.heap.size T 11 (.slice A q.1.length c) q.1.length (q.1.flatMap aN)∧q.1.length≤c)∧Below w.heap.size w w'
theorem Ku {T:TypeId} {w w':World} {q:List Ev×Nat×Nat} {er:Nat} (h:q=([],0,er)) (hb:Below w.heap.size w w'):sG T w q (.returned (.tuple #[.slice none 0 0,.int .i64 0,.int .i64 (er:Int)])) w':=by
 subst h
 exact ⟨⟨none,0,rfl,World.ownsRow_nil _ _ _ _,Nat.le_refl _⟩,hb⟩
theorem qy0 {T:TypeId} {w w':World} {q:List Ev×Nat×Nat} {es:List Ev} {u c:Nat} {A:Option Addr} (h:q=(es,u,0)) (ho:w'.ownsRow w.heap.size T 11 (.slice A es.length c) es.length (es.flatMap aN)) (hc:es.length≤c) (hb:Below w.heap.size w w'):sG T w q (.returned (.tuple #[.slice A es.length c,.int .i64 (u:Int),.int .i64 0])) w':=by
 subst h
 exact ⟨⟨A,c,rfl,ho,hc⟩,hb⟩
structure dH (b:Bs) (cpu:Nat) (m:Nat) (l:List Nat) (es:List Ev) (u:Nat) (bk:Bs):Prop where
 fits:u≤l.length
 most:es.length≤u
 few:es.length≤m
 last:∀q,es.getLast?=some q→bk=q.at
 said:qj cpu m b none l=dL es u (qj cpu (m-es.length) bk es.getLast? (l.drop u))
section
variable {b bk:Bs} {cpu m u L er:Nat} {l:List Nat} {es:List Ev} {e:Ev}
theorem dH.start (b:Bs) (cpu m:Nat) (l:List Nat):dH b cpu m l [] 0 b:=⟨Nat.zero_le _,Nat.le_refl _,Nat.zero_le _,fun q h=>by simp at h,(TB cpu m b none l).symm⟩
theorem dH.bad (h:dH b cpu m l es u bk) (hm:es.length<m) (hq:aG bk cpu (l.drop u)=(e,L,er)) (he:er≠0):qj cpu m b none l=([],0,er):=by
 rw [h.said,show m-es.length=(m-es.length-1)+1 by omega]
 exact Tx hq he es u
theorem dH.same (h:dH b cpu m l es u bk) (hm:es.length<m) (hq:aG bk cpu (l.drop u)=(e,L,0)) (he:es.getLast?.any (fun q=>decide (e.seq=q.seq))=true):qj cpu m b none l=([],0,71):=by
 rw [h.said,show m-es.length=(m-es.length-1)+1 by omega]
 exact Tz hq he es u
theorem dH.next (h:dH b cpu m l es u bk) (hm:es.length<m) (hq:aG bk cpu (l.drop u)=(e,L,0)) (he:es.getLast?.any (fun q=>decide (e.seq=q.seq))=false):dH b cpu m l (es++[e]) (u+L) e.at:=by
 have h1:=IE bk cpu (l.drop u)
 rw [hq,List.length_drop] at h1
 simp only at h1
 have h2:=h1.2 trivial
 have h3:=h.fits
 have h4:=h.most
 refine ⟨by omega,by simp;omega,by simp;omega,fun q hq=>?_,?_⟩
 ·simp at hq;rw [hq]
 ·rw [h.said,show m-es.length=(m-es.length-1)+1 by omega,TA hq he es u,List.drop_drop]
  simp [Nat.sub_sub]
theorem dH.done (h:dH b cpu m l es u bk) (hm:m≤es.length):qj cpu m b none l=(es,u,0):=by
 rw [h.said,show m-es.length=0 by omega]
 simp [qj,dL]
theorem Ow {n:Int} (h:¬n<0) (hb:b.right=true):bq b cpu n l=qj cpu n.toNat b none l:=by unfold bq;rw [if_neg h,if_neg (by simp [hb])]
end
def eO (k:Nat):Nat:=(8000024+k)*11400714819323198485%18446744073709551616/72057594037927936
def marks (k:Nat):List Nat:=(List.range k).map eO
theorem qvc (k:Nat):marks (k+1)=marks k++[eO k]:=by unfold marks;rw [List.range_succ,List.map_append];rfl
theorem q2s (k:Nat):eO k<256:=by unfold eO;omega
def q3z (w:World) (l:List Nat) (r:Ending) (w':World):Prop:=
 (∃A c,r= .returned (.slice A l.length c)∧w'.ownsRow w.heap.size 5 1 (.slice A (l.length+12) c) (l.length+12) ((l++marks 12).map B8)∧l.length+12≤c)∧Below w.heap.size w w'
theorem q2t (k:Nat) (hk:k≤1000):IntKind.u64.wrap ((8000024+k:Nat):Int)=((8000024+k:Nat):Int):=by rw [IntKind.wrap_u64];omega
theorem q2u (k:Nat):IntKind.u64.wrap (((8000024+k:Nat):Int)*11400714819323198485)=(((8000024+k)*11400714819323198485%18446744073709551616:Nat):Int):=by rw [IntKind.wrap_u64];omega
theorem q2v (x:Nat):Int.fdiv (x:Int) (2^ (min (56:Int).toNat (IntKind.u64).bits))=((x/72057594037927936:Nat):Int):=by
 rw [show (2:Int)^ (min (56:Int).toNat (IntKind.u64).bits)=72057594037927936 from by decide,Int.fdiv_eq_ediv_of_nonneg _ de]
 rfl
theorem q5e (k:Nat):IntKind.u8.wrap (((8000024+k)*11400714819323198485%18446744073709551616/72057594037927936:Nat):Int)=(eO k:Int):=by
 have:=q2s k
 unfold eO at*
 rw [IntKind.wrap_u8]
 omega
theorem Y7 {l:List Nat} {n k:Nat} (hl:l.length=n) (h:k<n+12):(k<n→∃x,l[k]?=some x∧(l++marks 12)[k]?=some x)∧(n≤k→(l++marks 12)[k]?=some (eO (k-n))):=by
 refine ⟨fun hk=>⟨l[k],List.getElem?_eq_getElem om,?_⟩,fun hk=>?_⟩
 ·rw [List.getElem?_append_left om];exact List.getElem?_eq_getElem om
 ·rw [List.getElem?_append_right om,hl]
  unfold marks
  rw [List.getElem?_map,List.getElem?_range om]
  rfl
theorem q2w (k:Nat) (hk:k≤1000) (w:World):Calls Tryz.prog 141 #[vI 1,vI k] w fun r w'=>r= .returned (vI ((8000024+k:Nat):Int))∧Below w.heap.size w w':=by
 refine (iG Tryz.func141 10) ?_
 exact (JP∘Jp 1∘Jr∘Jv 5 [(9,vI (IntKind.i64.wrap (8000024+(k:Int))))]∘Jo (vI (8000024+k:Nat)) (by rw [IntWalk.i64_in _ om];simp)∘Jp 1∘aR∘Jj∘JZ) iX
theorem Y8 (k:Nat) (hk:k≤1000) (w:World):Calls Tryz.prog 131 #[vI 1,vI k] w fun r w'=>r= .returned (vB (eO k:Int))∧Below w.heap.size w w':=by
 refine (iG Tryz.func131 12) ?_
 refine (JP∘Jp 1∘Jr∘Jp 2∘JL (h:=by exact fun HM=>q2w k hk _)) ?_
 rintro HM _ w7 ⟨rfl,hbw⟩
 refine ⟨_,rfl,_,HM.call hbw,?_⟩
 exact (Jv 1 [(8,vQ (IntKind.u64.wrap ((8000024+k:Nat):Int)))]∘Jo (vQ (8000024+k:Nat)) (by rw [q2t k hk])∘Jp 1∘Jo (vQ ((8000024+k)*11400714819323198485%18446744073709551616:Nat)) (by rw [q2u k])∘Jp 1∘Jo (vQ ((8000024+k)*11400714819323198485%18446744073709551616/72057594037927936:Nat)) (by rw [q2v])∘Jv 1 [(11,vB (IntKind.u8.wrap (((8000024+k)*11400714819323198485%18446744073709551616/72057594037927936:Nat):Int)))]∘Jo (vB (eO k)) (by rw [q5e k])∘Jp 1∘aI∘Jj∘JZ) iX
theorem q2x (A:Option Addr) (n c:Nat) (l:List Nat) (w:World) (hr:Rd w w.heap.size 1 A n (l.map B8)) (hn:n≤140737488351232) (hln:l.length=n):
    Calls Tryz.prog 70 #[.slice A n c] w (q3z w l):=by
 refine (dh Tryz.func70 25) ?_
 refine (JP∘Jp 1∘Jr∘Jp 1∘Jl∘Jp 1∘Jo (vI (n+12:Nat)) (by rw [IntWalk.i64_in _ om];simp)) fun a Z HM=>?_
 refine fo Z 3 rfl rfl ?_
 refine R7 Z HM (m:=(n+12)) rfl aB rfl rfl om om rfl de ?_
 clear Z HM;intro a w8 g8 Z HM
 refine Jb Z HM ((Jp 1∘dR∘Jr∘Jp 2) fun a Z HM=>?_)
 refine fo Z 2 rfl rfl ?_
 refine qme Z HM (i:=0) rfl aB rfl rfl rfl (news:=(l.map B8)) (HM.old hr) (zk _) om om rfl de ?_
 clear Z HM;intro a mF kU c11 Z HM lQ
 refine Jb Z HM ((Jp 1∘bT∘Jq) fun a Z HM=>?_)
 have tQ:0+n=n+0:=by omega
 replace HM:=HM.aV (i:=0) (ys:=(l++marks 0).map B8) rfl tQ (by simp [marks])
 rw [tQ] at lQ
 replace Z:=Z.sp 3 (.slice kU (n+0) c11) rfl (by rw [tQ])
 refine Jb Z HM ((JG∘JQ∘JP∘Jp 1∘Jj∘JB) fun a Z HM=>?_)
 refine qc (fun mS aS wS=>∃(k:Nat) (Ak:Option Addr) (ck:Nat),(k≤12)∧(n+k≤ck)∧mS=12-k∧Fr aS 25 [] [(4,vI k),(3,.slice Ak (n+k) ck),(2,vN),(0,.slice A n c)]∧Mem w wS [.row (.slice Ak (n+k) ck) (n+k) ((l++marks k).map B8) 5 1]) (m:=12-0) ⟨0,kU,c11,by omega,lQ,rfl,Z.sub kr,HM.pk [0]⟩ ?_
 clear Z HM;rintro mS a w_ ⟨k,Ak,ck,hk,hck,rfl,Z,HM⟩
 refine Jb Z HM ((JQ∘JP∘Jp 2∘aR∘Jj) (Ju (fun jV=>?_) fun jV=>?_))
 ·
  intro a Z HM
  have oz:k<12:=by have:=of_decide_eq_true jV;omega
  refine Jb Z HM ((JT∘aF∘JQ∘JB∘JR∘Jp 2∘JL (h:=by exact fun HM=>Y8 k om _)) ?_)
  rintro HM _ qJ ⟨rfl,hbw⟩
  refine ⟨_,rfl,_,HM.call hbw,?_⟩
  refine (JU aB #[vB (eO k)]) fun uJ g19=>(JD [B8 (eO k)] 1 (fun _ _=>dO) aB (hr:=by exact fun HM=>HM.aU (i:=0) (n:=1) (size:=1) rfl rfl) (h1:=by simp [Value.oneCell',dB,B8])) fun pK KW c20 BA=>(Jp 1∘fJ∘Jq) fun a Z HM=>?_
  have tT:n+k+1=n+(k+1):=by omega
  replace HM:=HM.aV (i:=1) (ys:=(l++marks (k+1)).map B8) rfl tT (by rw [qvc];simp)
  rw [tT] at BA
  replace Z:=Z.sp 3 (.slice KW (n+(k+1)) c20) rfl (by rw [tT])
  refine Jb Z HM ((JG∘JR∘Jp 2∘Jo (vI (k+1:Nat)) (by rw [IntWalk.i64_in _ om];simp)∘Jp 1∘aY∘Jq) fun a Z HM=>?_)
  exact ⟨_,om,k+1,KW,c20,by omega,BA,rfl,Z.sub kr,HM.pk [1]⟩
 repeat (first|clear Z|clear HM)
 intro a Z HM
 obtain rfl:k=12:=by have:=of_decide_eq_false jV;omega
 exact Jb Z HM ((JF∘JX∘JG∘JP∘Jp 2∘Jl∘Jy (h:=by exact Yl.q0 aB (j:=n) rfl rfl rfl om)∘Jp 1∘dR∘Jj∘JZ∘bB) fun HM=>by exact ⟨⟨Ak,ck,by rw [hln],by rw [hln];exact HM.own (i:=0) rfl,by omega⟩,HM.below⟩)
theorem Y9 (A A2:Option Addr) (n c c2:Nat) (l:List Nat) (w:World) (hr:Rd w w.heap.size 1 A (n+12) ((l++marks 12).map B8)) (hc:n+12≤c) (hr2:Rd w w.heap.size 1 A2 n (l.map B8)) (hn:n≤140737488351232) (hln:l.length=n):
    Calls Tryz.prog 75 #[.slice A n c,.slice A2 n c2] w (iN w true):=by
 refine (iG Tryz.func75 58) ?_
 refine (JP∘Jp 1∘Jj∘JQ∘JP∘Jp 1∘Jl∘Jp 1∘Jl∘Jp 1∘Jo (.bool false) (by simp)∘dR∘Jj∘JF∘aF∘JP∘Jp 2∘Jl∘Jp 1∘Jo (vI (n+12:Nat)) (by rw [IntWalk.i64_in _ om];simp)∘Jy (h:=by exact Yl.q0 aB (j:=(n+12)) rfl rfl rfl (hc))∘Jp 1∘fJ∘Jj∘JQ∘JP∘Jp 1∘Jj∘JB) fun a Z HM=>?_
 refine qc (fun mS aS wS=>∃(k:Nat),(k≤n+12)∧mS=n+12-k∧Fr aS 58 [] [(6,vI k),(5,.slice A (n+12) c),(11,.bool false),(4,.bool false),(0,.slice A n c),(1,.slice A2 n c2)]∧Mem w wS []) (m:=n+12-0) ⟨0,Nat.zero_le _,rfl,Z.sub kr,HM.pk []⟩ ?_
 clear Z HM;rintro mS a w_ ⟨k,hk,rfl,Z,HM⟩
 refine Jb Z HM ((JQ∘JP∘Jp 2∘Jl∘Jp 1∘bT∘Jj) (Ju (fun fG=>?_) fun fG=>?_))
 ·
  intro a Z HM
  have qE:k<n+12:=by have:=of_decide_eq_true fG;omega
  refine Jb Z HM ((JT∘aF∘JQ∘JB) fun a Z HM=>?_)
  refine qw (fun aS wS=>Fr aS 58 [] [(57,.bool false),(20,.bool true),(6,vI k),(5,.slice A (n+12) c),(11,.bool false),(4,.bool false),(0,.slice A n c),(1,.slice A2 n c2)]∧Mem w wS []) ?_ ?_
  ·
   refine Jb Z HM ((Vs .n []) fun IQ=>(Vp [0,1]∘Vl 2∘Vp [3,4]) fun a Z HM HS=>?_)
   rcases Z.tf 27 rfl with ⟨iE,Z⟩|⟨iE,Z⟩
   ·
    have kL:k<n:=by have:=of_decide_eq_true iE;omega
    obtain ⟨x,hx1,hx2⟩:=(Y7 hln qE).1 kL
    refine Vb Z HM HS ((Vp [5,6,9,10]) ?_)
    repeat (first|clear Z|clear HM|clear HS)
    intro a Z HM HS
    obtain ⟨gA,oA,rfl,_⟩:=hr.qm (Nat.lt_of_le_of_lt (Nat.zero_le _) (show k<(n+12) from qE)) de
    refine Vb Z HM HS ((Vy 7 (h:=by exact Yl.ix gA oA k 1 rfl rfl rfl (qE))∘Vy 8 (v:=vB x) (h:=by exact Yl.qn rfl rfl kr (fun _ h=>(h.old hr).uD (k:=k) (lW (F:=B8) (k:=k) (x:=x) (hx2))))) ?_)
    repeat (first|clear Z|clear HM|clear HS)
    intro a Z HM HS
    obtain ⟨rQ,rR,rfl,_⟩:=hr2.qm (Nat.lt_of_le_of_lt (Nat.zero_le _) (show k<n from kL)) de
    refine Vb Z HM HS ((Vy 11 (h:=by exact Yl.ix rQ rR k 1 rfl rfl rfl (kL))∘Vy 12 (v:=vB x) (h:=by exact Yl.qn rfl rfl kr (fun _ h=>(h.old hr2).uD (k:=k) (lW (F:=B8) (k:=k) (x:=x) (hx1))))∘Vq [13] [(36,.bool ((x:Int)==(x:Int)))]∘Vo (.bool true) (by simp)∘Vp [14,15,16,17,18]∘Vl 19∘Vq [20] [(43,.bool (decide ((k:Int)≥(n:Int))))]∘Vo (.bool false) (by rw [decide_eq_false om])∘Vq [21,22,23,24,25,26,27,28,29,30,31,32,33,34] [(57,.bool false)]∘Vd∘aI) fun a Z HM=>?_)
    exact ⟨Z.sub kr,HM.pk []⟩
   have kL:n≤k:=by have:=of_decide_eq_false iE;omega
   have hx3:=(Y7 hln qE).2 kL
   refine ap Z (fun _=>HS) [5,6,7,8,9,10,11,12,13,14,15,16,17,18] (bt 35 [19,20,21,22,23,24,25,26,27,28,29,30,31,32,33,34]) [(41,.slice A2 n c2),(40,vI k),(39,.bool false)] fun a Z=>?_
   refine ru Z HS 19 fun a Z=>?_
   refine ze Z (fun _=>HS) (i:=20) rfl rfl (d:=43) rfl de kr (fun _ _ _ h=>h) (v:= .bool (decide ((k:Int)≥(n:Int)))) (fun _=>Yl.pure kr) fun a Z=>?_
   replace Z:=Z.sp 43 (.bool true) rfl (by rw [decide_eq_true om])
   refine ap Z (fun _=>HS) [21,22,23,26,27] (bt 35 [24,25,28,29,30,31,32,33,34]) [(50,.slice A2 n c2),(49,vI k),(46,vI k),(45,.slice A (n+12) c),(44,.bool true)] fun a Z=>?_
   revert HM;revert a;repeat (first|clear Z|clear HM)
   intro a Z HM
   obtain ⟨gA,oA,rfl,_⟩:=hr.qm (Nat.lt_of_le_of_lt (Nat.zero_le _) (show k<(n+12) from qE)) de
   refine cB Z HS 24 rfl (v:=vP gA (oA+k*1)) (Yl.ix gA oA k 1 rfl rfl rfl (qE)) fun a Z=>?_
   refine cB Z HS 25 rfl (v:=vB (eO (k-n))) (Yl.qn rfl rfl kr (fun _ h=>(h.old hr).uD (k:=k) (lW (F:=B8) (k:=k) (x:=(eO (k-n))) (hx3)))) fun a Z=>?_
   refine ru Z HS 28 fun a Z=>?_
   refine ze Z (fun _=>HS) (i:=29) rfl rfl (d:=52) rfl de kr (fun _ _ _ h=>h) (v:=vI (IntKind.i64.wrap ((k:Int)- (n:Int)))) (fun _=>Yl.pure kr) fun a Z=>?_
   replace Z:=Z.sp 52 (vI (k-n:Nat)) rfl (by rw [IntWalk.i64_in _ om];congr 1;omega)
   refine s_on Z 30 rfl ?_
   refine iQ Z [vI 1,vI (k-n:Nat)] rfl rfl (Y8 (k-n) om _) ?_
   rintro _ MF ⟨rfl,hbw⟩
   refine ⟨_,rfl,?_⟩
   replace HM:=HM.call hbw
   clear Z;intro a Z
   refine aK (HM.pk []) (fun HS=>?_)
   refine ze Z (fun _=>HS) (i:=31) rfl rfl (d:=54) rfl de kr (fun _ _ _ h=>h) (v:= .bool (((eO (k-n)):Int)==(eO (k-n):Int))) (fun _=>Yl.pure kr) fun a Z=>?_
   replace Z:=Z.sp 54 (.bool true) rfl (by simp)
   refine ap Z (fun _=>HS) [32,33,34] (bt 35 []) [(57,.bool false)] fun a Z=>?_
   refine qd kr ?_
   exact ⟨Z.sub kr,HM.pk []⟩
  clear Z HM;rintro a w7 ⟨Z,HM⟩
  refine Jb Z HM ((JF∘aF∘JR∘Jp 2∘Jo (vI (k+1:Nat)) (by rw [IntWalk.i64_in _ om];simp)∘Jp 1∘aY∘Jq) fun a Z HM=>?_)
  exact ⟨_,om,k+1,by omega,rfl,Z.sub kr,HM.pk []⟩
 exact (JF∘JX∘JG∘JP∘Jp 1∘Jj∘JZ) iX
theorem Fw {cpu:Nat}:∀(l:List Ev) (p:Option Ev) (b:Bs),Chain cpu p b l→∀e∈l,e.cpu=cpu
 |[],_,_,_,e,he=>by cases he
 |x::r,p,b,h,e,he=>by
  obtain ⟨h1,h2,h3,h4⟩:=h
  rcases List.mem_cons.1 he with rfl|he
  ·exact h2
  ·exact Fw r (some x) x.at h4 e he
theorem ND {cpu:Nat}:∀(l:List Ev) (p:Option Ev) (b:Bs) (k:Nat),Chain cpu p b l→Chain cpu p b (l.take k)
 |[],_,_,k,_=>by rw [List.take_nil];trivial
 |_::_,_,_,0,_=>trivial
 |e::r,_,_,k+1,h=>⟨h.1,h.2.1,h.2.2.1,ND r (some e) e.at k h.2.2.2⟩
theorem Fx {b:Bk} (h:b.kind=2):b.fits=decide (1≤b.next∧b.next≤281474976710657∧b.cpu=0∧b.lost=0∧b.evs.length=0):=by
 unfold Bk.fits;rw [if_neg om,if_pos h];rfl
theorem CU {b:Bk} (h2:b.kind≠2) (h:b.kind≠1∨63<b.cpu∨b.lost<0∨281474976710656<b.lost∨b.next≠0∨(b.lost=0∧b.evs.length=0)):b.fits=false:=by
 unfold Bk.fits
 by_cases h1:b.kind=1
 ·rw [if_pos h1]
  unfold Bk.qc6
  rw [decide_eq_false_iff_not]
  rintro ⟨a1,a2,a3,a4,a5,a6⟩
  rcases h with h|h|h|h|h|⟨h,h'⟩
  ·exact h h1
  ·omega
  ·omega
  ·omega
  ·exact h a5
  ·rw [MX h',decide_eq_true_eq] at a6
   omega
 ·rw [if_neg h1,if_neg h2]
theorem VO {b:Bk} (hok:b.Ok) (h2:b.kind≠2) {k:Nat} (hk:k<b.evs.length) (h:(b.evs.getD k Ev.zero).cpu≠b.cpu):b.fits=false:=by
 rw [Bool.eq_false_iff]
 intro hf
 obtain ⟨h1,hE⟩:=xg hf h2
 obtain ⟨e,r,g⟩:=CB hok hE om
 exact h (Fw _ _ _ g.chain _ (q7 Ev.zero hk))
theorem Ka {b:Bk} (h1:b.kind=1) (h2:b.cpu≤63) (h3:0≤b.lost) (h4:b.lost≤281474976710656) (h5:b.next=0) (h6:¬(b.lost=0∧b.evs.length=0)) (hall:∀k,k<b.evs.length→(b.evs.getD k Ev.zero).cpu=b.cpu):
  b.fits=decide ((bL b.evs).2=0):=by
 have hh:b.zI=true:=by
  by_cases h:b.evs.length=0
  ·rw [MX h,decide_eq_true_eq];omega
  ·rw [UH h,decide_eq_true_eq];exact hall 0 om
 unfold Bk.fits
 rw [if_pos h1]
 unfold Bk.qc6
 rw [Bool.eq_iff_iff,decide_eq_true_eq,decide_eq_true_eq]
 exact ⟨fun h=>h.1,fun h=>⟨h,by omega,h3,h4,h5,hh⟩⟩
def Bk.upto (b:Bk) (n:Nat):Bk:=⟨b.kind,b.cpu,b.lost,b.next,b.evs.take n⟩
theorem q14 {b:Bk} {n:Nat} (h:n≤b.evs.length):(b.upto n).evs.length=n:=by show (b.evs.take n).length=n;rw [List.length_take];omega
theorem qx1 {b:Bk} (hk:b.kind=1) {n:Nat} (h1:0<n) (h2:n≤b.evs.length):12+(b.upto n).body.length=b.sz n+(ak n).length:=by
 have hb:(b.upto n).base=b.base:=by
  unfold Bk.base Bk.upto
  cases hl:b.evs with
  |nil=>simp
  |cons e r=>
   cases n with
   |zero=>omega
   |succ j=>rfl
 have hl2:=q14 h2
 unfold Bk.body Bk.sz
 rw [if_neg (by show ¬b.kind=2;omega),hb]
 simp only [hl2]
 rw [if_neg om]
 show 12+(ak b.cpu++ak b.lost.toNat++ak n++(ak b.base.seq.toNat++ak b.base.time.toNat++recs b.base (b.evs.take n))).length=_
 simp only [List.length_append]
 omega
theorem VP:∀(f x y:Nat),x≤y→(gq f x).length≤(gq f y).length
 |0,x,y,_=>by simp [gq]
 | f + 1, x, y, h => by
  rcases Nat.lt_or_ge x 128 with h1|h1
  ·rw [wH f x h1]
   rcases Nat.lt_or_ge y 128 with h2|h2
   ·rw [wH f y h2];simp
   ·rw [uN f y h2];simp
  ·rw [uN f x h1,uN f y om]
   have:=VP f (x/128) (y/128) (Nat.div_le_div_right h)
   simp only [List.length_cons]
   omega
theorem VQ {x y:Nat} (h:x≤y):(ak x).length≤(ak y).length:=by unfold ak;rw [List.length_map,List.length_map];exact VP 10 x y h
theorem q6o {b:Bk} {i j:Nat} (h:i≤j):b.sz i≤b.sz j:=by
 induction h with
 |refl=>exact Nat.le_refl _
 | @step j _ ih =>
  refine Nat.le_trans ih ?_
  rcases Nat.lt_or_ge j b.evs.length with h1|h1
  ·rw [VL h1];omega
  ·unfold Bk.sz
   rw [List.take_of_length_le h1,List.take_of_length_le (by omega:b.evs.length≤j+1)]
   omega
theorem q15 {b:Bk} {i j:Nat} (h:i≤j) (hj:b.big j=false):b.big i=false:=by
 unfold Bk.big at hj⊢
 rw [decide_eq_false_iff_not] at hj⊢
 have h1:=q6o (b:=b) h
 have h2:=VQ h
 omega
theorem qx3 {b:Bk} {n:Nat} (hn:n≤b.evs.length) (h1:0<n→b.big n=false) (h2:∀m,n<m→m≤b.evs.length→b.big m=true):b.oU=n:=by
 have hno:∀i,i<n→b.big (i+1)=false:=fun i hi=>q15 om (h1 om)
 rcases Nat.lt_or_ge n b.evs.length with h|h
 ·exact VN h hno (h2 _ om om)
 ·have:n=b.evs.length:=by omega
  subst this
  exact NC hno
theorem qi:SI Tryz.prog 80 5:=⟨by kernel_rfl,by kernel_rfl⟩
theorem Xe {b:Bk} (hk:b.kind=2):ak b.next.toNat=b.body:=by unfold Bk.body;rw [if_pos hk]
theorem Xf {b:Bk} (hk:b.kind≠2) (h:b.evs.length=0): [b.cpu,b.lost.toNat,b.evs.length].flatMap ak=b.body:=by
 unfold Bk.body
 rw [if_neg hk,if_pos h]
 simp
theorem Xg {b:Bk} (hk:b.kind≠2) (h:b.evs.length≠0): [b.cpu,b.lost.toNat,b.evs.length].flatMap ak++[(b.evs.getD 0 Ev.zero).seq.toNat,(b.evs.getD 0 Ev.zero).time.toNat].flatMap ak++recs b.base b.evs=b.body:=by
 unfold Bk.body
 rw [if_neg hk,if_neg h,EO]
 simp
theorem xJ (b:Bk):((#[Value.int .u8 (((b.body.length+12)%256:Nat):Int),.int .u8 (((b.body.length+12)/256%256:Nat):Int),.int .u8 (((b.body.length+12)/65536%256:Nat):Int),.int .u8 (((b.body.length+12)/16777216%256:Nat):Int),.int .u8 113,.int .u8 116,.int .u8 1,.int .u8 (b.kind:Int)]:Array Value).toList++b.body.map B8)=b.raw.map B8:=by
 unfold Bk.raw mD
 rw [Nat.add_comm 12]
 rfl
theorem FD {w w':World} {b:Bk} {A:Option Addr} {c:Nat} (h:b.err=0) (ho:w'.ownsRow w.heap.size 5 1 (.slice A (bI b.raw).length c) (bI b.raw).length ((bI b.raw).map B8)) (hc:(bI b.raw).length≤c) (hb:Below w.heap.size w w'):
  za w b.err b.out (.returned (.tuple #[.slice A (bI b.raw).length c,.int .i64 0])) w':=
 za.as (er:=0) (R:=bI b.raw) ⟨⟨A,c,rfl,ho,hc⟩,hb⟩ h.symm (Nk h).symm
def Xh (w:World) (A0:Option Addr) (l:List Nat) (q:List Nat×List Nat) (r:Ending) (w':World):Prop:=
 (∃A c X cX,r= .returned (.tuple #[.slice A q.1.length c,.slice X q.2.length cX])∧w'.ownsRow w.heap.size 41 1 (.slice A q.1.length c) q.1.length (q.1.map dB)∧q.1.length≤c∧(∀v:World,Rd v v.heap.size 1 A0 l.length (l.map B8)→Rd v v.heap.size 1 X q.2.length (q.2.map B8))∧q.2.length≤cX)∧Below w.heap.size w w'
theorem Xi {w w':World} {A0:Option Addr} {l:List Nat} {q:List Nat×List Nat} {xs rl:List Nat} {A X:Option Addr} {c cX:Nat} (h:q=(xs,rl)) (ho:w'.ownsRow w.heap.size 41 1 (.slice A xs.length c) xs.length (xs.map dB)) (hc:xs.length≤c) (hr:∀v:World,Rd v v.heap.size 1 A0 l.length (l.map B8)→Rd v v.heap.size 1 X rl.length (rl.map B8)) (hX:rl.length≤cX) (hb:Below w.heap.size w w'):
  Xh w A0 l q (.returned (.tuple #[.slice A xs.length c,.slice X rl.length cX])) w':=by
 subst h
 exact ⟨⟨A,c,X,cX,rfl,ho,hc,hr,hX⟩,hb⟩
theorem q41 {w:World} {B c:Nat} {X:Option Addr} {l:List Nat} (h:Rd w B 1 X l.length (l.map B8)) (hc:l.length≤c):Rd w B 1 (if c=(av l).2.1 then X else X.map (·.add ((av l).2.1*1))) (qa l).length ((qa l).map B8):=by
 have h1:=h.uF (i:=(av l).2.1) (j:=l.length) (uw l) (Nat.le_refl _) hc
 rw [List.take_length] at h1
 rw [zT]
 exact h1
theorem qy1 {m:Nat} {l xs rl:List Nat} (hj:ay m l=(xs++(ay (m-xs.length) rl).1,(ay (m-xs.length) rl).2)) (h:m≤xs.length):ay m l=(xs,rl):=by
 rw [hj,show m-xs.length=0 by omega]
 simp [ay]
theorem q2j {m:Nat} {l xs rl:List Nat} (hj:ay m l=(xs++(ay (m-xs.length) rl).1,(ay (m-xs.length) rl).2)) (h:xs.length<m) (hb:(av rl).2.2≠0):ay m l=(xs,rl):=by
 rw [hj,show m-xs.length=(m-xs.length-1)+1 by omega,ay,if_neg hb]
 simp
theorem qy2 {m:Nat} {l xs rl:List Nat} (hj:ay m l=(xs++(ay (m-xs.length) rl).1,(ay (m-xs.length) rl).2)) (h:xs.length<m) (hb:(av rl).2.2=0):
  ay m l=((xs++[(av rl).1])++(ay (m- (xs++[(av rl).1]).length) (qa rl)).1,(ay (m- (xs++[(av rl).1]).length) (qa rl)).2):=by
 rw [hj,show m-xs.length=(m- (xs++[(av rl).1]).length)+1 by rw [List.length_append,List.length_singleton];omega,ay,if_pos hb]
 simp
def FE (w:World) (b:Bk) (r:Ending) (w':World):Prop:=
 (∃A c,r= .returned (.agg (b.cells A c))∧w'.ownsRow w.heap.size 242 11 (.slice A b.evs.length c) b.evs.length (b.evs.flatMap aN)∧b.evs.length≤c)∧Below w.heap.size w w'
theorem Da {w w':World} {b:Bk} {k c:Nat} {lo nx:Int} (h:b=⟨k,c,lo,nx,[]⟩) (hb:Below w.heap.size w w'):FE w b (.returned (.agg #[.int .u8 (k:Int),.int .u8 (c:Int),.int .i64 lo,.int .i64 nx,.slice none 0 0])) w':=by
 subst h
 exact ⟨⟨none,0,rfl,World.ownsRow_nil _ _ _ _,Nat.le_refl _⟩,hb⟩
theorem q2k {w w':World} {b:Bk} {k c cA:Nat} {lo nx:Int} {es:List Ev} {A:Option Addr} (h:b=⟨k,c,lo,nx,es⟩) (ho:w'.ownsRow w.heap.size 242 11 (.slice A es.length cA) es.length (es.flatMap aN)) (hc:es.length≤cA) (hb:Below w.heap.size w w'):FE w b (.returned (.agg #[.int .u8 (k:Int),.int .u8 (c:Int),.int .i64 lo,.int .i64 nx,.slice A es.length cA])) w':=by
 subst h
 exact ⟨⟨A,cA,rfl,ho,hc⟩,hb⟩
def Ox (w:World) (q:Bk×Nat×Nat) (r:Ending) (w':World):Prop:=
 (∃A c,r= .returned (.tuple #[.agg (q.1.cells A c),.int .i64 (q.2.1:Int),.int .i64 (q.2.2:Int)])∧w'.ownsRow w.heap.size 242 11 (.slice A q.1.evs.length c) q.1.evs.length (q.1.evs.flatMap aN)∧q.1.evs.length≤c)∧Below w.heap.size w w'
theorem xK {w w':World} {q:Bk×Nat×Nat} {er:Nat} (h:q=(Bk.zero,0,er)) (hb:Below w.heap.size w w'):Ox w q (.returned (.tuple #[.agg #[.int .u8 0,.int .u8 0,.int .i64 0,.int .i64 0,.slice none 0 0],.int .i64 0,.int .i64 (er:Int)])) w':=by
 subst h
 exact ⟨⟨none,0,rfl,World.ownsRow_nil _ _ _ _,Nat.le_refl _⟩,hb⟩
theorem Xj {w w':World} {q:Bk×Nat×Nat} {b:Bk} {m c:Nat} {A:Option Addr} (h:q=(b,m,0)) (ho:w'.ownsRow w.heap.size 242 11 (.slice A b.evs.length c) b.evs.length (b.evs.flatMap aN)) (hc:b.evs.length≤c) (hb:Below w.heap.size w w'):Ox w q (.returned (.tuple #[.agg (b.cells A c),.int .i64 (m:Int),.int .i64 0])) w':=by
 subst h
 exact ⟨⟨A,c,rfl,ho,hc⟩,hb⟩
theorem Xk {q:Bk} {l:List Nat} (he:q.err=0):(!decide (q.raw=l))=decide (q.err≠0∨q.raw≠l):=by
 rw [Bool.eq_iff_iff,Bool.not_eq_true',decide_eq_false_iff_not,decide_eq_true_eq]
 exact ⟨.inr,fun h=>h.elim (fun h=>absurd he h) id⟩
theorem q2l {l:List Nat} (h:(aC l).2≠0):jR l=(Bk.zero,0,(aC l).2):=by unfold jR;rw [if_pos h]
theorem AB {l L:List Nat} {e:Nat} (h:(aC l).2=0) (hL:L=l.take (aC l).1) (hb:dW L=(none,e)):jR l=(Bk.zero,0,e):=by unfold jR;rw [if_neg om,←hL,hb]
theorem Xl {l L:List Nat} {b:Bk} {e:Nat} (h:(aC l).2=0) (hL:L=l.take (aC l).1) (hb:dW L=(some b,e)):jR l=(b,(aC l).1,0):=by unfold jR;rw [if_neg om,←hL,hb]
theorem Xm {k:Nat} {l:List Nat} {n:Int} (h:k=2) (hn:n=if (ay 1 l).1.length=1 then wrap64 ((ay 1 l).1.getD 0 0:Int) else 0):loose k l=⟨k,0,0,n,[]⟩:=by
 subst h;subst hn;unfold loose looseEnd;rw [if_pos rfl]
theorem qy3 {k:Nat} {l:List Nat} (h:k≠2) (hn:(ay 3 l).1.length<3):loose k l=⟨k,0,0,0,[]⟩:=by
 unfold loose Ae;rw [if_neg h,if_pos hn]
theorem Kv {k:Nat} {l:List Nat} {es:List Ev} (h:k≠2) (hn:¬(ay 3 l).1.length<3) (he:es=nT ((ay 3 l).1.getD 0 0%256) ((ay 3 l).1.getD 2 0) (ay 3 l).2):
  loose k l=⟨k,(ay 3 l).1.getD 0 0%256,wrap64 ((ay 3 l).1.getD 1 0:Int),0,es⟩:=by
 subst he;unfold loose Ae;rw [if_neg h,if_neg hn]
theorem Oy {cpu n:Nat} {l:List Nat} (h:¬(0<n∧n≤4096∧(ay 2 l).1.length=2)): []=nT cpu n l:=by unfold nT;rw [if_neg h]
theorem qm8 {cpu n:Nat} {l:List Nat} (h:0<n∧n≤4096∧(ay 2 l).1.length=2):(bq ⟨wrap64 ((ay 2 l).1.getD 0 0:Int),wrap64 ((ay 2 l).1.getD 1 0:Int)⟩ cpu n (ay 2 l).2).1=nT cpu n l:=by unfold nT;rw [if_pos h]
theorem Xn (cpu:Nat):∀(n:Nat) (b:Bs) (p:Option Ev) (l:List Nat),(qj cpu n b p l).1.length≤n
 |0,_,_,_=>Nat.le_refl _
 | n + 1, b, p, l => by
  rw [qj]
  split
  ·exact Nat.zero_le _
  ·split
   ·exact Nat.zero_le _
   ·split
    ·exact Nat.zero_le _
    ·show (_::_).length≤_
     rw [List.length_cons]
     exact Nat.succ_le_succ (Xn cpu n _ _ _)
theorem qy4 (b:Bs) (cpu n:Nat) (l:List Nat):(bq b cpu (n:Int) l).1.length≤n:=by
 unfold bq
 split
 ·exact Nat.zero_le _
 ·split
  ·exact Nat.zero_le _
  ·exact Xn cpu _ _ _ _
theorem qc5:∀(m:Nat) (l:List Nat),(ay m l).2.length≤l.length
 |0,l=>Nat.le_refl _
 |m+1,l=>by
  rw [ay]
  split
  ·exact Nat.le_trans (qc5 m _) (zU l)
  ·exact Nat.le_refl _
def gT (l:List Nat) (k:Nat):List Nat:=(l.take k).flatMap ak
theorem Xo {l:List Nat} {k:Nat} (h:k<l.length):gT l (k+1)=gT l k++ak (l.getD k 0):=by
 unfold gT
 rw [←List.take_append_getElem (by omega:k<l.length),List.flatMap_append,List.getD_eq_getElem?_getD,List.getElem?_eq_getElem h]
 simp
theorem Xp (l:List Nat) (k:Nat):(gT l k).length≤10*k:=by
 unfold gT
 have h:=uO (l.take k)
 rw [List.length_take] at h
 omega
def fI {α:Type} (f:α→α) (l:List α) (k:Nat):List α:=(l.take k).map f++l.drop k
theorem qzl {α:Type} (f:α→α) (l:List α) (k:Nat):(fI f l k).length=l.length:=by
 unfold fI
 rw [List.length_append,List.length_map,List.length_take,List.length_drop]
 omega
theorem qu6 {α:Type} (f:α→α) (l:List α):fI f l 0=l:=by simp [fI]
theorem q2q {α:Type} (f:α→α) (l:List α) {k:Nat} (d:α) (h:k<l.length):(fI f l k)[k]?=some (l.getD k d):=by
 unfold fI
 rw [List.getElem?_append_right (by rw [List.length_map,List.length_take];omega),List.length_map,List.length_take,Nat.min_eq_left om,Nat.sub_self,List.getElem?_drop,List.getD_eq_getElem?_getD,Nat.add_zero,List.getElem?_eq_getElem h]
 rfl
theorem qu7 {α:Type} (f:α→α) (l:List α) {k:Nat} (d:α) (h:k<l.length):(fI f l k).set k (f (l.getD k d))=fI f l (k+1):=by
 unfold fI
 have hk:(l.take k).length=k:=by rw [List.length_take];omega
 have hd:l.drop k=l.getD k d::l.drop (k+1):=by
  rw [List.getD_eq_getElem?_getD,List.getElem?_eq_getElem h]
  exact List.drop_eq_getElem_cons h
 have ht:l.take (k+1)=l.take k++[l.getD k d]:=by
  rw [List.take_succ_eq_append_getElem h,List.getD_eq_getElem?_getD,List.getElem?_eq_getElem h]
  rfl
 rw [List.set_append,if_neg (by rw [List.length_map];omega),List.length_map,hk,Nat.sub_self,hd,List.set_cons_zero,ht,List.map_append,List.append_assoc]
 rfl
def xX (e:Ev):Ev:={e with seq:= -1}
theorem qu8 (e:Ev):aN (xX e)=(aN e).set 0 (.int .i64 (-1)):=rfl
theorem qrp {l:List Ev} {k:Nat} (h:k<l.length):(l.take (k+1)).flatMap aN=(l.take k).flatMap aN++aN (l.getD k Ev.zero):=by
 rw [List.take_succ_eq_append_getElem h,List.getD_eq_getElem?_getD,List.getElem?_eq_getElem h,List.flatMap_append]
 simp
def q6w (w:World) (b:Bk) (r:Ending) (w':World):Prop:=
 (∃A c,r= .returned (.agg (b.cells A c))∧w'.ownsRow w.heap.size 73 11 (.slice A b.evs.length c) b.evs.length (b.evs.flatMap aN)∧b.evs.length≤c)∧Below w.heap.size w w'
theorem Zb (b:Bk) (A:Option Addr) (c:Nat) (w:World) (hr:Rd w w.heap.size 11 A b.evs.length (b.evs.flatMap aN)) (hn:b.evs.length≤1000000):
    Calls Tryz.prog 79 #[.agg (b.cells A c)] w (FE w b):=by
 refine (dh Tryz.func79 30) ?_
 refine (JP∘JE) fun w1 g1=>(JA #[vB 0,vB 0,vI 0,vI 0,.slice none 0 0]) fun w2 g2=>(Jr∘Jg 0 O1∘Jg 1 O1∘Jg 2 O1∘Jg 3 O1∘Jy (v:= .agg #[vB b.kind,vB b.cpu,vI b.lost,vI b.next,.slice none 0 0]) (h:=by exact Yl.build (vs:=[(0,vB b.kind),(1,vB b.cpu),(2,vI b.lost),(3,vI b.next)]) rfl kr kr)∘JA #[vB 0,vB 0,vI 0,vI 0,.slice none 0 0]) fun w3 g3=>(JV qi aZ) fun Zc=>(fJ∘Jq) fun a Z HM=>?_
 replace HM:=HM.nil 242 11
 refine Jb Z HM ((JG∘JQ∘JP∘Jg 4 O3∘Jl∘Jp 1∘Jj∘JB) fun a Z HM=>?_)
 refine qc (fun mS aS wS=>∃(k:Nat) (Ak:Option Addr) (ck:Nat),(k≤b.evs.length)∧(k≤ck)∧mS=b.evs.length-k∧Fr aS 30 [] [(18,vI k),(17,vI b.evs.length),(16,.slice A b.evs.length c),(3,vP g3 0),(2,vP g2 0),(1,vP g1 0)]∧Mem w wS [.row (.slice Ak k ck) k ((b.evs.take k).flatMap aN) 242 11,.blk g3 #[vB b.kind,vB b.cpu,vI b.lost,vI b.next,.slice Ak k ck] 80,.blk g2 #[vB 0,vB 0,vI 0,vI 0,.slice none 0 0] 80,.blk g1 (b.cells A c) 85]) (m:=b.evs.length-0) ⟨0,none,0,Nat.zero_le _,Nat.le_refl _,rfl,Z.sub kr,HM.pk [0,1,2,3]⟩ ?_
 clear Z HM;rintro mS a w_ ⟨k,Ak,ck,hk,hck,rfl,Z,HM⟩
 refine Jb Z HM ((JP∘Jp 1∘Jj∘JQ) (Ju (fun fO=>?_) fun fO=>?_))
 ·
  intro a Z HM
  have lH:=of_decide_eq_true fO
  have vX:k<b.evs.length:=by omega
  refine Jb Z HM ((JT∘aF∘JQ∘JB∘JP) ?_)
  repeat (first|clear Z|clear HM)
  intro a Z HM
  obtain ⟨gA,oA,rfl,_⟩:=hr.qm (Nat.lt_of_le_of_lt (Nat.zero_le _) (show k<b.evs.length from by omega)) de
  refine Jb Z HM ((Jy (h:=by exact Yl.ix gA oA k 11 rfl rfl rfl)∘Jy (v:= .agg ((b.evs.getD k Ev.zero).cells)) (h:=by exact Yl.qg rfl rfl ⟨kr,kr⟩ rfl (fun _ h=>(h.old hr).q8 qv ((getD_at Ev.zero (k:=k) (by first|omega|(simp;omega))))))∘JA #[vI 0,vI 0,vB 0,vB 0,vI 0,vI 0,vI 0,vI 0,vI 0,vQ 0,vI 0]) fun w5 g5=>(JV ⟨kr,kr⟩ aZ (h1:=by exact zf (b.evs.getD k Ev.zero))) fun Al=>(aY∘Jj∘JR∘Jg 4 O2∘Jy (v:= .agg ((b.evs.getD k Ev.zero).cells)) (h:=by exact Yl.qg rfl rfl ⟨kr,kr⟩ rfl (fun _ h=>qb (h.blk (i:=0) rfl)))∘JU xI (b.evs.getD k Ev.zero).cells) fun rM Gp=>(JD (aN (b.evs.getD k Ev.zero)) 2 (fun _ _=>fF) xI (hr:=by exact fun HM=>HM.aU (i:=0) (n:=1) (size:=11) rfl rfl) (h1:=by exact zf _)) fun Dh Bt xZ vU=>fun a Z HM=>?_)
  rw [show ((b.evs.take k).flatMap aN)++(aN (b.evs.getD k Ev.zero))=(b.evs.take (k+1)).flatMap aN from by rw [qrp om]] at HM
  refine Jb Z HM ((Jf 4∘JW jm yL) fun ai9=>(Ee∘Jj∘JR∘cK 1∘Jp 1∘aR∘Jq) fun a Z HM=>?_)
  exact ⟨_,om,k+1,Bt,xZ,by omega,vU,rfl,Z.sub kr,HM.pk [2,3,4,5]⟩
 intro a Z HM
 have lH:=of_decide_eq_false fO
 have hkn:k=b.evs.length:=by omega
 refine Jb Z HM ((JF∘JX∘JG∘JP∘Jy (v:= .agg #[vB b.kind,vB b.cpu,vI b.lost,vI b.next,.slice Ak k ck]) (h:=by exact Yl.qg rfl rfl qi rfl (fun _ h=>qb (h.blk (i:=1) rfl)))∘JV qi fF) fun rF=>(kg∘Jj∘JZ) fun a Z HM=>?_)
 exact iy rfl Z (.cellS (i:=2) Z HM rfl rfl qi rfl) (⟨⟨Ak,ck,by rw [hkn];rfl,by have h:=HM.own (i:=0) rfl;rw [hkn,List.take_length] at h;exact h,by omega⟩,HM.below⟩)
theorem Xv (x:Nat) (w:World) (hx:x<18446744073709551616):Calls Tryz.prog 92 #[vQ x] w (zh w (ak x)):=
 (Kw x w hx).mono fun e w' ⟨v, h1, h2, h3⟩ => by
  obtain ⟨A,c,rfl,hc⟩:=zw h2
  exact ⟨⟨A,c,h1,h2,hc⟩,h3⟩
theorem Xw (A:Option Addr) (n c:Nat) (l:List Nat) (w:World) (hr:Rd w w.heap.size 1 A n (l.map dB)) (hln:l.length=n) (hl:∀x∈l,x<18446744073709551616) (hn:n≤1000000):
    Calls Tryz.prog 95 #[.slice A n c] w (zh w (l.flatMap ak)):=by
 refine (dh Tryz.func95 19) ?_
 refine (JP∘Jp 1∘Jr∘Jp 1∘Jq) fun a Z HM=>?_
 replace HM:=HM.nil 5 1
 refine Jb Z HM ((JG∘JQ∘JP∘Jp 1∘Jj∘JB) fun a Z HM=>?_)
 refine qc (fun mS aS wS=>∃(k:Nat) (Ak:Option Addr) (ck:Nat),(k≤n)∧((gT l k).length≤ck)∧mS=n-k∧Fr aS 19 [] [(4,vI k),(3,.slice Ak ((gT l k).length) ck),(2,vN),(0,.slice A n c)]∧Mem w wS [.row (.slice Ak ((gT l k).length) ck) ((gT l k).length) ((gT l k).map B8) 5 1]) (m:=n-0) ⟨0,none,0,Nat.zero_le _,Nat.le_refl _,rfl,Z.sub kr,HM.pk [0]⟩ ?_
 clear Z HM;rintro mS a w_ ⟨k,Ak,ck,hk,hck,rfl,Z,HM⟩
 refine Jb Z HM ((JQ∘JP∘Jp 2∘Jl∘Jp 1∘bT∘Jj) (Ju (fun jO=>?_) fun jO=>?_))
 ·
  intro a Z HM
  have pR:=of_decide_eq_true jO
  have hk8:k<n:=by omega
  refine Jb Z HM ((JT∘aF∘JQ∘JB∘JR∘Jp 3) ?_)
  repeat (first|clear Z|clear HM)
  intro a Z HM
  obtain ⟨gA,oA,rfl,_⟩:=hr.qm (Nat.lt_of_le_of_lt (Nat.zero_le _) (show k<n from by omega)) de
  refine Jb Z HM ((Jy (h:=by exact Yl.ix gA oA k 1 rfl rfl rfl)∘JH (getD_lt hl (k:=k) (by first|omega|(simp;omega)))) fun hx1=>(Jy (h:=by exact Yl.o1 hr k 0 (by first|omega|(simp;omega)) rfl rfl)∘JK (h:=by exact fun HM=>Xv (l.getD k 0) _ (hl _ (q7 0 om)))) fun xq c16 w16 hc16=>(JD ((ak (l.getD k 0)).map B8) 1 (fun _ _=>dO) aB (hr:=by exact fun HM=>HM.rd (i:=0) rfl) (h1:=by exact zk _) (hb:=by have:=Xp l k;have:=qe (l.getD k 0);omega) (h63:=by have:=Xp l k;have:=qe (l.getD k 0);omega)) fun EX Xx c17 hc17=>(Jp 1∘aI∘Jq) fun a Z HM=>?_)
  have sH:((gT l k).length)+(((ak (l.getD k 0))).length)=(gT l (k+1)).length:=by rw [Xo om];simp
  replace HM:=HM.aV (i:=1) (ys:=(gT l (k+1)).map B8) rfl sH (by rw [Xo om];simp)
  rw [sH] at hc17
  replace Z:=Z.sp 3 (.slice Xx ((gT l (k+1)).length) c17) rfl (by rw [sH])
  refine Jb Z HM ((JG∘JR∘Jp 1∘cK 1∘Jp 1∘aY∘Jq) fun a Z HM=>?_)
  exact ⟨_,om,k+1,Xx,c17,by omega,hc17,rfl,Z.sub kr,HM.pk [1]⟩
 intro a Z HM
 have pR:=of_decide_eq_false jO
 have hkn:k=n:=by omega
 have wK:gT l k=l.flatMap ak:=by unfold gT;rw [List.take_of_length_le om]
 exact Jb Z HM ((JF∘JX∘JG∘JP∘Jp 2∘aR∘Jj∘JZ∘bB) fun HM=>Tg (HM.own (i:=0) rfl) hck (by rw [wK]) wK HM.below)
theorem XU (A:Option Addr) (c y:Nat) (hy:y<256) (w:World) (hr:Rd w w.heap.size 1 A 1 ([y].map B8)):
    Calls Tryz.prog 259 #[.slice A 1 c] w (oZ w (bitsOf y)):=by
 refine (dh Tryz.func259 52) ?_
 refine (JP∘Jp 1∘Jr∘Jp 1∘Jl∘Jv 2 [(3,vI 8)]∘aY∘Jr∘Jv 2 [(10,vI 40)]) fun a Z HM=>?_
 refine fo Z 2 rfl rfl ?_
 refine D8 Z HM (m:=40) rfl l6 rfl rfl om om rfl de ?_
 clear Z HM;intro a mF g11 Z HM
 refine Jb Z HM ((Jp 1∘aY∘Jq) fun a Z HM=>?_)
 have gK:40=40:=rfl
 replace HM:=HM.aV (i:=0) (ys:=(mU y 0).map bn) rfl gK (by rw [qrj];kernel_rfl)
 replace Z:=Z.sp 4 (vS g11 40 40) rfl (by rw [gK])
 refine Jb Z HM ((JG∘JQ∘JP∘Jp 1∘Jj∘JB) fun a Z HM=>?_)
 refine qc (fun mS aS wS=>∃(k:Nat),(k≤8)∧mS=8-k∧Fr aS 52 [] [(5,vI k),(4,vS g11 40 40),(3,vI 8),(2,vN),(0,.slice A 1 c)]∧Mem w wS [.row (vS g11 40 40) 40 ((mU y k).map bn) 3 1]) (m:=8-0) ⟨0,by omega,rfl,Z.sub kr,HM.pk [0]⟩ ?_
 clear Z HM;rintro mS a w_ ⟨k,hk,rfl,Z,HM⟩
 refine Jb Z HM ((JQ∘JP∘Jp 3∘aY∘Jj) (Ju (fun jN=>?_) fun jN=>?_))
 ·
  intro a Z HM
  have gG:=of_decide_eq_true jN
  have hk8:k<8:=by omega
  refine Jb Z HM ((JT∘aF∘JQ∘JB∘JR∘Jv 6 [(22,vI (IntKind.i64.wrap (39- (k:Int)))),(17,vS g11 40 40)]∘Jo (vI (39-k:Nat)) (by exact zq om om)∘Jp 3∘Jo (vI (k/8:Nat)) (by exact qH .i64 8 (by show _≤9223372036854775807;omega))) ?_)
  repeat (first|clear Z|clear HM)
  intro a Z HM
  obtain ⟨gA,oA,rfl,_⟩:=hr.qm (Nat.lt_of_le_of_lt (Nat.zero_le _) (show k/8<1 from by omega)) de
  refine Jb Z HM ((Jy (h:=by exact Yl.ix gA oA (k/8) 1 rfl rfl rfl)∘Jy (v:=vB ([y].getD (k/8) 0)) (h:=by exact Yl.o1 hr (k/8) 0 (by first|omega|(simp;omega)) rfl rfl)∘Jo (vB y) (by rw [show k/8=0 by omega];try rfl)∘Jp 2∘Jo (vI (k%8:Nat)) (by exact nI .i64 _ 8)∘Jy (v:=vB (y/2^ (k%8):Nat)) (h:=by exact Yl.Fv (m:=y) (n:=(k%8)) rfl rfl rfl (by show _≤8;omega))∘Jp 1∘Jo (vB ((y/2^ (k%8))%2:Nat)) (by exact nI .u8 _ 2)∘Jw .i64∘Jy (h:=by exact Yl.j6 g11 (39-k) 1 rfl rfl rfl)) fun a Z HM=>?_)
  refine fo Z 17 rfl rfl ?_
  refine yH Z HM (i:=0) rfl rfl rfl rfl kr rfl rfl (by rw [List.length_map,xO];omega) fun XV HM=>?_
  replace HM:=HM.eY (i:=0) (ys:=(mU y (k+1)).map bn) rfl ((R8 bn (mU y k) (39-k) (y/2^ (k%8)%2) (by rw [xO];omega)).trans (by rw [show k%8=k by omega,qrk om]))
  refine Jb Z HM ((qI∘Jj∘JR∘Jp 1∘cK 1∘Jp 1∘aI∘Jq) fun a Z HM=>?_)
  exact ⟨_,om,k+1,by omega,rfl,Z.sub kr,HM.pk [0]⟩
 intro a Z HM
 have gG:=of_decide_eq_false jN
 revert HM;revert a;repeat (first|clear Z|clear HM)
 intro a Z HM
 obtain rfl:k=8:=by omega
 refine Jb Z HM ((JF∘JX∘JG∘JQ∘JB) fun a Z HM=>?_)
 refine qc (fun mS aS wS=>∃(j:Nat),(j≤40)∧(bC ((mU y 8).take j)=bC (mU y 8))∧mS=0+j∧Fr aS 52 [] [(14,.bool false),(5,vI 8),(4,vS g11 j 40),(3,vI 8),(2,vN),(0,.slice A 1 c)]∧Mem w wS [.row (vS g11 40 40) 40 ((mU y 8).map bn) 3 1]) (m:=0+40) ⟨40,by omega,by rw [List.take_of_length_le (by rw [xO];omega)],rfl,Z.sub kr,HM.pk [0]⟩ ?_
 clear Z HM;rintro mS a w_ ⟨j,hj,ht,rfl,Z,HM⟩
 have hbl:=xO y 8
 refine Jb Z HM ((JQ∘JP∘Jp 1∘Jl∘Jp 2) (Ju (fun nM=>?_) fun nM=>?_))
 ·
  intro a Z HM
  have zB:=of_decide_eq_true nM
  have hj0:0<j:=by omega
  refine Jb Z HM ((Jp 2∘Jl∘yO 1∘Jy (h:=by exact Yl.j6 g11 (j-1) 1 rfl rfl rfl)∘Jy (h:=by exact Yl.r1 0 (j-1) 0 (by first|omega|(simp;omega)) rfl rfl rfl)∘Jp 2∘aI∘Jj) (Je (fun r9=>?_) fun r9=>?_))
  ·
   refine (JT∘aF∘JB∘JR∘Jp 2∘Jl∘yO 1∘Jy (h:=by exact Yl.q0 l6 (j:=j-1) rfl rfl rfl om)∘Jp 1∘fJ∘Jq) fun a Z HM=>?_
   exact ⟨_,om,(j-1),by omega,Xy om om om ht,rfl,Z.sub kr,HM.pk [0]⟩
  refine (JF∘JX∘JG∘JP∘Jp 2∘aR∘Jj∘JZ) fun a Z HM=>?_
  have hjt:=Kz (l:=mU y 8) (k:=j) om (fun _=>by omega) ht
  have hjl:(bitsOf y).length=j:=by rw [←XO,hjt,List.length_take];omega
  have eP:=HM.lS (i:=0) (m:=(bitsOf y).length) (ys:=(bitsOf y).map bn) rfl om (by rw [Nat.mul_one,←List.map_take,hjl,←hjt];rfl)
  exact jB rfl Z rfl (⟨⟨some ⟨g11,0,none⟩,40,by rw [hjl],eP.own (i:=0) rfl,by omega⟩,HM.below⟩)
 intro a Z HM
 have zB:=of_decide_eq_false nM
 refine Jb Z HM ((Jv 8 [(45,.bool false)]∘dR∘Jj∘JF∘JX∘JG∘JP∘Jp 2∘aR∘Jj∘JZ) fun a Z HM=>?_)
 have hjt:=Kz (l:=mU y 8) (k:=j) om (fun _=>by omega) ht
 have hjl:(bitsOf y).length=j:=by rw [←XO,hjt,List.length_take];omega
 have eP:=HM.lS (i:=0) (m:=(bitsOf y).length) (ys:=(bitsOf y).map bn) rfl om (by rw [Nat.mul_one,←List.map_take,hjl,←hjt];rfl)
 exact jB rfl Z rfl (⟨⟨some ⟨g11,0,none⟩,40,by rw [hjl],eP.own (i:=0) rfl,by omega⟩,HM.below⟩)
theorem XW (w:World):Calls Tryz.prog 260 #[vQ 4374732215] w (oZ w lu):=qzc 4374732215 de w
theorem sM:0<lu.length:=by rw [AJ];decide
theorem qrl (A:Option Addr) (c:Nat) (w:World) (hr:Rd w w.heap.size 1 A 1 ([0].map B8)):
    Calls Tryz.prog 190 #[.slice A 1 c] w (Is w (vW (bS 0:Int))):=by
 refine (dh Tryz.func190 31) ?_
 refine (JP∘Jp 1∘Jr∘Jp 1∘JK (h:=by exact fun HM=>XU _ _ 0 om _ (HM.old hr))) fun A9 c9 w9 DU=>(JK (h:=by exact fun HM=>XW _)) fun OJ c10 rE vM=>(JL (h:=by exact fun HM=>XT _ _ _ _ (bitsOf 0) lu _ (KE _) (KD _) (KG _) (KF _) sM (HM.rd (i:=1) rfl) (HM.rd (i:=0) rfl) (by have:=OH 0;omega) (by rw [AJ];decide))) ?_
 rintro HM _ mF ⟨⟨vq,X,cX,rfl,hd1,hd2⟩,hbw⟩
 refine ⟨_,rfl,_,HM.call hbw,?_⟩
 refine (Jp 1∘Jx∘Jx∘Jp 2∘aI∘Jq) fun a Z HM=>?_
 have OL:=XJ 0
 have hl0:(d9 0).length=0:=by rw [qzb];rfl
 refine Jb Z HM ((JG∘JP∘Jp 1∘Jj∘JQ∘JP∘Jp 1∘Jj∘JB) fun a Z HM=>?_)
 replace HM:=HM.pk (fs':=[]) []
 refine qc (fun mS aS wS=>∃(k:Nat),(k≤(d9 0).length)∧mS=(d9 0).length-k∧Fr aS 31 [] [(6,vI k),(5,vW (iq (d9 0) k)),(4,.slice X ((d9 0).length) cX),(2,vW 0)]∧Mem w wS []) (m:=(d9 0).length-0) ⟨0,Nat.zero_le _,rfl,Z.sub kr,HM.pk []⟩ ?_
 clear Z HM;rintro mS a w_ ⟨k,hk,rfl,Z,HM⟩
 refine Jb Z HM ((JQ∘JP∘Jp 2∘Jl∘Jp 1∘bT∘Jj) (Ju (fun iF=>?_) fun iF=>?_))
 ·
  intro a Z HM
  have fK:=of_decide_eq_true iF
  omega
 intro a Z HM
 have fK:=of_decide_eq_false iF
 exact Jb Z HM ((JF∘JX∘JG∘JP∘Jp 2∘aR∘Jj∘JZ∘bB) fun HM=>by exact ⟨by rw [show k=(d9 0).length by omega,XM,XK,Tf 0 om],HM.below⟩)
theorem quz (A:Option Addr) (c y:Nat) (hy:y<256) (hy0:y≠0) (w:World) (hr:Rd w w.heap.size 1 A 1 ([y].map B8)):
    Calls Tryz.prog 190 #[.slice A 1 c] w (Is w (vW (bS y:Int))):=by
 refine (dh Tryz.func190 31) ?_
 refine (JP∘Jp 1∘Jr∘Jp 1∘JK (h:=by exact fun HM=>XU _ _ y om _ (HM.old hr))) fun A9 c9 w9 DU=>(JK (h:=by exact fun HM=>XW _)) fun OJ c10 rE vM=>(JL (h:=by exact fun HM=>XT _ _ _ _ (bitsOf y) lu _ (KE _) (KD _) (KG _) (KF _) sM (HM.rd (i:=1) rfl) (HM.rd (i:=0) rfl) (by have:=OH y;omega) (by rw [AJ];decide))) ?_
 rintro HM _ mF ⟨⟨vq,X,cX,rfl,hd1,hd2⟩,hbw⟩
 obtain ⟨ho,KI⟩:=hd2 (by rw [AJ];exact q2m y hy hy0)
 refine ⟨_,rfl,_,HM.aQ hbw ho,?_⟩
 refine (Jp 1∘Jx∘Jx∘Jp 2∘aI∘Jq) fun a Z HM=>?_
 have OL:=XJ y
 refine Jb Z HM ((JG∘JP∘Jp 1∘Jj∘JQ∘JP∘Jp 1∘Jj∘JB∘JM (.t (.f (.f .n)))) fun a Z HM=>?_)
 refine qc (fun mS aS wS=>∃(k:Nat),(k≤(d9 y).length)∧mS=(d9 y).length-k∧Fr aS 31 [] [(6,vI k),(5,vW (iq (d9 y) k)),(4,.slice X ((d9 y).length) cX),(2,vW 0)]∧Mem w wS [.row (.slice X ((d9 y).length) cX) ((d9 y).length) ((d9 y).map bn) 3 1]) (m:=(d9 y).length-0) ⟨0,Nat.zero_le _,rfl,Z.sub kr,HM.pk [0]⟩ ?_
 clear Z HM;rintro mS a w_ ⟨k,hk,rfl,Z,HM⟩
 refine Jb Z HM ((JQ∘JP∘Jp 2∘Jl∘Jp 1∘bT∘Jj) (Ju (fun iF=>?_) fun iF=>?_))
 ·
  intro a Z HM
  have fK:=of_decide_eq_true iF
  have hk31:k<32:=by omega
  refine Jb Z HM ((JT∘aF∘JQ∘JB∘JP∘Jp 2) ?_)
  repeat (first|clear Z|clear HM)
  intro a Z HM
  obtain ⟨gX,rfl⟩:=zb (HM.own (i:=0) rfl) (Nat.lt_of_le_of_lt (Nat.zero_le _) (show k<(d9 y).length from by omega))
  refine Jb Z HM ((Jy (h:=by exact Yl.j6 gX k 1 rfl rfl rfl)∘Jy (h:=by exact Yl.r1 0 k 0 (by first|omega|(simp;omega)) rfl rfl rfl)∘Jp 1∘dR∘Jj) (Ju (fun dZ=>?_) fun dZ=>?_))
  ·
   intro a Z HM
   have hd24:=eq_of_beq dZ
   have hrs:=q45 (d9 y) hk31
   refine Jb Z HM ((JT∘JR∘Jp 3∘Jo (vI (31-k:Nat)) (by exact zq om om)∘Jy (v:=vW (1*2^ (31-k):Nat)) (h:=by exact Yl.NA (m:=1) (n:=(31-k)) rfl rfl rfl (by show _≤32;omega) (FJ k))∘Jp 1∘Jo (vW (iq (d9 y) (k+1))) (by exact Ci (by rw [KH,if_pos om];omega) (by rw [KH,if_pos om];omega))∘Jp 1∘fJ∘Jj∘JR∘Jp 1∘cK 1∘Jp 1∘aY∘Jq) fun a Z HM=>?_)
   exact ⟨_,om,k+1,by omega,rfl,Z.sub kr,HM.pk [0]⟩
  intro a Z HM
  have hd24:=ne_of_beq_false dZ
  replace Z:=Z.sp 5 (vW (iq (d9 y) (k+1):Int)) rfl (by rw [KH,if_neg om,Nat.add_zero])
  refine Jb Z HM ((JF∘aF∘JR∘Jp 1∘cK 1∘Jp 1∘aY∘Jq) fun a Z HM=>?_)
  exact ⟨_,om,k+1,by omega,rfl,Z.sub kr,HM.pk [0]⟩
 intro a Z HM
 have fK:=of_decide_eq_false iF
 exact Jb Z HM ((JF∘JX∘JG∘JP∘Jp 2∘aR∘Jj∘JZ∘bB) fun HM=>by exact ⟨by rw [show k=(d9 y).length by omega,XM,XK,Tf y om],HM.below⟩)
theorem qu0 (A:Option Addr) (c y:Nat) (hy:y<256) (w:World) (hr:Rd w w.heap.size 1 A 1 ([y].map B8)):Calls Tryz.prog 190 #[.slice A 1 c] w (Is w (vW (bS y:Int))):=by
 by_cases h:y=0
 ·subst h;exact qrl A c w hr
 ·exact quz A c y hy h w hr
theorem qzd (c:Nat) (hc:c<4294967296) (A:Option Addr) (n cp:Nat) (l:List Nat) (w:World) (hr:Rd w w.heap.size 1 A n (l.map B8)) (hln:l.length=n) (hn:n≤1000000000) (hl:∀b∈l,b<256):
    Calls Tryz.prog 145 #[vW c,.slice A n cp] w (Is w (vW ((4294967295-qt (4294967295-c) l:Nat):Int))):=by
 refine (iG Tryz.func145 29) ?_
 refine (JP∘Jp 1∘Jr∘Jp 2∘Jo (vW (4294967295-c:Nat)) (by exact Ci om om)∘Jp 1∘aY∘Jj∘JQ∘JP∘Jp 1∘Jj∘JB) fun a Z HM=>?_
 refine qc (fun mS aS wS=>∃(k:Nat),(k≤n)∧mS=n-k∧Fr aS 29 [] [(5,vI k),(0,vW (qt (4294967295-c) (l.take k))),(4,vW 0),(1,.slice A n cp)]∧Mem w wS []) (m:=n-0) ⟨0,Nat.zero_le _,rfl,Z.sub kr,HM.pk []⟩ ?_
 clear Z HM;rintro mS a w_ ⟨k,hk,rfl,Z,HM⟩
 have hcr:=Er (l.take k) (c:=4294967295-c) om (zl hl k)
 refine Jb Z HM ((JQ∘JP∘Jp 2∘Jl∘Jp 1∘bT∘Jj) (Ju (fun gU=>?_) fun gU=>?_))
 ·
  intro a Z HM
  have jD:=of_decide_eq_true gU
  have nY:k<n:=by omega
  have hxk:=getD_lt hl (k:=k) om
  have hy8:(qt (4294967295-c) (l.take k)%256^^^l.getD k 0)<256:=Nat.xor_lt_two_pow (n:=8) om om
  refine Jb Z HM ((JT∘aF∘JQ∘JB∘JR∘Jp 2∘Jo (vW ((qt (4294967295-c) (l.take k))/256:Nat)) (by exact qH .u32 256 (by show _≤4294967295;omega))∘Jp 2∘Jo (vW ((qt (4294967295-c) (l.take k))%256:Nat)) (by exact nI .u32 _ 256)∘Jv 1 [(18,vB (IntKind.u8.wrap (((qt (4294967295-c) (l.take k))%256:Nat):Int)))]∘Jo (vB (qt (4294967295-c) (l.take k)%256:Nat)) (by exact (kR (qt (4294967295-c) (l.take k)%256)).trans (by rw [Nat.mod_mod]))∘Jp 2) ?_)
  repeat (first|clear Z|clear HM)
  intro a Z HM
  obtain ⟨gA,oA,rfl,_⟩:=hr.qm (Nat.lt_of_le_of_lt (Nat.zero_le _) (show k<n from by omega)) de
  refine Jb Z HM ((Jy (h:=by exact Yl.ix gA oA k 1 rfl rfl rfl)∘JH (getD_lt hl (k:=k) (by first|omega|(simp;omega)))) fun hx1=>(Jy (h:=by exact Yl.o1 hr k 0 (by first|omega|(simp;omega)) rfl rfl)∘Jp 1∘Jo (vB ((qt (4294967295-c) (l.take k)%256)^^^ (l.getD k 0):Nat)) (by exact q59 (m:=qt (4294967295-c) (l.take k)%256) (n:=(l.getD k 0)) om om)∘JU aB #[vB ((qt (4294967295-c) (l.take k)%256)^^^ (l.getD k 0):Nat)]) fun ES g24=>(JI (h:=by exact fun HM=>qu0 _ _ (qt (4294967295-c) (l.take k)%256^^^l.getD k 0) hy8 _ (HM.aU (i:=0) (n:=1) (size:=1) rfl rfl))) fun rM hbw=>(Jp 1∘Jo (vW (qt (4294967295-c) (l.take (k+1)))) (by have h:=Ea (m:=(qt (4294967295-c) (l.take k))/256) (n:=bS (qt (4294967295-c) (l.take k)%256^^^l.getD k 0)) om (Td om);rw [Ti om,qkm];exact h)∘Jp 1∘aI∘Jj∘JR∘Jp 1∘cK 1∘Jp 1∘aY∘Jq) fun a Z HM=>?_)
  exact ⟨_,om,k+1,by omega,rfl,Z.sub kr,HM.pk []⟩
 intro a Z HM
 have jD:=of_decide_eq_false gU
 exact Jb Z HM ((JF∘JX∘JG∘JP∘Jp 2∘Jo (vW (4294967295- (qt (4294967295-c) (l.take k)):Nat)) (by exact Ci om om)∘Jp 1∘aY∘Jj∘JZ∘bB) fun HM=>by exact ⟨by rw [List.take_of_length_le om],HM.below⟩)
theorem qze (A:Option Addr) (n cp:Nat) (l:List Nat) (w:World) (hr:Rd w w.heap.size 1 A n (l.map B8)) (hln:l.length=n) (hn:n≤1000000000) (hl:∀b∈l,b<256):
    Calls Tryz.prog 97 #[.slice A n cp] w (Is w (vW (qo l:Int))):=by
 refine (dh Tryz.func97 5) ?_
 exact (JP∘Jp 1∘Jr∘Jp 1∘JI (h:=by exact fun HM=>qzd 0 de _ _ _ l _ (HM.old hr) hln hn hl)) fun w4 hbw=>(Jp 1∘aY∘Jj∘JZ) iX
theorem XY (A:Option Addr) (n cp:Nat) (l:List Nat) (w:World) (hr:Rd w w.heap.size 1 A n (l.map B8)) (hln:l.length=n) (hn:n≤100000000) (hl:∀b∈l,b<256):
    Calls Tryz.prog 37 #[.slice A n cp] w (zh w (bI l)):=by
 refine (dh Tryz.func37 25) ?_
 refine (JP∘Jp 1∘Jr∘Jp 1∘JI (h:=by exact fun HM=>qze _ _ _ l _ (HM.old hr) hln om hl)) fun w5 hbw=>(Jp 1∘aY∘Jq) fun a Z HM=>?_
 have hcs:=Mk l
 refine Jb Z HM ((JG∘JP) fun a Z HM=>?_)
 refine fo Z 0 rfl rfl ?_
 refine Cc Z HM rfl aB rfl de ?_
 clear Z HM;intro a w6 g6 Z HM
 refine Jb Z HM ((Jp 1∘JD (l.map B8) 0 (fun _ _=>aZ) aB (hr:=by exact fun HM=>HM.old hr) (h1:=by exact zk _)) fun w8 A8 c8 hc8=>(Jp 2∘Jo (vW ((qo l)%256:Nat)) (by exact nI .u32 _ 256)∘Jv 1 [(11,vB (IntKind.u8.wrap (((qo l)%256:Nat):Int)))]∘Jo (vB (qo l%256:Nat)) (by exact (kR (qo l%256)).trans (by rw [Nat.mod_mod]))∘Jp 2∘Jo (vW ((qo l)/256:Nat)) (by exact qH .u32 256 (by show _≤4294967295;omega))∘Jp 1∘Jo (vW (((qo l)/256)%256:Nat)) (by exact nI .u32 _ 256)∘Jv 1 [(15,vB (IntKind.u8.wrap ((((qo l)/256)%256:Nat):Int)))]∘Jo (vB (qo l/256%256:Nat)) (by exact (kR (qo l/256%256)).trans (by rw [Nat.mod_mod]))∘Jp 2∘Jo (vW ((qo l)/65536:Nat)) (by exact qH .u32 65536 (by show _≤4294967295;omega))∘Jp 1∘Jo (vW (((qo l)/65536)%256:Nat)) (by exact nI .u32 _ 256)∘Jv 1 [(19,vB (IntKind.u8.wrap ((((qo l)/65536)%256:Nat):Int)))]∘Jo (vB (qo l/65536%256:Nat)) (by exact (kR (qo l/65536%256)).trans (by rw [Nat.mod_mod]))∘Jp 2∘Jo (vW ((qo l)/16777216:Nat)) (by exact qH .u32 16777216 (by show _≤4294967295;omega))∘Jv 1 [(22,vB (IntKind.u8.wrap (((qo l)/16777216:Nat):Int)))]∘Jo (vB (((qo l)/16777216)%256:Nat)) (by exact kR ((qo l)/16777216))∘JU aB #[vB (qo l%256:Nat),vB (qo l/256%256:Nat),vB (qo l/65536%256:Nat),vB (((qo l)/16777216)%256:Nat)]) fun Mx g23=>(JD ((mD (qo l)).map B8) 1 (fun _ _=>dO) aB (hr:=by exact fun HM=>HM.aU (i:=0) (n:=4) (size:=1) rfl rfl) (h1:=by exact zk _)) fun ES zO c24 hc24=>(Jp 1∘aI∘Jq) fun a Z HM=>?_)
 have sN:0+n+4=(bI l).length:=by rw [IC];omega
 replace HM:=HM.aV (i:=1) (ys:=(bI l).map B8) rfl sN (by simp [bI])
 rw [sN] at hc24
 replace Z:=Z.sp 2 (.slice zO ((bI l).length) c24) rfl (by rw [sN])
 exact Jb Z HM ((JG∘JZ∘JM (.f .n)∘bB) fun HM=>by exact ⟨⟨_,_,rfl,HM.own (i:=0) rfl,hc24⟩,HM.below⟩)
theorem qpp (A:Option Addr) (n cp:Nat) (l:List Nat) (w:World) (hr:Rd w w.heap.size 1 A n (l.map B8)) (hc:n≤cp) (hln:l.length=n) (hn:n≤100000000) (hl:∀b∈l,b<256):
    Calls Tryz.prog 138 #[.slice A n cp] w (Is w (.bool (mE l))):=by
 refine (dh Tryz.func138 16) ?_
 refine (JP∘Jp 1∘Jj∘JQ∘JP∘Jp 1∘Jl∘Jp 1∘aY∘Jj) (Ji (fun hd5=>?_) fun hd5=>?_)
 ·
  exact (JT∘JP∘Jp 1∘Jj∘JZ∘bB) fun HM=>by exact ⟨by rw [UK hln om],HM.below⟩
 refine (JF∘aF) fun a Z HM=>?_
 refine wp_seq ?_
 refine Jb Z HM ((Vs .n []) fun wd3=>(Vp [0,1,7]∘Vl 2∘Ei 3 4∘Vy 4 (h:=by exact Yl.q0 aB (j:=n-4) rfl rfl rfl om)∘Vy 8 (h:=by exact Yl.str rfl rfl (fun _ h=>h.old hr))∘VK 5 .n (h:=by exact fun HM=>XY _ (n-4) _ (l.take (n-4)) _ (HM.old (hr.mh om)) (by rw [List.length_take];omega) om (zl hl _))) fun kU c11 mF lQ=>fun a Z HM HS=>?_)
 refine s_on Z 6 rfl ?_
 refine Yl.wp (S:=fun wS=>Mem w wS _) (v:= .string (eT (bI (l.take (n-4))))) (Yl.str rfl rfl (fun _ h=>h.rd (i:=0) rfl)) Z HM rfl de fun a Z=>?_
 refine aK HS (fun HS=>?_)
 refine Vb Z HM HS ((Vp [9,10]∘Vd∘aI) fun a Z HM=>?_)
 replace HM:=HM.pk (fs':=[]) []
 exact Jb Z HM ((JZ∘bB) fun HM=>by exact ⟨by rw [Ml (Tp (zl hl _)) hl,quy hl hln],HM.below⟩)
theorem KL (b:Bs) (w:World):Calls Tryz.prog 176 #[.agg b.cells] w (iN w b.right):=by
 refine (dh Tryz.func176 21) ?_
 refine (JP∘JE) fun w1 g1=>(Jp 1∘Jr∘Jg 0 O0∘Jp 2) (Ju (fun hb6=>?_) fun hb6=>?_)
 ·
  refine (Jg 0 O0∘Jp 3) (Ju (fun gU=>?_) fun gU=>?_)
  ·
   refine (Jg 1 O0∘Jp 3) (Ju (fun dU=>?_) fun dU=>?_)
   ·
    exact (Jg 1 O0∘Jp 3∘aI∘Jj∘JZ∘bB) fun HM=>by exact ⟨congrArg (fun b=>Ending.returned (.bool b)) (by unfold Bs.right;rw [Bool.eq_iff_iff];(try simp at hb6);(try simp at gU);(try simp at dU);(try simp);(try omega)),HM.below⟩
   exact (Jp 5∘aI∘Jj∘JZ∘bB) fun HM=>by exact ⟨congrArg (fun b=>Ending.returned (.bool b)) (by unfold Bs.right;rw [Bool.eq_iff_iff];(try simp at hb6);(try simp at gU);(try simp at dU);(try simp);(try omega)),HM.below⟩
  exact (Jv 10 [(2,.bool false)]∘aI∘Jj∘JZ∘bB) fun HM=>by exact ⟨congrArg (fun b=>Ending.returned (.bool b)) (by unfold Bs.right;rw [Bool.eq_iff_iff];(try simp at hb6);(try simp at gU);(try simp);(try omega)),HM.below⟩
 exact (Jv 15 [(2,.bool false)]∘bT∘Jj∘JZ∘bB) fun HM=>by exact ⟨congrArg (fun b=>Ending.returned (.bool b)) (by unfold Bs.right;rw [Bool.eq_iff_iff];(try simp at hb6);(try simp);(try omega)),HM.below⟩
theorem XZ {x y:Int} (h:y≤x) (h2:x-y<9223372036854775808):IntKind.u64.wrap (IntKind.i64.wrap (x-y))=((x-y).toNat:Int):=by
 rw [IntWalk.i64_in _ om,IntKind.wrap_u64];omega
theorem X0 {b:Bs} {e:Ev} (h:e.check=0) (h2:b.right=true∧b.behind e=true):qs b e=0:=by unfold qs;rw [if_neg (by simp [h]),if_pos h2]
theorem OM {b:Bs} {e:Ev} (h:e.check=0) (h2:b.right=true∧b.behind e=true):zz b e=qq b e:=by unfold zz;rw [if_pos (X0 h h2)]
theorem Dc {b:Bs} {e:Ev} (h:qs b e≠0):zz b e=[]:=by unfold zz;rw [if_neg h]
theorem q46 {e:Ev} (he:e.Ok):∀x∈e.vals,x<18446744073709551616:=by
 intro x hx
 unfold Ev.vals at hx
 obtain ⟨i,_,rfl⟩:=List.mem_map.1 hx
 have h1:=he.task.2;have h2:=he.group.2;have h3:=he.to.2;have h4:=he.weight.2;have h5:=he.ticks.2;have h6:=he.mask;have h7:=he.got.2
 unfold Ev.bJ
 split<;>omega
theorem qzg (b:Bs) (e:Ev) (he:e.Ok) (w:World):Calls Tryz.prog 177 #[.agg b.cells,.agg e.cells] w (za w (qs b e) (zz b e)):=by
 refine (iG Tryz.func177 70) ?_
 refine (JP∘JE) fun w2 g2=>(JE) fun w3 g3=>(Jp 2∘Jr∘Jy (v:= .agg e.cells) (h:=by exact Yl.qg rfl rfl ⟨kr,kr⟩ rfl (fun _ h=>qb (h.blk (i:=0) rfl)))∘JL (h:=by exact fun HM=>qo6 e he _)) ?_
 rintro HM _ Cx ⟨⟨v,rfl,ho⟩,hbw⟩
 obtain ⟨FN,c12,rfl,FP⟩:=zw ho
 refine ⟨_,rfl,_,HM.aQ hbw ho,?_⟩
 refine (Jp 1∘Jx∘Jx∘Jp 2∘Jj∘JQ∘JP∘Jp 2∘aR∘Jj) (Ju (fun dU=>?_) fun dU=>?_)
 ·
  intro a Z HM
  have hbad:e.check≠0:=by rw [bne_iff_ne] at dU;omega
  exact Jb Z HM ((JT∘JP∘Jp 3∘Jj∘JZ∘bY) fun HM=>by exact ⟨⟨none,0,by rw [Dc (by rw [show qs b e=e.check from by unfold qs;rw [if_pos hbad]];exact hbad),show qs b e=e.check from by unfold qs;rw [if_pos hbad]];rfl,by rw [Dc (by rw [show qs b e=e.check from by unfold qs;rw [if_pos hbad]];exact hbad)];exact World.ownsRow_nil _ _ _ _,by rw [Dc (by rw [show qs b e=e.check from by unfold qs;rw [if_pos hbad]];exact hbad)];exact Nat.le_refl _⟩,HM.below⟩)
 intro a Z HM
 have hgood:e.check=0:=by rw [bne_eq_false_iff_eq] at dU;omega
 have hov:e.qx=e.vals:=by unfold Ev.qx;rw [if_pos hgood]
 obtain ⟨_,_,_,q1,q2,q3,q4⟩:=nu hgood
 have hvl:=Mq e
 rw [←hov] at hvl
 have OO:=q46 he
 refine Jb Z HM ((JF∘aF∘JQ) fun a Z HM=>?_)
 refine qw (fun aS wS=>Fr aS 70 [] [(34,.bool (!(b.right&&b.behind e))),(16,.bool false),(7,vI e.check),(6,.slice FN e.qx.length c12),(5,vI 0),(4,vN),(3,vP g3 0),(2,vP g2 0)]∧Mem w wS [.row (.slice FN e.qx.length c12) e.qx.length (e.qx.map dB) 41 1,.blk g3 e.cells 242,.blk g2 b.cells 249]) ?_ ?_
 ·
  refine wN ?_
  refine Jb Z HM ((Jy (v:= .agg b.cells) (h:=by exact Yl.qg rfl rfl ⟨kr,kr⟩ rfl (fun _ h=>qb (h.blk (i:=2) rfl)))∘JL (h:=by exact fun HM=>KL b _)) ?_)
  rintro HM _ uJ ⟨rfl,hbw⟩
  refine ⟨_,rfl,_,HM.call hbw,?_⟩
  refine (Jp 2) (Ju (fun dF=>?_) fun dF=>?_)
  ·
   refine (Jv 13 [(34,.bool true)]∘dR∘Jq) fun a Z HM=>?_
   have Z:=Z.sp 34 (.bool (!(b.right&&b.behind e))) rfl (congrArg Value.bool (by unfold Bs.behind;(try simp at dU);(try simp at dF);rw [Bool.eq_iff_iff];(try simp [dU,dF]);(try omega)))
   exact ⟨Z.sub kr,HM.pk [0,1,2]⟩
  refine (Jg 0 O1∘Jg 0 O2∘Jp 3) (Ju (fun fu=>?_) fun fu=>?_)
  ·
   refine (Jp 6∘aI∘Jq) fun a Z HM=>?_
   have Z:=Z.sp 34 (.bool (!(b.right&&b.behind e))) rfl (congrArg Value.bool (by unfold Bs.behind;(try simp at dU);(try simp at dF);(try simp at fu);rw [Bool.eq_iff_iff];(try simp [dU,dF,fu]);(try omega)))
   exact ⟨Z.sub kr,HM.pk [0,1,2]⟩
  refine (Jg 1 O1∘Jg 1 O2∘Jp 2∘aI∘Jq) fun a Z HM=>?_
  have Z:=Z.sp 34 (.bool (!(b.right&&b.behind e))) rfl (congrArg Value.bool (by unfold Bs.behind;(try simp at dU);(try simp at dF);(try simp at fu);rw [Bool.eq_iff_iff];(try simp [dU,dF,fu]);(try omega)))
  exact ⟨Z.sub kr,HM.pk [0,1,2]⟩
 clear Z HM;rintro a w4 ⟨Z,HM⟩
 refine Jb Z HM (Ju (fun iL=>?_) fun iL=>?_)
 ·
  intro a Z HM
  have hrb:¬(b.right=true∧b.behind e=true):=by intro h;rw [h.1,h.2] at iL;cases iL
  exact Jb Z HM ((JT∘JP∘Jp 2∘Jj∘JZ∘bY) fun HM=>by exact ⟨⟨none,0,by rw [Dc (by rw [show qs b e=70 from by unfold qs;rw [if_neg (by simp [hgood]),if_neg hrb]];decide),show qs b e=70 from by unfold qs;rw [if_neg (by simp [hgood]),if_neg hrb]];rfl,by rw [Dc (by rw [show qs b e=70 from by unfold qs;rw [if_neg (by simp [hgood]),if_neg hrb]];decide)];exact World.ownsRow_nil _ _ _ _,by rw [Dc (by rw [show qs b e=70 from by unfold qs;rw [if_neg (by simp [hgood]),if_neg hrb]];decide)];exact Nat.le_refl _⟩,HM.below⟩)
 intro a Z HM
 have hrb:b.right=true∧b.behind e=true:=by simpa using iL
 have hbr:=hrb.1
 have hbb:=hrb.2
 unfold Bs.right at hbr
 unfold Bs.behind at hbb
 simp only [decide_eq_true_eq] at hbr hbb
 refine Jb Z HM ((JF∘aF∘JP∘Jg 3 O1∘JU aB #[vB e.kind]) fun zR g37=>(Jp 1∘aY∘Jr∘Jp 1∘Jg 0 O2∘Jg 0 O3∘Jp 1∘Jv 1 [(44,vQ (IntKind.u64.wrap (IntKind.i64.wrap (e.seq-b.seq))))]∘Jo (vQ ((e.seq-b.seq).toNat)) (by rw [XZ om om])∘JL (h:=by exact fun HM=>Kw ((e.seq-b.seq).toNat) _ om)) ?_)
 rintro HM _ Cw ⟨v,rfl,ho,hbw⟩
 obtain ⟨A45,OP,rfl,FQ⟩:=zw ho
 have ahd:=qe ((e.seq-b.seq).toNat)
 refine ⟨_,rfl,_,HM.aQ hbw ho,?_⟩
 intro a Z HM
 refine fo Z 8 rfl rfl ?_
 replace HM:=HM.dz (i:=1) (n:=1) (size:=1) rfl rfl de
 refine qV Z HM (i:=1) rfl aB rfl rfl rfl (news:=((ak ((e.seq-b.seq).toNat)).map B8)) (HM.rd (i:=0) rfl) (zk _) om om rfl de ?_
 clear Z HM;intro a Eu nK c46 Z HM lD
 refine Jb Z HM ((Jp 1∘aI∘Jr∘Jp 1∘Jg 1 O3∘Jg 1 O4∘Jp 1∘Jv 1 [(53,vQ (IntKind.u64.wrap (IntKind.i64.wrap (e.time-b.time))))]∘Jo (vQ ((e.time-b.time).toNat)) (by rw [XZ om om])∘JL (h:=by exact fun HM=>Kw ((e.time-b.time).toNat) _ om)) ?_)
 rintro HM _ pY ⟨v,rfl,ho,hbw⟩
 obtain ⟨xR,uK,rfl,sO⟩:=zw ho
 have ahe:=qe ((e.time-b.time).toNat)
 refine ⟨_,rfl,_,HM.aQ hbw ho,?_⟩
 refine (JD ((ak ((e.time-b.time).toNat)).map B8) 2 (fun _ _=>fF) aB (hr:=by exact fun HM=>HM.rd (i:=0) rfl) (h1:=by exact zk _)) fun vL kJ kK fC=>(Jp 1∘aI∘Jq) fun a Z HM=>?_
 have FR:(1+((ak ((e.seq-b.seq).toNat)).length))+((ak ((e.time-b.time).toNat)).length)=(bU b e 0).length:=by rw [WZ];simp;try omega
 rw [FR] at HM fC
 rw [show (((#[vB e.kind]).toList)++((ak ((e.seq-b.seq).toNat)).map B8))++((ak ((e.time-b.time).toNat)).map B8)=(bU b e 0).map B8 from by simp [WZ,B8]] at HM
 replace Z:=Z.sp 8 (.slice kJ ((bU b e 0).length) kK) rfl (by rw [FR])
 refine Jb Z HM ((JG∘JQ∘JP∘Jp 1∘Jj∘JB∘JM (.f (.f .n))) fun a Z HM=>?_)
 refine qc (fun mS aS wS=>∃(k:Nat) (Ak:Option Addr) (ck:Nat),(k≤e.qx.length)∧((bU b e k).length≤ck)∧mS=e.qx.length-k∧Fr aS 70 [] [(9,vI k),(8,.slice Ak ((bU b e k).length) ck),(34,.bool false),(16,.bool false),(7,vI e.check),(6,.slice FN e.qx.length c12),(5,vI 0),(4,vN),(3,vP g3 0),(2,vP g2 0)]∧Mem w wS [.row (.slice Ak ((bU b e k).length) ck) ((bU b e k).length) ((bU b e k).map B8) 5 1,.row (.slice FN e.qx.length c12) e.qx.length (e.qx.map dB) 41 1,.blk g3 e.cells 242,.blk g2 b.cells 249]) (m:=e.qx.length-0) ⟨0,kJ,kK,Nat.zero_le _,fC,rfl,Z.sub kr,HM.pk [0,1,2,3]⟩ ?_
 clear Z HM;rintro mS a w_ ⟨k,Ak,ck,hk,hck,rfl,Z,HM⟩
 refine Jb Z HM ((JQ∘JP∘Jp 2∘Jl∘Jp 1∘bT∘Jj) (Ju (fun vO=>?_) fun vO=>?_))
 ·
  intro a Z HM
  have vR:k<e.qx.length:=by simp only [decide_eq_true_eq] at vO;omega
  obtain ⟨x,hx⟩:∃x,e.vals[k]?=some x:=⟨_,List.getElem?_eq_getElem (by rw [←hov];exact vR)⟩
  have hpl:=qyw b e k
  refine Jb Z HM ((JT∘aF∘JQ∘JB∘JR∘Jp 3) ?_)
  repeat (first|clear Z|clear HM)
  intro a Z HM
  obtain ⟨OQ,rfl⟩:=zb (HM.own (i:=1) rfl) (Nat.lt_of_le_of_lt (Nat.zero_le _) (show k<e.qx.length from vR))
  refine Jb Z HM ((Jy (h:=by exact Yl.j6 OQ k 1 rfl rfl rfl (vR))∘Jy (v:=vQ x) (h:=by exact Yl.qn rfl rfl kr (fun _ h=>h.Ch (i:=1) rfl (k:=k) (lW (F:=dB) (k:=k) (x:=x) (by rw [hov];exact hx))))∘JL (h:=by exact fun HM=>Kw x _ (OO _ (List.mem_of_getElem? hx)))) ?_)
  rintro HM _ w67 ⟨v,rfl,ho,hbw⟩
  obtain ⟨A67,c67,rfl,ahf⟩:=zw ho
  have ahg:=qe x
  refine ⟨_,rfl,_,HM.aQ hbw ho,?_⟩
  refine (JD ((ak x).map B8) 1 (fun _ _=>dO) aB (hr:=by exact fun HM=>HM.rd (i:=0) rfl) (h1:=by exact zk _)) fun OT AO AP AQ=>(Jp 1∘aI∘Jq) fun a Z HM=>?_
  have FT:((bU b e k).length)+((ak x).length)=(bU b e (k+1)).length:=by rw [W9 hx];simp
  rw [FT] at HM AQ
  rw [show ((bU b e k).map B8)++((ak x).map B8)=(bU b e (k+1)).map B8 from by rw [W9 hx,List.map_append]] at HM
  replace Z:=Z.sp 8 (.slice AO ((bU b e (k+1)).length) AP) rfl (by rw [FT])
  refine Jb Z HM ((JG∘JR∘Jp 2∘Jo (vI (k+1:Nat)) (by rw [IntWalk.i64_in _ om];simp)∘Jp 1∘aY∘Jq) fun a Z HM=>?_)
  exact ⟨_,om,k+1,AO,AP,vR,AQ,rfl,Z.sub kr,HM.pk [1,2,3,4]⟩
 repeat (first|clear Z|clear HM)
 intro a Z HM
 obtain rfl:k=e.vals.length:=by rw [hov] at vO hk;simp only [decide_eq_false_iff_not] at vO;omega
 exact Jb Z HM ((JF∘JX∘JG∘JP∘Jp 3∘Jj∘JZ∘bY) fun HM=>by exact ⟨⟨Ak,ck,by rw [OM hgood hrb,X0 hgood hrb,←Ot];rfl,by rw [OM hgood hrb,←Ot];exact HM.own (i:=0) rfl,by rw [OM hgood hrb,←Ot];exact hck⟩,HM.below⟩)
theorem KJ (A:Option Addr) (n c:Nat) (l:List Ev) (hok:∀e∈l,e.Ok) (w:World) (hr:Rd w w.heap.size 11 A n (l.flatMap aN)) (hn:n≤140737488355328) (hln:l.length=n):
    Calls Tryz.prog 175 #[.slice A n c] w (vK w (bL l)):=by
 refine (dh Tryz.func175 66) ?_
 refine (JP∘Jp 2∘Jj∘JQ∘JP∘Jp 1∘Jj∘JB) fun a Z HM=>?_
 refine qc (fun mS aS wS=>∃(k:Nat),(k≤n)∧(bL l=bW (qc4 l k) k (l.drop k))∧mS=n-k∧Fr aS 66 [] [(4,vI k),(3,vI 0),(2,vI 0),(0,.slice A n c)]∧Mem w wS []) (m:=n-0) ⟨0,Nat.zero_le _,rfl,rfl,Z.sub kr,HM.pk []⟩ ?_
 clear Z HM;rintro mS a w_ ⟨k,hk,hj,rfl,Z,HM⟩
 refine Jb Z HM ((JQ∘JP∘Jp 2∘Jl∘Jp 1∘bT∘Jj) (Ju (fun iT=>?_) fun iT=>?_))
 ·
  intro a Z HM
  have qM:k<n:=by simp at iT;omega
  obtain ⟨e,hke⟩:∃e,l[k]?=some e:=⟨_,List.getElem?_eq_getElem om⟩
  have hgo:=qux hke
  refine Jb Z HM ((JT∘aF∘JQ∘JB∘JQ∘JP∘Jp 2) ?_)
  repeat (first|clear Z|clear HM)
  intro a Z HM
  obtain ⟨gA,oA,rfl,_⟩:=hr.qm (Nat.lt_of_le_of_lt (Nat.zero_le _) (show k<n from qM)) de
  refine Jb Z HM ((Jy (h:=by exact Yl.ix gA oA k 11 rfl rfl rfl (qM))∘Jy (v:= .agg e.cells) (h:=by exact Yl.qg rfl rfl ⟨kr,kr⟩ rfl (fun _ h=>(h.old hr).q8 qv (hke)))∘JL (h:=by exact fun HM=>Ol e (hok e (List.mem_of_getElem? hke)) _)) ?_)
  rintro HM _ w16 ⟨rfl,hbw⟩
  refine ⟨_,rfl,_,HM.call hbw,?_⟩
  refine (Jp 1∘fJ∘Jr∘Jp 2∘aR∘Jj) (Ju (fun iC=>?_) fun iC=>?_)
  ·
   intro a Z HM
   have hcb:e.check≠0:=by rw [bne_iff_ne] at iC;omega
   rw [if_pos hcb] at hgo
   exact Jb Z HM ((JT∘JP∘Jp 4∘Jj∘JZ∘bY) fun HM=>by exact ⟨by rw [hj,hgo];(try rfl),HM.below⟩)
  intro a Z HM
  have hcg:¬e.check≠0:=by rw [bne_eq_false_iff_eq] at iC;omega
  rw [if_neg hcg] at hgo
  refine Jb Z HM ((JF∘aF) fun a Z HM=>?_)
  refine qw (fun aS wS=>Fr aS 66 [] [(64,.bool (!(qc4 l k).all (fun q=>e.after q))),(18,.bool false),(5,vI e.check),(9,.bool true),(4,vI k),(3,vI 0),(2,vI 0),(0,.slice (some ⟨gA,oA,none⟩) n c)]∧Mem w wS []) ?_ ?_
  ·
   refine Jb Z HM ((Vs .n []) fun IQ=>(Vp [0,1,2]) fun a Z HM HS=>?_)
   rcases Z.tf 23 rfl with ⟨eD,Z⟩|⟨eD,Z⟩
   ·
    have hk0:0<k:=by simp at eD;omega
    obtain ⟨q,hq⟩:∃q,l[k-1]?=some q:=⟨_,List.getElem?_eq_getElem om⟩
    have hpv:qc4 l k=some q:=by rw [←hq,show k=(k-1)+1 by omega];rfl
    refine Vb Z HM HS ((Vp [3,4,8,9]∘Vy 5 (h:=by exact Yl.ix gA oA k 11 rfl rfl rfl (qM))∘Vf 6 2∘Vy 7 (v:=vB e.cpu) (h:=by exact Yl.qn rfl rfl kr (fun _ h=>(h.old hr).partAt qv (k:=k) (j:=2) (x:=e) (hke) rfl))∘Vp [10]∘Vo (vI (k-1:Nat)) (by rw [IntWalk.i64_in _ om];congr 1;omega)∘Vy 11 (h:=by exact Yl.ix gA oA (k-1) 11 rfl rfl rfl)∘Vf 12 2∘Vy 13 (v:=vB q.cpu) (h:=by exact Yl.qn rfl rfl kr (fun _ h=>(h.old hr).partAt qv (k:=(k-1)) (j:=2) (x:=q) (hq) rfl))∘Vp [14,15]) fun a Z HM HS=>?_)
    rcases Z.tf 36 rfl with ⟨gD,Z⟩|⟨gD,Z⟩
    ·
     refine Vb Z HM HS ((Vq [16,17,18,19,20,21,22,23,24,25,26,27,28,29,30,31,32,33,34,35,36,37,38,39,40,41,42,43] [(64,.bool true)]∘Vd∘aI) fun a Z HM=>?_)
     have Z:=Z.sp 64 (.bool (!(qc4 l k).all (fun q=>e.after q))) rfl (congrArg Value.bool (by rw [hpv];(try simp at iT);(try simp at iC);(try simp at eD);(try simp at gD);rw [Bool.eq_iff_iff];simp [Ev.after];try omega))
     exact ⟨Z.sub kr,HM.pk []⟩
    refine ap Z (fun _=>HS) [16,17,21,22] (bf 44 [0,1,2,3,4,5,6,7,8,9,10,11,12,13,14,15,16,17,21,22]) [(43,vI k),(42,.slice (some ⟨gA,oA,none⟩) n c),(38,vI k),(37,.slice (some ⟨gA,oA,none⟩) n c)] fun a Z=>?_
    refine cB Z HS 18 rfl (v:=vP gA (oA+k*11)) (Yl.ix gA oA k 11 rfl rfl rfl (qM)) fun a Z=>?_
    refine ap Z (fun _=>HS) [19] (bf 44 [0,1,2,3,4,5,6,7,8,9,10,11,12,13,14,15,16,17,18,19,21,22]) [(40,vP gA (oA+k*11))] fun a Z=>?_
    refine cB Z HS 20 rfl (v:=vI e.seq) (Yl.qn rfl rfl kr (fun _ h=>(by have:=(h.old hr).partAt qv (k:=k) (j:=0) (x:=e) (hke) rfl;simpa using this))) fun a Z=>?_
    refine ze Z (fun _=>HS) (i:=23) rfl rfl (d:=44) rfl de kr (fun _ _ _ h=>h) (v:=vI (IntKind.i64.wrap ((k:Int)-1))) (fun _=>Yl.pure kr) fun a Z=>?_
    replace Z:=Z.sp 44 (vI (k-1:Nat)) rfl (by rw [IntWalk.i64_in _ om];congr 1;omega)
    refine cB Z HS 24 rfl (v:=vP gA (oA+(k-1)*11)) (Yl.ix gA oA (k-1) 11 rfl rfl rfl) fun a Z=>?_
    refine ap Z (fun _=>HS) [25] (bt 44 [26,27,28,29,30,31,32,33,34,35,36,37,38,39,40,41,42,43]) [(46,vP gA (oA+(k-1)*11))] fun a Z=>?_
    refine cB Z HS 26 rfl (v:=vI q.seq) (Yl.qn rfl rfl kr (fun _ h=>(by have:=(h.old hr).partAt qv (k:=(k-1)) (j:=0) (x:=q) (hq) rfl;simpa using this))) fun a Z=>?_
    refine ap Z (fun _=>HS) [27,28,29] (bt 44 [30,31,32,33,34,35,36,37,38,39,40,41,42,43]) [(50,.bool (decide ((e.seq:Int)≤(q.seq:Int))))] fun a Z=>?_
    refine Jb Z HM (Ju (fun fD=>?_) fun fD=>?_)
    ·
     intro a Z HM
     refine ap Z (fun _=>HS) [30,31,32,33,34,35,36,37,38,39,40,41,42,43] (bt 44 []) [(64,.bool true)] fun a Z=>?_
     refine qd kr ?_
     have Z:=Z.sp 64 (.bool (!(qc4 l k).all (fun q=>e.after q))) rfl (congrArg Value.bool (by rw [hpv];(try simp at iT);(try simp at iC);(try simp at eD);(try simp at gD);(try simp at fD);rw [Bool.eq_iff_iff];simp [Ev.after];try omega))
     exact ⟨Z.sub kr,HM.pk []⟩
    intro a Z HM
    refine ap Z (fun _=>HS) [30,31,35,36] (bt 44 [32,33,34,37,38,39,40,41,42,43]) [(57,vI k),(56,.slice (some ⟨gA,oA,none⟩) n c),(52,vI k),(51,.slice (some ⟨gA,oA,none⟩) n c)] fun a Z=>?_
    refine cB Z HS 32 rfl (v:=vP gA (oA+k*11)) (Yl.ix gA oA k 11 rfl rfl rfl (qM)) fun a Z=>?_
    refine ap Z (fun _=>HS) [33] (bt 44 [34,37,38,39,40,41,42,43]) [(54,vP gA (oA+k*11+1))] fun a Z=>?_
    refine cB Z HS 34 rfl (v:=vI e.time) (Yl.qn rfl rfl kr (fun _ h=>(h.old hr).partAt qv (k:=k) (j:=1) (x:=e) (hke) rfl)) fun a Z=>?_
    refine ze Z (fun _=>HS) (i:=37) rfl rfl (d:=58) rfl de kr (fun _ _ _ h=>h) (v:=vI (IntKind.i64.wrap ((k:Int)-1))) (fun _=>Yl.pure kr) fun a Z=>?_
    replace Z:=Z.sp 58 (vI (k-1:Nat)) rfl (by rw [IntWalk.i64_in _ om];congr 1;omega)
    refine cB Z HS 38 rfl (v:=vP gA (oA+(k-1)*11)) (Yl.ix gA oA (k-1) 11 rfl rfl rfl) fun a Z=>?_
    refine ap Z (fun _=>HS) [39] (bt 44 [40,41,42,43]) [(60,vP gA (oA+(k-1)*11+1))] fun a Z=>?_
    refine cB Z HS 40 rfl (v:=vI q.time) (Yl.qn rfl rfl kr (fun _ h=>(h.old hr).partAt qv (k:=(k-1)) (j:=1) (x:=q) (hq) rfl)) fun a Z=>?_
    refine ap Z (fun _=>HS) [41,42,43] (bt 44 []) [(64,.bool (decide ((e.time:Int)<(q.time:Int))))] fun a Z=>?_
    refine qd kr ?_
    replace Z:=Z.to [(64,.bool (decide ((e.time:Int)<(q.time:Int)))),(18,.bool false),(5,vI e.check),(9,.bool true),(4,vI k),(3,vI 0),(2,vI 0),(0,.slice (some ⟨gA,oA,none⟩) n c)]
    have Z:=Z.sp 64 (.bool (!(qc4 l k).all (fun q=>e.after q))) rfl (congrArg Value.bool (by rw [hpv];(try simp at iT);(try simp at iC);(try simp at eD);(try simp at gD);(try simp at fD);rw [Bool.eq_iff_iff];simp [Ev.after];try omega))
    exact ⟨Z.sub kr,HM.pk []⟩
   have hpv:qc4 l k=none:=by rw [show k=0 by simp at eD;omega];rfl
   refine ap Z (fun _=>HS) [3,4,5,6,7,8,9,10,11,12,13,14,15,16,17,18,19,20,21,22,23,24,25,26,27,28,29,30,31,32,33,34,35,36,37,38,39,40,41,42,43] (bt 44 []) [(64,.bool false)] fun a Z=>?_
   refine qd kr ?_
   have Z:=Z.sp 64 (.bool (!(qc4 l k).all (fun q=>e.after q))) rfl (congrArg Value.bool (by rw [hpv];(try simp at iT);(try simp at iC);(try simp at eD);rw [Bool.eq_iff_iff];simp [Ev.after];try omega))
   exact ⟨Z.sub kr,HM.pk []⟩
  clear Z HM;rintro a w7 ⟨Z,HM⟩
  refine Jb Z HM (Ju (fun iU=>?_) fun iU=>?_)
  ·
   intro a Z HM
   rw [if_pos (by simpa using iU)] at hgo
   exact Jb Z HM ((JT∘JP∘Jp 3∘Jj∘JZ∘bY) fun HM=>by exact ⟨by rw [hj,hgo];(try rfl),HM.below⟩)
  intro a Z HM
  rw [if_neg (by simpa using iU)] at hgo
  refine Jb Z HM ((JF∘aF∘JR∘Jp 2∘Jo (vI (k+1:Nat)) (by rw [IntWalk.i64_in _ om];simp)∘Jp 1∘aY∘Jq) fun a Z HM=>?_)
  exact ⟨_,om,k+1,by omega,hj.trans hgo,rfl,Z.sub kr,HM.pk []⟩
 intro a Z HM
 have qM:k=n:=by simp at iT;omega
 exact Jb Z HM ((JF∘JX∘JG∘JP∘Jp 2∘Jj∘JZ∘bY) fun HM=>by exact ⟨by rw [hj,qM,List.drop_eq_nil_of_le om];cases qc4 l n<;>rfl,HM.below⟩)
structure It where
 e:Ev
 before:Int
structure It.Ok (x:It):Prop where
 e:x.e.Ok
 before:aM x.before
def It.cells (x:It):Array Value:= #[.int .i64 x.e.seq,.int .i64 x.e.time,.int .u8 (x.e.cpu:Int),.int .u8 (x.e.kind:Int),.int .i64 x.e.task,.int .i64 x.e.group,.int .i64 x.e.to,.int .i64 x.e.weight,.int .i64 x.e.ticks,.int .u64 (x.e.mask:Int),.int .i64 x.e.got,.int .i64 x.before]
def bV (x:It):List Value:=x.cells.toList
theorem zn (x:It):(bV x).length=12:=rfl
def aJ (l:List It):List Ev:=l.map It.e
def aW (l:List It):List Int:=l.map It.before
def ko:Int→List Int→Bool
 |_,[]=>true
 |r,n::t=>decide (0≤n∧n≤r)&&ko (r-n) t
def xH:Int:=281474976710656
def mQ (cpu:Nat):List It→Bool
 |[]=>true
 |x::_=>decide (x.e.cpu=cpu)
def zo (cpu:Nat) (l:List It) (opn:Int):Bool:=decide ((bL (aJ l)).2=0)&& (ko xH (opn::aW l)&&mQ cpu l)
def bO:List Int→Int
 |[]=>0
 |n::t=>n+bO t
def aT (cpu:Nat) (l:List It) (opn:Int) (n:Nat):Bk:=⟨1,cpu,bO (aW (l.take n))+(if n=l.length then opn else 0),0,aJ (l.take n)⟩
def ji (p:Nat→Bool):Nat→Nat
 |0=>0
 |n+1=>if p (n+1)=true then n+1 else ji p n
def gP (cpu:Nat) (l:List It) (opn:Int) (limit:Nat):Nat:=ji (fun n=>decide ((aT cpu l opn n).err=0)) (min l.length limit)
def dX (cpu:Nat) (opn:Int) (limit:Nat):Nat→List It→List Bk
 |0,_=>[]
 |f+1,l=>if l.length=0 then [] else aT cpu l opn (gP cpu l opn limit)::dX cpu opn limit f (l.drop (gP cpu l opn limit))
def bH (cpu:Nat) (l:List It) (opn:Int) (limit:Int):List Bk×Nat:=
 if 64≤cpu∨limit<1∨4096<limit then ([],2)
 else if zo cpu l opn=false then ([],110)
 else if l.length=0 then ((if opn=0 then [] else [⟨1,cpu,opn,0,[]⟩]),0)
 else (dX cpu opn limit.toNat l.length l,0)
theorem VR:∀{l:List Int} {r:Int},ko r l=true→∀n∈l,0≤n∧n≤r
 |[],_,_,n,hn=>by cases hn
 | x :: t, r, h, n, hn => by
  simp only [ko,Bool.and_eq_true,decide_eq_true_eq] at h
  rcases List.mem_cons.1 hn with rfl|hn
  ·exact h.1
  ·have:=VR h.2 n hn
   omega
theorem VT:∀{l:List Int} {r:Int},0≤r→ko r l=true→0≤bO l∧bO l≤r
 |[],r,hr,_=>⟨Int.le_refl _,hr⟩
 |x::t,r,hr,h=>by
  simp only [ko,Bool.and_eq_true,decide_eq_true_eq] at h
  have:=VT om h.2
  simp only [bO]
  omega
theorem Kc:∀(a b:List Int),bO (a++b)=bO a+bO b
 |[],b=>by simp [bO]
 |x::a,b=>by simp only [List.cons_append,bO,Kc a b];omega
theorem Ag (p:Nat→Bool):∀n,ji p n≤n
 |0=>Nat.le_refl _
 |n+1=>by
  rw [ji]
  split
  ·exact Nat.le_refl _
  ·exact Nat.le_succ_of_le (Ag p n)
theorem NG (p:Nat→Bool):∀n,0<ji p n→p (ji p n)=true
 |0,h=>by simp [ji] at h
 | n + 1, h => by
  rw [ji] at h⊢
  split
  ·rename_i hp;exact hp
  ·rename_i hp
   rw [if_neg hp] at h
   exact NG p n h
theorem NH (p:Nat→Bool) (h1:p 1=true):∀n,0<n→0<ji p n
 |0,h=>by omega
 | n + 1, _ => by
  rw [ji]
  split
  ·omega
  ·rename_i hp
   cases n with
   |zero=>exact absurd h1 hp
   |succ m=>exact NH p h1 (m+1) om
theorem VU (p:Nat→Bool):∀{n k:Nat},k≤n→(∀m,k<m→m≤n→p m=false)→ji p n=ji p k
 |0,k,h,_=>by
  have:k=0:=by omega
  subst this;rfl
 | n + 1, k, h, hno => by
  by_cases hk:k=n+1
  ·subst hk;rfl
  ·rw [ji,if_neg (by rw [hno (n+1) om (Nat.le_refl _)];decide)]
   exact VU p om (fun m h1 h2=>hno m h1 om)
end Go.Proofs.YtekiimhdnigmcaaGreatDoor
