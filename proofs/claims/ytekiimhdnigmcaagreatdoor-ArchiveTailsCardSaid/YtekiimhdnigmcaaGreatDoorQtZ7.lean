/- Parts. -/
import Derived.Test.YtekiimhdnigmcaaGreatDoorQtZ6
set_option linter.all false
set_option maxRecDepth 100000
set_option maxHeartbeats 1000000
namespace Go.Proofs.YtekiimhdnigmcaaGreatDoor
open Go.RowKit
open List renaming length→abn
open _root_.Go.Proofs.Tryz renaming prog→abo
open _root_.List renaming length_append→abp,length_take→abv,length_map→abx,length_drop→abC,length_set→abJ,mem_of_mem_drop→abL,mem_of_mem_take→acf,mem_flatMap→acw,length→adZ,sublist_append_left→aeg,set_set→ae1,sublist_append_right→afx
open Nat renaming le_refl→abr,zero_le→abA
open _root_.ByteArray renaming mk→aby
open Hb renaming b→acZ
open List.Sublist renaming append_left→ahn
variable {w W:World} {L:List Pl}
def zgh {B n k:Nat} {A:Option Addr} {l:List Nat} (h:Rd w B 1 A n (l.map B8)) (hk:k<=n):Rd w B 1 A k ((l.take k).map B8):=by
 have a:=h.upto hk
 rwa [Nat.mul_one,<-List.map_take] at a
theorem q9e {b:List Nat} {p c:Nat} {out:List Pl} (h:∀x∈out,x.sn<=c/\x.st<=c/\x.en<=c):∀x∈out++[l6 b p c],x.sn<=c+lJ b p+mY b p/\x.st<=c+lJ b p+mY b p/\x.en<=c+lJ b p+mY b p:=λx a=>by
 rcases List.mem_append.1 a with a|a
 ·have:=h x a;omega
 ·rw [List.mem_singleton.1 a]
  unfold l6
  dsimp only
  omega
def EJ {α:Type} {l:List α} {i:Nat} {t u:α} (h:l[i]?=some t):(l.set i u)[i]?=some u:=List.getElem?_set_self (List.getElem?_eq_some_iff.1 h).1
def zkg (l:List Pl):∀v∈l.flatMap jA,v.oneCell'=true:=by
 intro v a
 obtain ⟨x,_,b⟩:=acw.1 a
 exact zf6 x v b
def NU (W w:World) (g i k:Nat) (A:Option Addr) (c:Nat) (b:List Nat) (p:Nat) (m:Bool) (most:Nat) (fr:List Fact) (s:∀z∈b,z<256) (t:p<=abn b) (B:abn b<=100000000) (hr:Rd W W.heap.size 1 A (abn b) (b.map B8)) (hc:abn b<=c) (o:most<=4611686018427387904)
    (d:Mem W w (.blk g #[abk A b c] 30:: .blk i #[vI p] 3:: .blk k #[.bool m] 4::fr)):
    Calls abo 51 #[vI most,vP g 0,vP i 0,vP k 0] w (Bc W g i k b A c p m most fr):=by
 refine oD Tryz.func51 [vI most,vP g 0,vP i 0,vP k 0] [(0,vI most),(1,vP g 0),(2,vP i 0),(3,vP k 0)] λa Z=>?_
 refine Jb Z d ((aJ 1∘Jq) ?_)
 have q:=xg (b.drop p)
 rw [abC] at q
 have u:=qc6 (b.drop p) (λz hz=>s z (abL hz))
 have x:=qJ most (b.drop p)
 refine (JG∘JP∘Jc O0∘Jc O1∘Jy (h:=by exact aae bn (j:=p) rfl rfl rfl om)∘JL (h:=by exact λd=>K3 _ _ _ (b.drop p) _ (Rd.E9 (d.old hr) t hc) (λz hz=>s z (abL hz)) om)) ?_
 rintro d _ y ⟨rfl,r⟩
 refine ⟨_,rfl,_,d.call r,?_⟩
 refine (Jp 1∘Jx∘Jx∘Jx∘Jp 3∘Jr∘Jc O2∘Jp 1) (Ju (λe=>?_) λe=>?_)
 ·
  refine (Jp 4) (Je (λn=>?_) λn=>?_)
  ·
   exact (Jp 2∘Jw .u64∘Jp 2∘JW iq aO) λf=>(iQ∘Jr∘Jc O1∘Jp 1∘Ja∘JW fJ aO) λl=>(iQ∘bA 2∘Jw .u64∘Jy (v:=vQ (if (most:Int)<((aD (b.drop p)).1:Int) then (most:Int) else ((aD (b.drop p)).1:Int))) (h:=by exact Yl.min rfl rfl rfl)∘Jo (vQ (aA most (b.drop p))) (by rw [DX])∘Jw .i64∘Jp 1∘aH∘aP∘JC (h:=by exact λd=>d.pt (fs':=(.blk g #[abk A b c] 30::ahJ i (p+((aD (b.drop p)).2.1):Nat)::aii k (decide (((aD (b.drop p)).1:Int)<=(most:Int)))::fr)) 3 [0,1,2])∘bC) λd=>Uo rfl (by rw [e,Bool.true_and];unfold eZ aZ;rw [Bool.eq_iff_iff];simp only [decide_eq_true_eq];omega) d
  exact (Jp 5∘JW iq aO) λf=>(iQ∘Jr∘Jc O1∘Jp 1∘Ja∘JW fJ aO) λl=>(iQ∘bA 2∘Jw .u64∘Jy (v:=vQ (if (most:Int)<((aD (b.drop p)).1:Int) then (most:Int) else ((aD (b.drop p)).1:Int))) (h:=by exact Yl.min rfl rfl rfl)∘Jo (vQ (aA most (b.drop p))) (by rw [DX])∘Jw .i64∘Jp 1∘aH∘aP∘JC (h:=by exact λd=>d.pt (fs':=(.blk g #[abk A b c] 30::ahJ i (p+((aD (b.drop p)).2.1):Nat)::.blk k #[.bool false] 4::fr)) 3 [0,1,2])∘bC) λd=>Uo rfl (by unfold eZ;rw [Yc om,Bool.and_false]) d
 exact (Jv 9 [(27,.bool false)]∘JW iq aO) λf=>(xE∘Jr∘Jc O1∘Jp 1∘Ja∘JW fJ aO) λl=>(xE∘bA 2∘Jw .u64∘Jy (v:=vQ (if (most:Int)<((aD (b.drop p)).1:Int) then (most:Int) else ((aD (b.drop p)).1:Int))) (h:=by exact Yl.min rfl rfl rfl)∘Jo (vQ (aA most (b.drop p))) (by rw [DX])∘Jw .i64∘Jp 1∘kW∘aP∘JC (h:=by exact λd=>d.pt (fs':=(.blk g #[abk A b c] 30::ahJ i (p+((aD (b.drop p)).2.1):Nat)::.blk k #[.bool false] 4::fr)) 3 [0,1,2])∘bC) λd=>Uo rfl (by rw [e,Bool.false_and]) d
abbrev aiw:=λa b c d=>((6,.func (.func 51) #[] #[vP a 0,vP b 0,vP c 0])::(5,vP c 0)::(4,vP b 0)::(16,.bool false)::(12,.bool false)::(3,vI 0)::(2,vN)::(1,vP a 0)::d:List (Nat×Go.Value))
def UD (A:Option Addr) (c:Nat) (b:List Nat) (B:Nat) (w:World) (hL:aT B w) (hB:B<=w.heap.size) (hr:Rd w w.heap.size 1 A (abn b) (b.map B8)) (hc:abn b<=c) (hn:abn b<=100000000) (Q:∀z∈b,z<256):
    Calls abo 18 #[.slice A (abn b) c] w (ED w (dn b)):=by
 refine (eF Tryz.func18 129) ?_
 refine (JP∘uT) λw1 r=>(bM 2∘JQ∘JB∘JP∘Jc O0∘Jl∘Jp 2∘dY∘Jj) (Ji (λS=>?_) λS=>?_)
 ·
  exact (JT∘bF 2∘bO) λd=>zJ d.below (zdt om) rfl
 have g:¬16777216<abn b:=by omega
 refine (JF∘JP∘Jc O0∘Jl∘Jp 2) (Ji (λT=>?_) λT=>?_)
 ·
  have O:¬(b.take 3=[113,97,1]):=λh=>by have:=congrArg adZ h;rw [abv] at this;have h9:abn ([113,97,1]:List Nat)=3:=rfl;omega
  exact (Jp 6∘aH∘Jj∘JT∘bF 2∘bO) λd=>zJ d.below (qyq g O) rfl
 have U:3<=abn b:=by omega
 refine (Jc O0∘Jy (h:=by exact aag bn (j:=3) rfl rfl rfl om)∘Jy (h:=by exact aaz rfl rfl (λ_ h=>zgh (h.old hr) om))∘Jp 1∘Jo (.bool (!(decide (b.take 3=[113,97,1])))) (by rw [show (⟨#[113,97,1]⟩:ByteArray)=jM [113,97,1] from rfl,zgy (λz hz=>Q z (acf hz)) de])∘Jp 2∘aH∘Jj) (oW (λH=>?_) λH=>?_)
 ·
  have O:¬(b.take 3=[113,97,1]):=H
  exact (JT∘bF 2∘bO) λd=>zJ d.below (qyq g O) rfl
 have q:b.take 3=[113,97,1]:=H
 refine (aU∘JP∘JA #[vI 0]) λw4 s=>(JW aO aO) λUC=>(Jq) ?_
 obtain ⟨K,L⟩:∃K,dS b 3 1024=K:=⟨_,rfl⟩
 have hK2:K<=1024:=by rw [<-L];exact Tv
 refine (JG∘JP∘JA #[.bool false]) λw5 u=>(JW aO aO) λFP=>(Jr∘Jy (h:=by exact Yl.makeFunc (fst:=[]) (caps:=[vP r 0,vP s 0,vP u 0]) rfl rfl rfl)∘Jp 1∘aK∘bA 1∘Jq∘JC (h:=by exact λd=>d.nil 57 4)∘JG∘cO 2∘bN 1) λa Z d=>?_
 refine fo Z 1 rfl rfl ?_
 replace d:=d.pk (fs':=[.blk r #[abk A b c] 30,.blk s #[vI 3] 3,.blk u #[.bool true] 4,.row (vN) 0 [] 57 4]) [3,2,1,0]
 refine zg Z (f:=51) (vs:=[vI 1024]) (fst:=[]) (caps:=[vP r 0,vP s 0,vP u 0]) rfl rfl rfl kr rfl de (NU w _ r s u A c b 3 true 1024 [.row (vN) 0 [] 57 4] Q U hn hr hc de d) ?_
 rintro _ FH ⟨rfl,hm⟩
 refine ⟨_,rfl,?_⟩
 replace d:=hm
 clear Z;intro a Z
 refine Jb Z d ((bM 1∘JB) λa Z d=>?_)
 refine qg (λV aS wS=>∃(i:Nat) (p:Nat) (ok:Bool) (last:Nat) (e:Nat) (out:List Pl) (G:Option Addr) (co:Nat),(i<=K)/\(p<=abn b)/\(gW b (true&&eZ b 3 1024) K (bG b 3) ok (K-i) p last e out)/\(last<=4611686018427387904)/\(e<=i*33554432)/\(abn out=i)/\(∀x∈out,x.sn<=e/\x.st<=e/\x.en<=e)/\(abn out<=co)/\V=K-i/\Fr aS 129 [] (ahK 29 i 28 (dS b 3 1024) (ahK 9 e 8 last ((7,abk G out co)::aiw r s u [])))/\Mem w wS [.blk r #[abk A b c] 30,ahJ s p,aii u ok,abm G out co jA 57 4]) (m:=K-0) ⟨0,(bG b 3),(true&&eZ b 3 1024),0,0,[],none,0,abA _,wJ U,zj1,abA _,abA _,rfl,(λx hx=>by cases hx),abr _,rfl,Z.sub kr,d.pk [0,1,2,3]⟩ ?_
 clear Z d;rintro V a w_ ⟨i,p,ok,last,e,out,G,co,hi,hp,M,hlast,hsum,hol,W,hco,rfl,Z,d⟩
 refine Jb Z d ((cO 1∘JQ) (Ji (λX=>?_) λX=>?_))
 ·
  have asJ:i<K:=by omega
  obtain ⟨k,hk⟩:∃k,K-i=k+1:=⟨K-i-1,by omega⟩
  have Y:=wJ (b:=b) hp
  have hp2:=wJ (b:=b) Y
  have hnl:=zj2 (b:=b) (p:=p)
  have hsl:=zj3 (b:=b) (p:=p)
  have hbl:=zj4 (b:=b) (p:=p)
  rw [hk] at M
  intro a Z d
  unfold lI at hnl;unfold lJ at hsl;unfold mY at hbl
  refine Jb Z d ((eO∘aJ 1) λa Z d=>?_)
  refine fo Z 1 rfl rfl ?_
  replace d:=d.pk (fs':=[.blk r #[abk A b c] 30,ahJ s p,aii u ok,abm G out co jA 57 4]) [0,1,2,3]
  refine zg Z (f:=51) (vs:=[vI 4611686018427387904]) (fst:=[]) (caps:=[vP r 0,vP s 0,vP u 0]) rfl rfl rfl kr rfl de (NU w _ r s u A c b p ok 4611686018427387904 [abm G out co jA 57 4] Q hp hn hr hc de d) ?_
  rintro _ w32 ⟨rfl,hm⟩
  refine ⟨_,rfl,?_⟩
  replace d:=hm
  clear Z;intro a Z
  refine Jb Z d ((eH #[vI (dS b p 4611686018427387904),vI 0,vI 0,vI 0]∘JA #[vI 0,vI 0,vI 0,vI 0]) λqY I=>(JV mZ aO) λadG=>(dY∘bA 1∘Jf 1∘JW aO fJ) λFT=>(nA∘Jj) λa Z d=>?_)
  refine wp_seq ?_
  refine Jb Z d ((Vs (.t (.t (.f (.f .n)))) [6]) λyC=>(Vf 0 1∘Vp [2]∘Vc 1 O0) λa Z d E=>?_)
  refine s_on Z 3 rfl ?_
  replace d:=d.pk (fs':=[.blk r #[abk A b c] 30,ahJ s (bG b p),aii u (ok&&eZ b p 4611686018427387904),.blk I #[vI (dS b p 4611686018427387904),vI e,vI 0,vI 0] 57,abm G out co jA 57 4]) [1,2,3,0,4]
  refine zg Z (f:=51) (vs:=[vI 16777216]) (fst:=[]) (caps:=[vP r 0,vP s 0,vP u 0]) rfl rfl rfl kr rfl de (NU w _ r s u A c b (bG b p) (ok&&eZ b p 4611686018427387904) 16777216 [.blk I #[vI (dS b p 4611686018427387904),vI e,vI 0,vI 0] 57,abm G out co jA 57 4] Q Y hn hr hc de d) ?_
  rintro _ HV ⟨rfl,hm⟩
  refine ⟨_,rfl,?_⟩
  replace d:=hm
  clear Z;intro a Z
  refine ay (d.pk [3,0,4]) (λE=>?_)
  refine Vb Z d E ((Va 4∘Vf 5 2) λa Z d E=>?_)
  refine s_on Z 6 rfl (eG Z d 3 λGh d=>?_)
  refine dN kr ?_
  refine qe kr ?_
  refine wp_seq ?_
  refine Jb Z d ((Vs (.t (.f (.f .n))) [6]) λyD=>(Vf 0 2∘Vp [2]∘Vc 1 O1) λa Z d E=>?_)
  refine s_on Z 3 rfl ?_
  replace d:=d.pk (fs':=[.blk r #[abk A b c] 30,ahJ s (bG b (bG b p)),aii u ((ok&&eZ b p 4611686018427387904)&&eZ b (bG b p) 16777216),.blk I #[vI (dS b p 4611686018427387904),vI e,vI (e+(dS b (bG b p) 16777216):Nat),vI 0] 57,abm G out co jA 57 4]) [0,1,2,3,4]
  refine zg Z (f:=51) (vs:=[vI 16777216]) (fst:=[]) (caps:=[vP r 0,vP s 0,vP u 0]) rfl rfl rfl kr rfl de (NU w _ r s u A c b (bG b (bG b p)) ((ok&&eZ b p 4611686018427387904)&&eZ b (bG b p) 16777216) 16777216 [.blk I #[vI (dS b p 4611686018427387904),vI e,vI (e+(dS b (bG b p) 16777216):Nat),vI 0] 57,abm G out co jA 57 4] Q hp2 hn hr hc de d) ?_
  rintro _ w45 ⟨rfl,hm⟩
  refine ⟨_,rfl,?_⟩
  replace d:=hm
  clear Z;intro a Z
  refine ay (d.pk [0,3,4]) (λE=>?_)
  refine Vb Z d E ((Va 4∘Vf 5 3) λa Z d E=>?_)
  refine s_on Z 6 rfl (eG Z d 3 λadH d=>?_)
  refine dN kr ?_
  refine qe kr ?_
  refine Jb Z d ((JP∘Jc O2∘Jp 1) (Ju (λC=>?_) λC=>?_))
  ·
   refine (Jg 0 O3∘Jp 3∘JW iq aO) λP=>(iQ∘Jj∘JQ∘JP∘Jc O2∘Jp 1∘aH∘Jj) (oW (λUE=>?_) λUE=>?_)
   ·
    exact (JT∘bF 2∘bO) λd=>by exact zJ d.below (Tx g q (by rw [L];exact M.stop (by unfold lI;rintro ⟨_,R⟩;omega))) rfl
   refine (JC (h:=by exact λd=>d.dW (i:=2) (ds:= #[.bool true]) rfl (by rw [decide_eq_true om]))∘JC (h:=by exact λd=>(show Mem w _ [ahF r A (abn b) c,ahJ s (bG b (bG b (bG b p))),.blk u #[.bool true] 4,.blk I #[vI (dS b p 4611686018427387904),vI e,vI (e+(dS b (bG b p) 16777216):Nat),vI (e+(dS b (bG b p) 16777216)+(dS b (bG b (bG b p)) 16777216):Nat)] 57,abm G out co jA 57 4] from d))∘aU∘aJ 1∘Jy (v:= .agg #[vI (dS b p 4611686018427387904),vI e,vI (e+(dS b (bG b p) 16777216):Nat),vI (e+(dS b (bG b p) 16777216)+(dS b (bG b (bG b p)) 16777216):Nat)]) (h:=by exact Pe rfl rfl mZ rfl (λ_ h=>qj (h.blk (i:=3) rfl)))∘JU wL #[vI (dS b p 4611686018427387904),vI e,vI (e+(dS b (bG b p) 16777216):Nat),vI (e+(dS b (bG b p) 16777216)+(dS b (bG b (bG b p)) 16777216):Nat)]) λSy g59=>(JD ([(l6 b p e)].flatMap jA) 5 (λ_ _=>sV) wL (hr:=by exact λd=>d.bB (i:=0) (n:=1) (size:=4) rfl rfl) (h1:=by exact zkg _)) λw60 A60 c60 N=>(Jp 1∘gq∘Jq) ?_
   have y:abn out+1=abn (out++[(l6 b p e)]):=by rw [abp];rfl
   rw [y] at N
   refine (JC (h:=by exact λd=>d.aY (i:=5) (ys:=(out++[(l6 b p e)]).flatMap jA) rfl y (by rw [List.flatMap_append]))∘Jk 7 (.slice A60 (abn (out++[(l6 b p e)])) c60) (h:=by exact iB y)∘JG∘Vs .n []) λFM=>(Vf 0 0∘Vf 2 3∘Vc 1 O4∘Vp [4]∘Vc 3 O4∘Vp [5]∘Vd∘aK∘JG∘JR∘dx 1∘Jp 1∘aK∘Jq) λa Z d=>?_
   exact ⟨_,om,i+1,(bG b (bG b (bG b p))),true,(dS b p 4611686018427387904),(e+dS b (bG b p) 16777216+dS b (bG b (bG b p)) 16777216),(out++[(l6 b p e)]),A60,c60,by omega,wJ hp2,(by rw [show K- (i+1)=k by omega];exact M.step C (by unfold lI;omega)),hnl,by omega,by rw [abp,hol];rfl,q9e W,N,rfl,Z.sub kr,d.pk [1,2,3,5]⟩
  exact (Jp 5∘JW iq aO) λP=>(iQ∘Jj∘JQ∘JP∘Jc O2∘Jp 1∘aH∘Jj∘JT∘bF 2∘bO) λd=>by exact zJ d.below (Tx g q (by rw [L];exact M.stop (by rintro ⟨h1,_⟩;rw [h1] at C;cases C))) rfl
 have hik:i=K:=by omega
 refine (JF∘JX∘JG∘JQ∘JP∘Jc O2∘Jp 2) (Ju (λJ=>?_) λJ=>?_)
 ·
  have UF:ok=false:=by simpa using J
  have hbad:kR b (true&&eZ b 3 1024) K (bG b 3) 0 0=none:=by rw [UF] at M;exact M.bad
  exact (Jv 23 [(91,.bool true)]∘dY∘Jj∘JT∘bF 2∘bO) λd=>zJ d.below (Tx g q (by rw [L];exact hbad)) rfl
 have UG:ok=true:=by simpa using J
 have D:kR b (true&&eZ b 3 1024) K (bG b 3) 0 0=some (out,p,e):=by rw [UG,show K-i=0 by omega] at M;exact M.fin
 refine (Jc O1∘dx 4∘Jc O0∘Jl∘Jp 3) (Ji (λUH=>?_) λUH=>?_)
 ·
  exact (Jv 16 [(91,.bool true)]∘aH∘Jj∘JT∘bF 2∘bO) λd=>by exact zJ d.below (Tz g q (by rw [L];exact D) (by rintro ⟨h1,R,U⟩;first|omega|(rw [R] at l;cases l))) rfl
 refine (Jc O0∘Jc O1∘dx 4∘Jy (h:=by exact aag bn (j:=p+4) rfl rfl rfl om)∘JI (h:=by exact λd=>Py A (p+4) c (b.take (p+4)) B _ (hL.mem d hB) (d.le hB) (zgh (d.old hr) om) om (by rw [abv];omega) om (λz hz=>Q z (acf hz)))) λw80 hbw=>(Jp 3) (Ju (λl=>?_) λl=>?_)
 ·
  exact (Jv 8 [(91,.bool true)]∘aH∘Jj∘JT∘bF 2∘bO) λd=>by exact zJ d.below (Tz g q (by rw [L];exact D) (by rintro ⟨h1,R,U⟩;first|omega|(rw [R] at l;cases l))) rfl
 refine (Jc O1∘dx 4∘Jp 1∘Ja∘Jc O0∘Jl∘Jp 2∘aH∘Jj) (Jh (λhd91=>?_) λhd91=>?_)
 ·
  exact (JT∘bF 2∘bO) λd=>by exact zJ d.below (Tz g q (by rw [L];exact D) (by rintro ⟨h1,R,U⟩;first|omega|(rw [R] at l;cases l))) rfl
 have hall:p+4<=abn b/\zj (b.take (p+4))=true/\p+4+e=abn b:=⟨by omega,by simpa using l,by omega⟩
 refine (aU∘bN 1∘Jl∘Jp 1∘Jq∘JC (h:=by exact λd=>d.dw (i:=3) (ys:=(fZ (Pl.up (p+4)) out 0).flatMap jA) rfl (by rw [q2b]))∘JG∘JB) λa Z d=>?_
 refine qg (λV aS wS=>∃(j:Nat),(j<=abn out)/\V=abn out-j/\Fr aS 129 [] (ahK 94 j 93 (abn out) ((91,.bool false)::(30,.bool false)::ahK 29 i 28 (dS b 3 1024) (ahK 9 e 8 last ((7,abk G out co)::aiw r s u []))))/\Mem w wS [.blk r #[abk A b c] 30,ahJ s p,aii u ok,.row (abk G out co) (abn out) ((fZ (Pl.up (p+4)) out j).flatMap jA) 57 4]) (m:=abn out-0) ⟨0,abA _,rfl,Z.sub kr,d.pk [0,1,2,3]⟩ ?_
 clear Z d;rintro V a w_ ⟨j,hj,rfl,Z,d⟩
 refine Jb Z d ((cO 1∘JQ) (Ji (λhd95=>?_) λhd95=>?_))
 ·
  have o:j<abn out:=by omega
  have hmx:=W _ (qf Pl.zero o)
  have hu1:((out.getD j Pl.zero).zK (p+4)).st=(out.getD j Pl.zero).st:=rfl
  have hu2:((out.getD j Pl.zero).Dt (p+4)).en=(out.getD j Pl.zero).en:=rfl
  refine (eO∘aJ 2∘aK∘Jj) λa Z d=>?_
  refine wp_seq ?_
  refine Jb Z d ((Vs .n [10]) λasL=>(Vp [0,1]) ?_)
  repeat (first|clear Z|clear d|clear E)
  intro a Z d E
  obtain ⟨F,rfl⟩:=d.rat 3 j
  refine Vb Z d E ((Vy 2 (h:=by exact Yl.iK F j 4 rfl rfl rfl)∘Vf 3 1∘Vy 4 (v:=vI ((out.getD j Pl.zero).sn)) (h:=by exact Pd rfl rfl kr (λ_ h=>h.qu tV (i:=3) rfl (k:=j) (off:=1) (x:=(out.getD j Pl.zero)) ((EC (Pl.up (p+4)) out Pl.zero o)) rfl))∘Vc 5 O1∘yx 6 4∘Va 7∘Vu 8 (h:=by exact λ_=>Yl.iK F j 4 rfl rfl rfl)∘Vf 9 1) λa Z d E=>?_)
  refine s_on Z 10 rfl ?_
  refine zf Z d (i:=3) rfl rfl rfl rfl kr rfl rfl (by rw [qQ jA 4 tV];simp only [abJ,Un];omega) λUJ d=>?_
  replace d:=d.dw (i:=3) (ys:=((fZ (Pl.up (p+4)) out j).set j ((out.getD j Pl.zero).zK (p+4))).flatMap jA) rfl (uL jA 4 tV (fZ (Pl.up (p+4)) out j) j (out.getD j Pl.zero) ((out.getD j Pl.zero).zK (p+4)) (EC (Pl.up (p+4)) out Pl.zero o) 1 de _ rfl)
  refine dN kr ?_
  refine qe kr ?_
  refine wp_seq ?_
  refine Jb Z d ((Vs .n [10]) λasM=>(Vp [0,1]∘Vy 2 (h:=by exact Yl.iK F j 4 rfl rfl rfl)∘Vf 3 2∘Vy 4 (v:=vI (((out.getD j Pl.zero).zK (p+4)).st)) (h:=by exact Pd rfl rfl kr (λ_ h=>h.qu tV (i:=3) rfl (k:=j) (off:=2) (x:=((out.getD j Pl.zero).zK (p+4))) ((EJ (EC (Pl.up (p+4)) out Pl.zero o))) rfl))∘Vc 5 O1∘yx 6 4∘Va 7∘Vu 8 (h:=by exact λ_=>Yl.iK F j 4 rfl rfl rfl)∘Vf 9 2) λa Z d E=>?_)
  refine s_on Z 10 rfl ?_
  refine zf Z d (i:=3) rfl rfl rfl rfl kr rfl rfl (by rw [qQ jA 4 tV];simp only [abJ,Un];omega) λUK d=>?_
  replace d:=d.dw (i:=3) (ys:=(((fZ (Pl.up (p+4)) out j).set j ((out.getD j Pl.zero).zK (p+4))).set j ((out.getD j Pl.zero).Dt (p+4))).flatMap jA) rfl (uL jA 4 tV ((fZ (Pl.up (p+4)) out j).set j ((out.getD j Pl.zero).zK (p+4))) j ((out.getD j Pl.zero).zK (p+4)) ((out.getD j Pl.zero).Dt (p+4)) (EJ (EC (Pl.up (p+4)) out Pl.zero o)) 2 de _ rfl)
  refine dN kr ?_
  refine qe kr ?_
  refine Jb Z d ((Vs .n [10]) λasN=>(Vp [0,1]∘Vy 2 (h:=by exact Yl.iK F j 4 rfl rfl rfl)∘Vf 3 3∘Vy 4 (v:=vI (((out.getD j Pl.zero).Dt (p+4)).en)) (h:=by exact Pd rfl rfl kr (λ_ h=>h.qu tV (i:=3) rfl (k:=j) (off:=3) (x:=((out.getD j Pl.zero).Dt (p+4))) ((EJ (EJ (EC (Pl.up (p+4)) out Pl.zero o)))) rfl))∘Vc 5 O1∘yx 6 4∘Va 7∘Vu 8 (h:=by exact λ_=>Yl.iK F j 4 rfl rfl rfl)∘Vf 9 3) λa Z d E=>?_)
  refine s_on Z 10 rfl ?_
  refine zf Z d (i:=3) rfl rfl rfl rfl kr rfl rfl (by rw [qQ jA 4 tV];simp only [abJ,Un];omega) λUL d=>?_
  replace d:=d.dw (i:=3) (ys:=(fZ (Pl.up (p+4)) out (j+1)).flatMap jA) rfl ((uL jA 4 tV (((fZ (Pl.up (p+4)) out j).set j ((out.getD j Pl.zero).zK (p+4))).set j ((out.getD j Pl.zero).Dt (p+4))) j ((out.getD j Pl.zero).Dt (p+4)) ((out.getD j Pl.zero).up (p+4)) (EJ (EJ (EC (Pl.up (p+4)) out Pl.zero o))) 3 de _ rfl).trans (by rw [ae1,ae1,q2c (Pl.up (p+4)) out Pl.zero o]))
  refine dN kr ?_
  refine qe kr ?_
  refine Jb Z d ((JG∘JR∘dx 1∘Jp 1∘aH∘Jq) λa Z d=>?_)
  exact ⟨_,om,j+1,by omega,rfl,Z.sub kr,d.pk [0,1,2,3]⟩
 have hjn:abn out<=j:=by omega
 exact (JF∘JX∘JG∘bF 3∘bO) λd=>q8t (zf5 g q (by rw [L];exact D) hall) (by rw [abx]) (by have h:=d.own (i:=3) rfl;rwa [q8u hjn] at h) hco d.below
def UM {b:List Nat} (hb:∀x∈b,x<256) (h:dn b=(L,0)):∀x∈L,x.sn<=x.st/\x.st<=x.en/\x.en<=abn b:=λx d=>by
 obtain ⟨a,e⟩:=(qyr hb h).at
 obtain ⟨i,hi,rfl⟩:=List.getElem_of_mem d
 have c:=e.sn i hi
 rw [List.getD_eq_getElem?_getD,List.getElem?_eq_getElem hi] at c
 exact ⟨c.2.1,c.2.2.1,c.2.2.2.1⟩
def UN {b:List Nat} (hb:∀x∈b,x<256) (h:dn b=(L,0)):abn L<=1024:=by
 obtain ⟨a,c⟩:=(qyr hb h).at
 exact c.few
def UO (A:Option Addr) (c:Nat) (b:List Nat) (a:Nat) (w:World) (d:aT a w) (e:a<=w.heap.size) (hr:Rd w w.heap.size 1 A (abn b) (b.map B8)) (hc:abn b<=c) (f:abn b<=100000000) (g:∀z∈b,z<256) {L:List Pl} {m:Nat} (h:dn b=(L,m)):Calls abo 18 #[.slice A (abn b) c] w (ED w (L,m)):=h▸UD A c b a w d e hr hc f g
def qtd (A:Option Addr) (c:Nat) (b:List Nat) (S:Nat) (w:World) (hL:aT S w) (T:S<=w.heap.size) (hr:Rd w w.heap.size 1 A (abn b) (b.map B8)) (hc:abn b<=c) (hn:abn b<=100000000) (U:∀z∈b,z<256) (i:Int) (hIi:aW i):
    Calls abo 22 #[.slice A (abn b) c,.int .i64 i] w (zgf w b i):=by
 refine (jf Tryz.func22 54) ?_
 refine (aJ 2∘Jq) ?_
 obtain ⟨L,F,g⟩:∃L F,dn b=(L,F):=⟨_,_,rfl⟩
 have hpl:(L,F).1.length=abn L:=rfl
 refine (JG∘aJ 1∘JK (h:=by exact λd=>UO A c b S _ (hL.mem d T) (d.le T) (d.old hr) hc hn U g)) λPA pc BJ hpc=>(Jp 1∘Jx∘Jx∘bM 2∘JQ∘JB∘aJ 3∘bQ∘Jj) (Jh (λG=>?_) λG=>?_)
 ·
  exact (JT∘bF 3∘bO) λd=>NT (zeb g om) rfl om (d.pk [])
 have o:F=0:=by omega
 have W:∀x∈L,x.sn<=x.st/\x.st<=x.en/\x.en<=abn b:=UM U (by rw [g,o])
 have hLn:abn L<=1024:=UN U (by rw [g,o])
 refine (JF∘aJ 3) (Ji (λH=>?_) λH=>?_)
 ·
  exact (Jp 6∘aH∘Jj∘JT∘bF 2∘bO) λd=>NT (e:=2) (Uy (by rw [g,o]) om) rfl de (d.pk [])
 refine (Jp 2∘Jl∘Jp 3∘aH∘Jj) (Ji (λI=>?_) λI=>?_)
 ·
  exact (JT∘bF 2∘bO) λd=>NT (e:=2) (Uy (by rw [g,o]) om) rfl de (d.pk [])
 obtain ⟨j,hj⟩:∃j:Nat,i=(j:Int):=⟨i.toNat,by omega⟩
 have X:j<abn L:=by omega
 have J:=q86 (b:=b) (by rw [g,o]) hj X
 repeat (first|clear Z|clear d)
 intro a Z d
 obtain ⟨f,rfl⟩:=d.rat 0 j
 refine Jb Z d ((aU∘aJ 1∘Jq∘JC (h:=by exact λd=>d.nil 85 5)∘JC (h:=by exact λd=>(show Mem w _ (.row (.slice none 0 0) 0 [] 85 5:: .row (vS f (abn L) pc) (abn L) (L.flatMap jA) 57 4::(eX 73 []++([]))) from d))∘JG∘bN 2∘Jo (vI j) (by rw [hj])∘Jy (v:= .slice (if pc=j then some ⟨f,0,none⟩ else (some ⟨f,0,none⟩:Option Addr).map (·.add (j*4))) (abn L-j) (pc-j)) (h:=by exact aae wL (j:=j) rfl rfl rfl om)∘Jo (.slice (some ⟨f,j*4,none⟩) (abn L-j) (pc-j)) (by rw [if_neg om];simp [Addr.add];intro h;omega)∘Jl∘bM 1∘JB) λa Z d=>?_)
 refine qg (λmS aS wS=>∃(k:Nat) (q:List Hb) (K:Option Addr) (co:Nat),(k<=abn L-j)/\(kU b (L.drop j)=kU b ((L.drop j).drop k))/\(q.map acZ=kV b ((L.drop j).take k))/\(abn q<=k*1000000)/\(abn q<=co)/\mS=abn L-j-k/\Fr aS 54 [] (ahK 35 k 34 (abn L-j:Nat) [(33,.slice (some ⟨f,j*4,none⟩) (abn L-j) (pc-j)),(8,.slice K (abn q) co),(22,.bool false),(18,.bool false),(7,vI F),(6,vS f (abn L) pc),(5,vI 0),(4,.slice none 0 0),(0,.slice A (abn b) c),(1,vI i)])/\Mem w wS (.row (.slice K (abn q) co) (abn q) (q.flatMap hbL) 85 5:: .row (vS f (abn L) pc) (abn L) (L.flatMap jA) 57 4::(eX 73 q++([])))) (m:=abn L-j-0) ⟨0,[],none,0,abA _,rfl,rfl,abA _,abr _,rfl,Z.sub kr,d.pt 2 [0,1]⟩ ?_
 clear Z d;rintro mS a w_ ⟨k,q,K,co,hk,Y,hq,Kj,hco,rfl,Z,d⟩
 refine Jb Z d ((cO 1∘JQ) (Ji (λM=>?_) λM=>?_))
 ·
  have u:j+k<abn L:=by omega
  obtain ⟨x,V⟩:∃x,L.getD (j+k) Pl.zero=x:=⟨_,rfl⟩
  have hxx:=W x (by rw [<-V];exact qf Pl.zero u)
  obtain ⟨bs,er,y⟩:∃bs er,readAll (bW b x.st x.en)=(bs,er):=⟨_,_,rfl⟩
  have E:=zec (b:=b) u V
  have N:=zed (b:=b) u V
  rw [y] at E N
  refine (eO∘JP∘Jy (v:=vP f ((j+k)*4)) (h:=by exact (Yl.ix f (j*4) k 4 rfl rfl rfl om).as (by rw [Nat.add_mul]))∘Jy (v:= .agg ((L.getD (j+k) Pl.zero).cells)) (h:=by exact Pe rfl rfl mZ rfl (λ_ h=>h.zV tV (i:=1) rfl ((getD_at Pl.zero u))))∘Jo (.agg x.cells) (by rw [V])∘JA #[vI 0,vI 0,vI 0,vI 0]) λqY B=>(JV mZ aO (h1:=by exact zf6 x)) λFC=>(bQ∘Jr∘dZ mZ O0∘Jp 1∘eH #[vI x.nx,vI x.sn,vI x.st,vI x.en,.slice A (abn b) c]∘JL (h:=by exact λd=>qn9 A c b S _ (hL.mem d T) (d.le T) (d.old hr) hc hn U x hxx y)) ?_
  rintro d _ QF ⟨A1,c1,p,rfl,O,hc1,hm⟩
  have P:abn bs=abn p:=by rw [<-O,abx]
  rw [P] at hm hc1⊢
  refine ⟨_,rfl,_,aax (a:=[.blk B x.cells 57,.row (.slice K (abn q) co) (abn q) (q.flatMap hbL) 85 5,.row (vS f (abn L) pc) (abn L) (L.flatMap jA) 57 4]) (b:=eX 73 q++[]) d hm,?_⟩
  refine (Jp 1∘Jx∘Jx∘bM 2∘bN 2∘aK∘Jj) (Jh (λQ=>?_) λQ=>?_)
  ·
   exact (JT∘bF 3∘bO) λd=>NT (J.trans (Y.trans (E.trans (if_pos om)))) rfl om (d.mQ (List.nil_sublist _))
  have C:er=0:=by omega
  have hp6:abn p<=1000000:=by rw [<-P];have:=ql8 (l:=bW b x.st x.en) (by rw [y];exact C);rw [y] at this;exact this
  refine (aU∘JR∘Jp 2∘JD (p.flatMap hbL) 2 (λ_ _=>iq) yG (hr:=by exact λd=>d.rd (i:=0) rfl) (h1:=by exact Qn _)) λLJ s t D=>(Jp 1∘dY∘Jq) ?_
  have r:abn q+abn p=abn (q++p):=List.length_append.symm
  rw [r] at D
  intro a Z d
  replace d:=d.aY (i:=2) (ys:=(q++p).flatMap hbL) rfl r (List.flatMap_append.symm)
  replace Z:=Z.sp 8 (.slice s (abn (q++p)) t) rfl (iB r)
  replace d:Mem w _ (.blk B x.cells 57:: .row (.slice s (abn (q++p)) t) (abn (q++p)) ((q++p).flatMap hbL) 85 5:: .row (vS f (abn L) pc) (abn L) (L.flatMap jA) 57 4::(eX 73 (q++p)++([]))):=abd (a:=[.blk B x.cells 57,.row (.slice s (abn (q++p)) t) (abn (q++p)) ((q++p).flatMap hbL) 85 5,.row (vS f (abn L) pc) (abn L) (L.flatMap jA) 57 4]) (d.pt (fs':=(.blk B x.cells 57:: .row (.slice s (abn (q++p)) t) (abn (q++p)) ((q++p).flatMap hbL) 85 5:: .row (vS f (abn L) pc) (abn L) (L.flatMap jA) 57 4::(eX 73 p++(eX 73 q++([]))))) 4 [1,2,3])
  refine Jb Z d ((JG∘JR∘dx 1∘Jp 1∘aK∘Jq) λa Z d=>?_)
  exact ⟨_,om,k+1,(q++p),s,t,by omega,by rw [Y,E];exact if_neg (λn=>n C),by rw [List.map_append,hq,O,N],by rw [abp];omega,D,rfl,Z.sub kr,d.pt 3 [1,2]⟩
 have R:k=abn L-j:=by omega
 exact (JF∘JX∘JG∘bF 3∘bO) λd=>by exact ⟨_,_,q,0,rfl,by rw [J,Y,R,<-abC,List.drop_length];rfl,λ_=>by rw [g];show q.map acZ=kV b (L.drop i.toNat);rw [hq,R,<-abC,List.take_length,show i.toNat=j by omega],λh=>absurd rfl h,hco,qzc (d.pt (fs':=(.row (.slice K (abn q) co) (abn q) (q.flatMap hbL) 85 5::(eX 73 q++([])))) 2 [0])⟩
def zej {a:List Fact} {p:Pm} (h:Mem W w (a++(kG p++[]))):Mem W w (kG p):=by
 rw [List.append_nil] at h
 exact h.mQ (afx a _)
def q9f (A:Option Addr) (c:Nat) (b:List Nat) (s:Nat) (w:World) (D:aT s w) (y:s<=w.heap.size) (hr:Rd w w.heap.size 1 A (abn b) (b.map B8)) (hc:abn b<=c) (E:abn b<=100000000) (t:∀z∈b,z<256) (n:Int) (F:aW n):
    Calls abo 40 #[.slice A (abn b) c,vI n] w (Is w (.tuple #[vI (jZ b n).1,vI ((jZ b n).2:Int)])):=by
 refine (jf Tryz.func40 32) ?_
 refine (aJ 2∘Jq) ?_
 obtain ⟨L,l,e⟩:∃L l,dn b=(L,l):=⟨_,_,rfl⟩
 have G:(L,l).1.length=abn L:=rfl
 refine (JG∘aJ 1∘JK (h:=by exact λd=>UO A c b s _ (D.mem d y) (d.le y) (d.old hr) hc E t e)) λB pc H I=>(Jp 1∘Jx∘Jx∘bM 2∘bN 2∘aK∘Jj) (Jh (λo=>?_) λo=>?_)
 ·
  exact (JT∘bF 3∘bO) λd=>AZ (zd6 e om) rfl d.below
 have f:l=0:=by omega
 have J:∀x∈L,x.sn<=x.st/\x.st<=x.en/\x.en<=abn b:=UM t (by rw [e,f])
 have K:abn L<=1024:=UN t (by rw [e,f])
 refine (aU∘bN 1∘Jl∘Jp 1∘Jo (vI ((abn L:Int)-1)) (by exact mF ⟨by omega,by omega⟩)∘Jp 1∘dY∘Jj∘JB) λa Z d=>?_
 refine qg (λC M N=>∃(k:Nat),(k<=abn L)/\(jZ b n=EF L n k)/\C=0+k/\Fr M 32 [] [(8,vI ((k:Int)-1)),(15,.bool false),(7,vI l),(6,abk B L pc),(5,vI 0),(4,vI 0),(1,vI n)]/\Mem w N [abm B L pc jA 57 4]) (m:=0+abn L) ⟨abn L,abr _,zj5 (by rw [e,f]),rfl,Z.sub kr,d.pk [0]⟩ ?_
 clear Z d;rintro C a Q ⟨k,R,g,rfl,Z,d⟩
 refine Jb Z d ((bN 2∘aK∘Jj) (Ji (λp=>?_) λp=>?_))
 ·
  obtain ⟨j,u⟩:∃j,k=j+1:=⟨k-1,by omega⟩
  have O:j<abn L:=by omega
  have q:EF L n k=if ((L.getD j Pl.zero).nx:Int)<=n then ((j:Int),0) else EF L n j:=by rw [u];rfl
  refine (eO∘aJ 2∘Jo (vI j) (by rw [show ((k:Int)-1)=(j:Int) by omega])) ?_
  repeat (first|clear Z|clear d)
  intro a Z d
  obtain ⟨P,rfl⟩:=d.rat 0 j
  refine Jb Z d ((nU j 4∘Jf 0∘Jy (v:=vI ((L.getD j Pl.zero).nx)) (h:=by exact Pd rfl rfl kr (λ_ h=>(by have:=h.qu tV (i:=0) rfl (k:=j) (off:=0) (x:=(L.getD j Pl.zero)) ((getD_at Pl.zero O)) rfl;simpa using this)))∘Jp 2∘aH∘Jj) (Ji (λr=>?_) λr=>?_))
  ·
   exact (JT∘aJ 1∘Jo (vI j) (by rw [show ((k:Int)-1)=(j:Int) by omega])∘bM 2∘JZ∘bO) λd=>AZ (m:=0) (g.trans (q.trans (if_pos om))) rfl d.below
  refine (aU∘JR∘Jp 1∘Jo (vI j) (by rw [show ((k:Int)-1)=(j:Int) by omega])∘Jp 1∘Jo (vI ((j:Int)-1)) (by exact mF ⟨by omega,by omega⟩)∘Jp 1∘bQ∘Jq) λa Z d=>?_
  exact ⟨_,om,j,by omega,(g.trans (q.trans (if_neg om))),rfl,Z.sub kr,d.pk [0]⟩
 exact (JF∘JX∘JG∘bF 2∘bO) λd=>AZ (m:=6) (g.trans (by rw [show k=0 by omega];rfl)) rfl d.below
def qte (A:Option Addr) (c:Nat) (b:List Nat) (r:Nat) (w:World) (G:aT r w) (s:r<=w.heap.size) (hr:Rd w w.heap.size 1 A (abn b) (b.map B8)) (hc:abn b<=c) (H:abn b<=100000000) (t:∀z∈b,z<256) (i:Int) (N:aW i):
    Calls abo 20 #[.slice A (abn b) c,vI i] w (Km w b i):=by
 refine (jf Tryz.func20 37) ?_
 refine (JP∘JA aiC) λS I=>(Jp 1∘Jq) ?_
 obtain ⟨L,u,f⟩:∃L u,dn b=(L,u):=⟨_,_,rfl⟩
 have O:(L,u).1.length=abn L:=rfl
 refine (JG∘aJ 1∘JK (h:=by exact λd=>UO A c b r _ (G.mem d s) (d.le s) (d.old hr) hc H t f)) λU pc P Q=>(Jp 1∘Jx∘Jx∘bM 2∘JQ∘JB∘aJ 3∘bQ∘Jj) (Jh (λl=>?_) λl=>?_)
 ·
  refine (JT∘JP∘eH aiC∘Jp 1∘JV dP fJ) λJ=>(Jp 1∘bQ∘aP) λa Z d=>?_
  exact dI rfl Z (.cellS (i:=1) Z d rfl rfl dP rfl) (.tmp Z rfl) (Uq (zd5 f om) rfl om (d.pk []))
 have g:u=0:=by omega
 have y:∀x∈L,x.sn<=x.st/\x.st<=x.en/\x.en<=abn b:=UM t (by rw [f,g])
 have R:abn L<=1024:=UN t (by rw [f,g])
 refine (JF∘aJ 3) (Ji (λm=>?_) λm=>?_)
 ·
  refine (Jp 6∘aH∘Jj∘JT∘JP∘eH aiC∘JV dP fJ) λn=>(Jp 1∘aK∘aP) λa Z d=>?_
  exact dI rfl Z (.cellS (i:=1) Z d rfl rfl dP rfl) (.tmp Z rfl) (Uq (e:=2) (qy3 (by rw [f,g]) om) rfl de (d.pk []))
 refine (Jp 2∘Jl∘Jp 3∘aH∘Jj) (Ji (λo=>?_) λo=>?_)
 ·
  refine (JT∘JP∘eH aiC∘JV dP fJ) λn=>(Jp 1∘aK∘aP) λa Z d=>?_
  exact dI rfl Z (.cellS (i:=1) Z d rfl rfl dP rfl) (.tmp Z rfl) (Uq (e:=2) (qy3 (by rw [f,g]) om) rfl de (d.pk []))
 obtain ⟨k,K⟩:∃k:Nat,i=(k:Int):=⟨i.toNat,by omega⟩
 have j:k<abn L:=by omega
 obtain ⟨x,B⟩:∃x,L.getD k Pl.zero=x:=⟨_,rfl⟩
 have C:=y x (by rw [<-B];exact qf Pl.zero j)
 refine (aU∘aJ 2∘Jo (vI k) (by rw [K])) ?_
 repeat (first|clear Z|clear d)
 intro a Z d
 obtain ⟨q,rfl⟩:=d.rat 0 k
 refine Jb Z d ((nU k 4∘Jy (v:= .agg ((L.getD k Pl.zero).cells)) (h:=by exact Pe rfl rfl mZ rfl (λ_ h=>h.zV tV (i:=0) rfl ((getD_at Pl.zero j))))∘Jo (.agg x.cells) (by rw [B])∘Jp 1∘eH #[vI x.nx,vI x.sn,vI x.st,vI x.en,abk A b c]∘JL (h:=by exact λd=>q9d A c b r _ (G.mem d s) (d.le s) (d.old hr) hc H t x C)) ?_)
 rintro d _ D ⟨p,rfl,E,F,hm⟩
 refine ⟨_,rfl,_,(show Mem w D (.row (vS q (abn L) pc) (abn L) (L.flatMap jA) 57 4:: .blk I aiC 53::(kG p++([]))) from d.ku (T:=[]) 2 hm rfl),?_⟩
 refine (Jx∘Jx∘JV dP fJ (h1:=by exact IX p)) λM=>(Jp 1∘aH∘aP) λa Z d=>?_
 exact dI rfl Z (.cellS (i:=1) Z d rfl rfl dP rfl) (.tmp Z rfl) (zd4 (by rw [f,g]) K j B E F (zej (a:=[.row (vS q (abn L) pc) (abn L) (L.flatMap jA) 57 4,.blk I p.cells 53]) d))
def EK (n:Int) (l:aW n) (w:World):
    Calls abo 34 #[vI n] w (zf8 w n):=by
 refine (eF Tryz.func34 19) ?_
 refine (JP∘JA aiC) λq r=>(Jr∘eH #[vI 0,vI 1]∘JU jh #[vI 0,vI 1]) λs d=>(eH #[vI 1,vQ 0,vS d 1 1]∘JU kE #[vI 0]) λt f=>(JU kE #[vI 0]) λu g=>(eH #[vQ 0,vW 0,vQ 0]∘JU lV #[vQ 0,vW 0,vQ 0]) λm c=>(JU nY #[vS c 1 1]) λo b=>(eH #[vI 1,vQ 0,vS d 1 1,vS f 1 1,vS g 1 1,vN,vS b 1 1]∘JA aiD) λv x=>(JV gG aO) λh=>(aH∘bA 1∘dZ gG O0∘eH #[vI n,vI 1,vQ 0,vS d 1 1,vS f 1 1,vS g 1 1,vN,vS b 1 1]∘eH #[vB 2,vB 0,vI 0,vI 7,vN]∘JU yG #[vB 2,vB 0,vI 0,vI 7,vN]) λp e=>(eH #[vI n,vI 1,vQ 0,vS d 1 1,vS f 1 1,vS g 1 1,vN,vS b 1 1,vS e 1 1]∘JV dP uS) λj=>(iQ∘aP) λa Z k=>?_
 exact iM rfl Z (.cellS (i:=7) Z k rfl rfl dP rfl) (KH l (k.pk (fs':=[.blk d #[vI 0,vI 1] 198,.blk f #[vI 0] 3,.blk g #[vI 0] 3,.blk b #[vS c 1 1] 176,.blk c #[vQ 0,vW 0,vQ 0] 200,.blk e #[vB 2,vB 0,vI 0,vI 7,vN] 85]) [6,5,4,2,3,0]))
def qwh (B:Nat) (w:World) (a:aT B w) (b:B<=w.heap.size):Calls abo 16 #[vN] w (zr w 0 mD):=by
 have h:=UY none 0 [] B w a b Rd.nil (λp c=>by cases c) (abr _) (abA _)
 rwa [show nR (List.map Pm.v [])=(mD,0) from Bg.1] at h
def q9h (A:Option Addr) (c:Nat) (p:Pm) (hs:gP (kS 1) p.z) (a:p.q.map acZ=[kJ 7]) (B:Nat) (w:World) (d:aT B w) (e:B<=w.heap.size) (hr:Rd w w.heap.size 9 A 1 ([p].flatMap kF)) (f:∀x∈[p],iy x/\gu w x) (hc:1<=c):Calls abo 16 #[.slice A 1 c] w (zr w 0 dJ):=by
 have h:=UY A c [p] B w d e hr f hc (by show 1<=100000;decide)
 rwa [show nR (List.map Pm.v [p])=(dJ,0) from (q8x (.cons (oo hs a) .nil)).trans zd8] at h
def q2l (A:Option Addr) (c:Nat) (p q:Pm) (hs:gP (kS 1) p.z) (e:p.q.map acZ=[kJ 7]) (a:gP (kS 0) q.z) (d:q.q.map acZ=[kJ 7]) (B:Nat) (w:World) (f:aT B w) (g:B<=w.heap.size) (hr:Rd w w.heap.size 9 A 2 ([p,q].flatMap kF)) (h:∀x∈[p,q],iy x/\gu w x) (hc:2<=c):Calls abo 15 #[.slice A 2 c] w (Is w (.tuple #[vI 1,vI 330])):=
 UU A c [p,q] B w f g hr h hc (by show 2<=1000000;decide) ((Ur (.cons (oo hs e) (.cons (oo a d) .nil))).trans Ko)
def qtf (A:Option Addr) (c:Nat) (p q s:Pm) (hs:gP (kS 1) p.z) (g:p.q.map acZ=[kJ 7]) (a:gP (kS 5) q.z) (d:q.q.map acZ=[kJ 7]) (e:gP (kS 4) s.z) (f:s.q.map acZ=[kJ 7]) (B:Nat) (w:World) (h:aT B w) (i:B<=w.heap.size) (hr:Rd w w.heap.size 9 A 3 ([p,q,s].flatMap kF)) (j:∀x∈[p,q,s],iy x/\gu w x) (hc:3<=c):Calls abo 15 #[.slice A 3 c] w (Is w (.tuple #[vI 2,vI 411])):=
 UU A c [p,q,s] B w h i hr j hc (by show 3<=1000000;decide) ((Ur (.cons (oo hs g) (.cons (oo a d) (.cons (oo e f) .nil)))).trans Kq)
def q9i (A:Option Addr) (c:Nat) (B:Nat) (w:World) (a:aT B w) (b:B<=w.heap.size) (hr:Rd w w.heap.size 1 A 39 (dJ.map B8)) (hc:39<=c):Calls abo 18 #[.slice A 39 c] w (ED w ([⟨1,11,26,39⟩],0)):=by
 have h:=UD A c dJ B w a b (by rw [qF];exact hr) (by rw [qF];exact hc) (by rw [qF];decide) sG
 rwa [qF,zgb] at h
def q2m (A:Option Addr) (c:Nat) (B:Nat) (w:World) (a:aT B w) (b:B<=w.heap.size) (hr:Rd w w.heap.size 1 A 40 ((dJ++[0]).map B8)) (hc:40<=c):Calls abo 18 #[.slice A 40 c] w (ED w ([],410)):=by
 have e:abn (dJ++[0])=40:=by rw [abp,qF];rfl
 have h:=UD A c (dJ++[0]) B w a b (by rw [e];exact hr) (by rw [e];exact hc) (by rw [e];decide) zne
 rwa [e,zko] at h
theorem qzd (A:Option Addr) (c:Nat) (B:Nat) (w:World) (a:aT B w) (b:B<=w.heap.size) (hr:Rd w w.heap.size 1 A 39 (dJ.map B8)) (hc:39<=c) {n v:Int} {e:Nat} (d:aW n) (f:jZ dJ n=(v,e)):Calls abo 40 #[.slice A 39 c,vI n] w (Is w (.tuple #[vI v,vI e])):=by
 have h:=q9f A c dJ B w a b (by rw [qF];exact hr) (by rw [qF];exact hc) (by rw [qF];decide) sG n d
 rwa [qF,f] at h
theorem q9j (A:Option Addr) (c:Nat) (B:Nat) (w:World) (a:aT B w) (b:B<=w.heap.size) (hr:Rd w w.heap.size 1 A 39 (dJ.map B8)) (hc:39<=c):Calls abo 20 #[.slice A 39 c,vI 0] w (KM w):=by
 have h:=qte A c dJ B w a b (by rw [qF];exact hr) (by rw [qF];exact hc) (by rw [qF];decide) sG 0 (by unfold aW;decide)
 rw [qF] at h
 exact h.mono λ_ _=>zkr
def q9k (A:Option Addr) (c:Nat) (B:Nat) (w:World) (a:aT B w) (b:B<=w.heap.size) (hr:Rd w w.heap.size 1 A 39 (dJ.map B8)) (hc:39<=c):Calls abo 20 #[.slice A 39 c,vI 1] w (λr d=>∃p:Pm,r= .returned (.tuple #[.agg p.cells,vI 2])/\Below w.heap.size w d):=by
 have h:=qte A c dJ B w a b (by rw [qF];exact hr) (by rw [qF];exact hc) (by rw [qF];decide) sG 1 (by unfold aW;decide)
 rw [qF] at h
 exact h.mono λ_ _=>zei
abbrev ah4:=λa b c d e f g h i j k l=>(.row (vS a 1 b) 1 c 85 5::.row (vS d 1 e) 1 ([(⟨1,11,26,39⟩:Pl)].flatMap jA) 57 4::.row (.slice f 39 g) 39 (dJ.map B8) 5 1::.blk h i 53::.row (.slice j 8 k) 8 (mD.map B8) 5 1::l:List Fact)
def qwi (B:Nat) (w:World) (I:aT B w) (s:B<=w.heap.size):
    Calls abo 13 #[] w (Is w (.bool true)):=by
 refine (JN0 Tryz.func13 172) ?_
 refine (aJ 1∘Jr∘JK (h:=by exact λm=>qwh B _ (I.mem m s) (m.le s))) λC t OT L=>?_
 replace L:8<=t:=L
 refine (Jp 1∘Jx∘Jx∘Jp 2∘Jr∘JL (h:=by exact λm=>EK 1 (by unfold aW;decide) _)) ?_
 rintro m _ M0 ⟨D,rfl,U5,U6,U7,hm⟩
 refine ⟨_,rfl,_,(show Mem w M0 (.row (.slice C 8 t) 8 (mD.map B8) 5 1::(kG D++([]))) from m.ku (T:=[]) 1 hm rfl),?_⟩
 refine (JU qD D.cells) λHl F=>(JK (h:=by exact λm=>q9h (some ⟨F,0,none⟩) 1 D U5 U6 B _ (I.mem m s) (m.le s) (m.bB (i:=0) (n:=1) (size:=9) rfl rfl) (zkl U7 (m.UQ 2 rfl)) de)) λp o FH r=>?_
 replace r:39<=o:=r
 refine (Jp 1∘Jx∘Jx∘Jp 2∘Jq∘JC (h:=by exact λm=>(show Mem w _ [.row (.slice p 39 o) 39 (dJ.map B8) 5 1,.blk F D.cells 53,.row (.slice C 8 t) 8 (mD.map B8) 5 1] from m.mQ (aeg _ _)))∘JG∘aJ 1∘JK (h:=by exact λm=>q9i p o B _ (I.mem m s) (m.le s) (m.rd (i:=0) rfl) r)) λA33 J LH atu=>(Jp 1∘Jx∘Jx∘Jp 2∘bA 1∘JI (h:=by exact λm=>qzd p o B _ (I.mem m s) (m.le s) (m.rd (i:=1) rfl) r (by unfold aW;decide) KJ.1)) λXl E=>(Jp 1∘Jx∘Jx∘Jp 2∘bA 1∘JI (h:=by exact λm=>qzd p o B _ (I.mem m s) (m.le s) (m.rd (i:=1) rfl) r (by unfold aW;decide) KJ.2.1)) λQF E=>(Jp 1∘Jx∘Jx∘Jp 2∘aH∘bA 1∘JL (h:=by exact λm=>q9j p o B _ (I.mem m s) (m.le s) (m.rd (i:=1) rfl) r)) ?_
 rintro m _ BU ⟨z,M,cl,hx,rfl,hxb,hm⟩
 refine ⟨_,rfl,_,m.join hm,?_⟩
 refine (Jp 1∘Jx∘Jx∘JA #[vI 0,vI 0,vQ 0,vN,vN,vN,vN,vN,vN]) λuV K=>(JV dP aO) λatv=>(Jp 1∘bA 1∘JL (h:=by exact λm=>q9k p o B _ (I.mem m s) (m.le s) (m.rd (i:=3) rfl) r)) ?_
 rintro m _ Xo ⟨y,rfl,E⟩
 refine ⟨_,rfl,_,m.call E,?_⟩
 refine (Jp 1∘Jx∘Jx∘JA #[vI 0,vI 0,vQ 0,vN,vN,vN,vN,vN,vN]) λuY P=>(JV dP aO (h1:=by exact IX y)) λP5=>(Jp 1∘aH∘Jj∘JQ∘JP∘Jv 20 [(75,.slice C 8 t),(74,.bool false)]∘Jl∘Jv 4 [(80,.slice C 8 t),(79,.bool false)]∘Jy (h:=by exact aag bn (j:=4) rfl rfl rfl om)∘Jy (h:=by exact aaz rfl rfl (λ_ h=>zkq (h.rd (i:=6) rfl) rfl))∘Jp 3) (Ju (λG=>?_) λG=>?_)
 ·
  rw [show ((jM [113,97,1,0]).toList==(aby #[113,97,1,0]).toList)=true from Wy [113,97,1,0]] at G;cases G
 refine (Jp 1∘Jl∘Jv 4 [(91,.slice p 39 o),(90,.bool false)]∘Jy (h:=by exact aag bn (j:=7) rfl rfl rfl om)∘Jy (h:=by exact aaz rfl rfl (λ_ h=>zkp (h.rd (i:=4) rfl) rfl))∘Jp 3) (Ju (λH=>?_) λH=>?_)
 ·
  rw [show ((jM [113,97,1,1,1,15,13]).toList==(aby #[113,97,1,1,1,15,13]).toList)=true from Wy [113,97,1,1,1,15,13]] at H;cases H
 refine (Jp 1∘Jl∘Jv 4 [(102,.slice A33 1 J),(101,.bool false)]) ?_
 repeat (first|clear Z|clear m)
 intro a Z m
 obtain ⟨u,rfl⟩:=m.rat 3 0 (hk:=show 0<1 from by omega)
 refine Jb Z m ((Jy (v:=vP u 0) (h:=by exact Yl.indexAddr (ad:=⟨u,0,none⟩) (y:=0) (sz:=4) rfl rfl rfl om kr)∘Jy (v:= .agg ((⟨1,11,26,39⟩:Pl).cells)) (h:=by exact Pe rfl rfl mZ rfl (λ_ h=>h.zV tV (i:=3) rfl ((show [(⟨1,11,26,39⟩:Pl)][0]?=some _ from rfl))))∘eH #[vI 1,vI 11,vI 26,vI 39]∘Jy (v:= .bool false) (h:=by exact aaJ (b:=true) rfl rfl rfl KN)∘Jv 6 [(112,.bool false)]∘Jf 0∘Jg 0 O1∘Jv 3 [(118,.bool false)]∘Jg 8 O1∘Jl∘Jv 3 [(124,.bool false)]∘Jg 8 O1∘Jy (v:=vP M 0) (h:=by exact Yl.indexAddr (ad:=⟨M,0,none⟩) (y:=0) (sz:=5) rfl rfl rfl om kr)∘Jf 3∘Jy (v:=vI hx.b.next) (h:=by exact Pd rfl rfl kr (λ_ h=>h.qu F7 (i:=2) rfl (k:=0) (off:=3) (x:=hx) ((show [hx][0]?=some _ from rfl)) rfl))∘Jo (vI 7) (by rw [hxb];try rfl)∘Jv 2 [(131,.bool false)]∘aH∘Jq) λa Z m=>?_)
 replace Z:=Z.to [(131,.bool false),(11,vP K 0),(3,.slice p 39 o),(0,.bool false)]
 refine Jb Z m ((JG∘aU∘JP∘JL (h:=by exact λm=>EK 1 (by unfold aW;decide) _)) ?_)
 rintro m _ U8 ⟨e,rfl,Q,R,S,hm⟩
 refine ⟨_,rfl,_,(show Mem w U8 (.blk P y.cells 53::.blk K #[vI 1,vI z.au,vQ z.aj,abk z.gA z.gs z.gc,abk z.lA z.cl z.lc,abk z.uA z.cu z.uc,abk z.tA z.ts z.tc,abk z.sA z.rs z.sc,vS M 1 cl] 53::ah4 M cl ([hx].flatMap hbL) u J p o F D.cells C t (kG e++([]))) from m.ku (T:=[]) 7 hm rfl),?_⟩
 refine (JL (h:=by exact λm=>EK 0 (by unfold aW;decide) _)) ?_
 rintro m _ CW ⟨g,rfl,U,V,W,hm⟩
 refine ⟨_,rfl,_,(show Mem w CW (.blk P y.cells 53::.blk K #[vI 1,vI z.au,vQ z.aj,abk z.gA z.gs z.gc,abk z.lA z.cl z.lc,abk z.uA z.cu z.uc,abk z.tA z.ts z.tc,abk z.sA z.rs z.sc,vS M 1 cl] 53::ah4 M cl ([hx].flatMap hbL) u J p o F D.cells C t (kG g++(kG e++([])))) from m.ku (T:=kG e++([])) 7 hm rfl),?_⟩
 refine (JU qD #[vI e.z.next,vI e.z.st.au,vQ e.z.st.aj,abk e.z.st.gA e.z.st.gs e.z.st.gc,abk e.z.st.lA e.z.st.cl e.z.st.lc,abk e.z.st.uA e.z.st.cu e.z.st.uc,abk e.z.st.tA e.z.st.ts e.z.st.tc,abk e.z.st.sA e.z.st.rs e.z.st.sc,abk e.A e.q e.c,vI g.z.next,vI g.z.st.au,vQ g.z.st.aj,abk g.z.st.gA g.z.st.gs g.z.st.gc,abk g.z.st.lA g.z.st.cl g.z.st.lc,abk g.z.st.uA g.z.st.cu g.z.st.uc,abk g.z.st.tA g.z.st.ts g.z.st.tc,abk g.z.st.sA g.z.st.rs g.z.st.sc,abk g.A g.q g.c]) λatw N=>(JI (h:=by exact λm=>q2l (some ⟨N,0,none⟩) 2 e g Q R U V B _ (I.mem m s) (m.le s) (m.bB (i:=0) (n:=2) (size:=9) rfl rfl) (zkm S (m.KI 8 rfl) W (m.UQ 8 rfl)) de)) λatx E=>(Jp 1∘Jx∘Jx∘Jp 2∘Jq∘JC (h:=by exact λm=>(show Mem w _ (.blk N #[vI e.z.next,vI e.z.st.au,vQ e.z.st.aj,abk e.z.st.gA e.z.st.gs e.z.st.gc,abk e.z.st.lA e.z.st.cl e.z.st.lc,abk e.z.st.uA e.z.st.cu e.z.st.uc,abk e.z.st.tA e.z.st.ts e.z.st.tc,abk e.z.st.sA e.z.st.rs e.z.st.sc,abk e.A e.q e.c,vI g.z.next,vI g.z.st.au,vQ g.z.st.aj,abk g.z.st.gA g.z.st.gs g.z.st.gc,abk g.z.st.lA g.z.st.cl g.z.st.lc,abk g.z.st.uA g.z.st.cu g.z.st.uc,abk g.z.st.tA g.z.st.ts g.z.st.tc,abk g.z.st.sA g.z.st.rs g.z.st.sc,abk g.A g.q g.c] 53::.blk P y.cells 53::.blk K #[vI 1,vI z.au,vQ z.aj,abk z.gA z.gs z.gc,abk z.lA z.cl z.lc,abk z.uA z.cu z.uc,abk z.tA z.ts z.tc,abk z.sA z.rs z.sc,vS M 1 cl] 53::ah4 M cl ([hx].flatMap hbL) u J p o F D.cells C t []) from m.mQ (aeg _ _)))∘JC (h:=by exact λm=>m.pk [5])∘JG∘JP∘JL (h:=by exact λm=>EK 1 (by unfold aW;decide) _)) ?_
 rintro m _ U9 ⟨d,rfl,X,Y,KO,hm⟩
 refine ⟨_,rfl,_,(show Mem w U9 (.row (.slice p 39 o) 39 (dJ.map B8) 5 1::(kG d++([]))) from m.ku (T:=[]) 1 hm rfl),?_⟩
 refine (JL (h:=by exact λm=>EK 5 (by unfold aW;decide) _)) ?_
 rintro m _ CO ⟨f,rfl,KP,KQ,KR,hm⟩
 refine ⟨_,rfl,_,(show Mem w CO (.row (.slice p 39 o) 39 (dJ.map B8) 5 1::(kG f++(kG d++([])))) from m.ku (T:=kG d++([])) 1 hm rfl),?_⟩
 refine (JL (h:=by exact λm=>EK 4 (by unfold aW;decide) _)) ?_
 rintro m _ Ve ⟨l,rfl,KS,KT,KU,hm⟩
 refine ⟨_,rfl,_,(show Mem w Ve (.row (.slice p 39 o) 39 (dJ.map B8) 5 1::(kG l++(kG f++(kG d++([]))))) from m.ku (T:=kG f++(kG d++([]))) 1 hm rfl),?_⟩
 refine (JU qD #[vI d.z.next,vI d.z.st.au,vQ d.z.st.aj,abk d.z.st.gA d.z.st.gs d.z.st.gc,abk d.z.st.lA d.z.st.cl d.z.st.lc,abk d.z.st.uA d.z.st.cu d.z.st.uc,abk d.z.st.tA d.z.st.ts d.z.st.tc,abk d.z.st.sA d.z.st.rs d.z.st.sc,abk d.A d.q d.c,vI f.z.next,vI f.z.st.au,vQ f.z.st.aj,abk f.z.st.gA f.z.st.gs f.z.st.gc,abk f.z.st.lA f.z.st.cl f.z.st.lc,abk f.z.st.uA f.z.st.cu f.z.st.uc,abk f.z.st.tA f.z.st.ts f.z.st.tc,abk f.z.st.sA f.z.st.rs f.z.st.sc,abk f.A f.q f.c,vI l.z.next,vI l.z.st.au,vQ l.z.st.aj,abk l.z.st.gA l.z.st.gs l.z.st.gc,abk l.z.st.lA l.z.st.cl l.z.st.lc,abk l.z.st.uA l.z.st.cu l.z.st.uc,abk l.z.st.tA l.z.st.ts l.z.st.tc,abk l.z.st.sA l.z.st.rs l.z.st.sc,abk l.A l.q l.c]) λaty O=>(JI (h:=by exact λm=>qtf (some ⟨O,0,none⟩) 3 d f l X Y KP KQ KS KT B _ (I.mem m s) (m.le s) (m.bB (i:=0) (n:=3) (size:=9) rfl rfl) (zkn KO (m.UR 2 rfl) KR (m.KI 2 rfl) KU (m.UQ 2 rfl)) de)) λCP E=>(Jp 1∘Jx∘Jx∘Jp 2∘Jq∘JC (h:=by exact λm=>(show Mem w _ [.blk O #[vI d.z.next,vI d.z.st.au,vQ d.z.st.aj,abk d.z.st.gA d.z.st.gs d.z.st.gc,abk d.z.st.lA d.z.st.cl d.z.st.lc,abk d.z.st.uA d.z.st.cu d.z.st.uc,abk d.z.st.tA d.z.st.ts d.z.st.tc,abk d.z.st.sA d.z.st.rs d.z.st.sc,abk d.A d.q d.c,vI f.z.next,vI f.z.st.au,vQ f.z.st.aj,abk f.z.st.gA f.z.st.gs f.z.st.gc,abk f.z.st.lA f.z.st.cl f.z.st.lc,abk f.z.st.uA f.z.st.cu f.z.st.uc,abk f.z.st.tA f.z.st.ts f.z.st.tc,abk f.z.st.sA f.z.st.rs f.z.st.sc,abk f.A f.q f.c,vI l.z.next,vI l.z.st.au,vQ l.z.st.aj,abk l.z.st.gA l.z.st.gs l.z.st.gc,abk l.z.st.lA l.z.st.cl l.z.st.lc,abk l.z.st.uA l.z.st.cu l.z.st.uc,abk l.z.st.tA l.z.st.ts l.z.st.tc,abk l.z.st.sA l.z.st.rs l.z.st.sc,abk l.A l.q l.c] 53,.row (.slice p 39 o) 39 (dJ.map B8) 5 1] from m.mQ (aeg _ _)))∘JC (h:=by exact λm=>m.pk [1])∘JG∘aJ 1∘JU bn #[vB 0]) λatz atA=>(JD ([0].map B8) 1 (λ_ _=>fJ) bn (hr:=by exact λm=>m.bB (i:=0) (n:=1) (size:=1) rfl rfl) (h1:=by decide)) λatB Vg Vh hc150=>(JL (h:=by exact λm=>q2m Vg Vh B _ (I.mem m s) (m.le s) (m.rd (i:=1) rfl) hc150)) ?_
 rintro m _ atC ⟨⟨atD,atE,rfl,_,_⟩,E⟩
 refine ⟨_,rfl,_,m.call E,?_⟩
 exact (Jp 1∘Jx∘Jx∘Jp 2∘aH∘Jr∘Jv 19 [(0,.bool true)]∘aH∘aP) uj
def KV {P:Program} {f:Nat} {args:Array Value} {b c:Bool} (h:Calls P f args w (Is w (.bool b))) (e:b=c):Calls P f args w (Is w (.bool c)):=e▸h
theorem Mem.Bh {F S:List Fact} {q:List Pm} (h:Mem W w F) (n:Nat) (a:F.drop n=S++gB q):∀p∈q,gu w p:=h.znn λ_ b=>abL (a▸List.mem_append_right _ b)
def abg {a b m:List Fact} (h:Mem W w (a++(m++b))):Mem W w (a++b):=h.mQ (ahn (afx m b) a)
theorem Mem.zM {F:List Fact} {q:List Pm} (h:Mem W w F) (n:Nat) (a:F.drop n=gB q):∀p∈q,gu w p:=h.znn λ_ b=>abL (a▸b)
def q9l {bs:List Nat} (A:Option Addr) (c:Nat) (l:List Pm) (B:Nat) (w:World) (d:aT B w) (e:B<=w.heap.size) (hr:Rd w w.heap.size 9 A (abn l) (l.flatMap kF)) (f:∀p∈l,gu w p) (hc:abn l<=c) (g:abn l<=100000) (a:l8 l L bs):Calls abo 16 #[.slice A (abn l) c] w (zr w 0 bs):=by
 have k:=UY A c l B w d e hr (λp b=>⟨a.ok p b,f p b⟩) hc g
 rw [a.wr.wr] at k
 exact k
section
variable {q:List Pm} {L:List Pl} {bs:List Nat} {k m:Nat} {V:List Hb}
def zku (e:ji q k=V) (h:∀p∈q,gu w p):lC w V:=λy a=>by
 subst e
 obtain ⟨p,b,c⟩:=acw.1 a
 exact (h p (abL b)).ev y c
def zkv (h:l8 q L bs) (e:ji q k=V) (hm:m<abn V):(V.getD m Hb.zero).b.evs.length<=1000000:=by
 subst e
 obtain ⟨p,a,c⟩:=acw.1 (qf Hb.zero hm)
 exact (h.ok p (abL a)).TD _ c
def zkw (h:l8 q L bs) (hk:k<abn q) (A:Option Addr) (c a:Nat) (w:World) (i:aT a w) (j:a<=w.heap.size) (hr:Rd w w.heap.size 1 A (abn bs) (bs.map B8)) (hc:abn bs<=c) (u:abn q<=1000):Calls abo 22 #[.slice A (abn bs) c,vI k] w λr f=>∃(A:Option Addr) (c:Nat) (p:List Hb),r= .returned (.tuple #[.slice A (abn p) c,vI 0])/\p.map acZ=(ji q k).map acZ/\abn p<=c/\Mem w f (.row (.slice A (abn p) c) (abn p) (p.flatMap hbL) 85 5::eX 73 p):=by
 refine (qtd A c bs a w i j hr hc (by have:=h.wr.few;omega) h.lt (k:Int) (by unfold aW;omega)).mono ?_
 rintro r f ⟨l,n,p,e,rfl,g,o,_,d,hm⟩
 obtain ⟨s,t⟩:=q89 h hk rfl
 rw [s] at g
 subst g
 exact ⟨l,n,p,rfl,(o rfl).trans t,d,hm⟩
def zen (h:l8 q L bs) (A:Option Addr) (c a:Nat) (w:World) (f:aT a w) (g:a<=w.heap.size) (hr:Rd w w.heap.size 1 A (abn bs) (bs.map B8)) (hc:abn bs<=c) (n:abn q<=1000):Calls abo 22 #[.slice A (abn bs) c,vI (abn q:Int)] w λr b=>(∃(A:Option Addr) (c:Nat),r= .returned (.tuple #[.slice A 0 c,vI 2]))/\Below w.heap.size w b:=by
 refine (qtd A c bs a w f g hr hc (by have:=h.wr.few;omega) h.lt (abn q:Int) (by unfold aW;omega)).mono ?_
 rintro r b ⟨i,j,p,e,rfl,d,_,l,_,hm⟩
 rw [q9a h rfl] at d
 subst d
 obtain rfl:=l de
 exact ⟨⟨i,j,rfl⟩,hm.below⟩
end
def qj1 (A:Option Addr) (c:Nat) (l:List Ap) (B:Nat) (w:World) (hL:aT B w) (C:B<=w.heap.size) (hr:Rd w w.heap.size 16 A (abn l) (l.flatMap EH)) (hP:∀x∈l,lM w x) (hc:abn l<=c) (hn:abn l<=9223372036854775807):
    Calls abo 12 #[.slice A (abn l) c] w (Is w (.bool true)):=by
 refine (eF Tryz.func12 88) ?_
 refine (cO 1∘JQ∘JP∘JI (h:=by exact λd=>qwi B _ (hL.mem d C) (d.le C))) λFV F=>(Jp 1∘aK∘Jj∘aU∘aJ 1∘JL (h:=by exact λd=>q2i A c l _ (d.old hr) (λx J=>(hP x J).old d) hc hn)) ?_
 rintro d _ uW ⟨Aq,s,q,rfl,K,hqc,hm⟩
 refine ⟨_,rfl,_,(show Mem w uW (abm Aq q s kF 53 9::gB q) from aaN d hm),?_⟩
 refine (Jp 1∘Jx∘Jx∘Jp 2∘Jq) ?_
 have Kj:=K.1
 have h4:abn (l.take 4)<=4/\abn (l.take 4)<=abn l:=by rw [abv];omega
 obtain ⟨L,bs,G⟩:=zna K h4.2 h4.1 hP
 have hbl:=G.wr.few
 have hq4:abn q<=4:=by omega
 refine (JG∘aJ 1∘JK (h:=by exact λd=>q9l Aq s q B _ (hL.mem d C) (d.le C) (d.rd (i:=0) rfl) (d.zM 1 rfl) hqc om G)) λt u LG M=>(Jp 1∘Jx∘Jx∘bM 2∘JQ∘JP∘Jv 6 [(31,.bool false)]∘aK∘Jj∘aU∘cO 1∘bN 1∘Jl∘Jp 1∘Jo (vI ((abn q:Int)-1)) (by exact mF ⟨by omega,by omega⟩)∘Jp 1∘dY∘Jq∘JC (h:=by exact λd=>d.nil 85 5)∘JG∘JB) λa Z d=>?_
 refine qg (λN aS wS=>∃(i:Int) (j:Nat) (W:List Hb) (D:Option Addr) (co:Nat),(i+1=(j:Int))/\(j<=abn q)/\(W=ji q j)/\(abn W<=co)/\N=0+j/\Fr aS 88 [] [(8,vI i),(7,abk D W co),(31,.bool false),(5,abk t bs u),(3,abk Aq q s),(15,.bool false),(2,.bool false)]/\Mem w wS (abm D W co hbL 85 5:: abl t bs u B8 5 1:: abm Aq q s kF 53 9::gB q)) (m:=0+abn q) ⟨((abn q:Int)-1),abn q,[],none,0,by omega,abr _,qtc.symm,abr _,rfl,Z.sub kr,d.pt 3 [0,1,2]⟩ ?_
 clear Z d;rintro N a w_ ⟨i,j,W,D,co,hij,hjq,hW,hco,rfl,Z,d⟩
 refine Jb Z d ((bN 2∘aK∘Jj) (Ji (λO=>?_) λO=>?_))
 ·
  obtain ⟨k,hk⟩:∃k:Nat,i=(k:Int):=⟨i.toNat,by omega⟩
  have hjk:j=k+1:=by omega
  have y:k<abn q:=by omega
  obtain ⟨x,J⟩:∃x,q.getD k Pm.zero=x:=⟨_,rfl⟩
  have P:x∈q:=by rw [<-J];exact qf Pm.zero y
  have hxl:=(G.ok x P).len
  have z:ji q k=x.q++W:=by rw [qza y,J,hW,hjk]
  have hWl:=q88 (j:=j) λp hp=>(G.ok p hp).len
  rw [<-hW] at hWl
  refine (eO∘JP) λa Z d=>?_
  refine fo Z 0 rfl rfl ?_
  refine E5 Z d rfl yG rfl de ?_
  clear Z d;intro a HV g39 Z d
  refine Jb Z d ((Jp 2∘Jo (vI k) (by rw [hk])) ?_)
  repeat (first|clear Z|clear d)
  intro a Z d
  obtain ⟨r,rfl⟩:=d.rat 3 k
  refine Jb Z d ((nU k 9∘Jf 8∘Jy (v:= .slice ((q.getD k Pm.zero).A) ((q.getD k Pm.zero).q.length) ((q.getD k Pm.zero).c)) (h:=by exact Pd rfl rfl kr (λ_ h=>h.qu TB (i:=3) rfl (k:=k) (off:=8) (x:=(q.getD k Pm.zero)) ((getD_at Pm.zero y)) rfl))∘Jo (.slice x.A (abn x.q) x.c) (by rw [J])∘JD (x.q.flatMap hbL) 0 (λ_ _=>aO) yG (hr:=by exact λd=>((d.Bh (S:=[]) 4 rfl) x P).bl) (h1:=by exact Qn _)) λw45 A45 c45 Q=>?_)
  have f:0+abn x.q=abn x.q:=by simp
  rw [f] at Q
  refine (JC (h:=by exact λd=>d.aY (i:=0) (ys:=x.q.flatMap hbL) rfl f (by simp))∘Jk 45 (.slice A45 (abn x.q) c45) (h:=by exact iB f)∘Jp 1∘JD (W.flatMap hbL) 0 (λ_ _=>aO) yG (hr:=by exact λd=>d.rd (i:=1) rfl) (h1:=by exact Qn _)) λw47 g e R=>?_
  have o:abn x.q+abn W=abn (x.q++W):=by simp
  rw [o] at R
  refine (JC (h:=by exact λd=>d.aY (i:=0) (ys:=(x.q++W).flatMap hbL) rfl o (by simp))∘Jk 47 (.slice g (abn (x.q++W)) e) (h:=by exact iB o)∘Jp 1∘aH∘bA 2∘Jo (vI k) (by rw [hk])∘JL (h:=by exact λd=>zkw G y t u B _ (hL.mem d C) (d.le C) (d.rd (i:=2) rfl) M om)) ?_
  rintro d _ LJ ⟨A1,T,p,rfl,H,hc1,hm⟩
  rw [z] at H
  refine ⟨_,rfl,_,aax (a:=[abm g (x.q++W) e hbL 85 5,abm D W co hbL 85 5,abl t bs u B8 5 1,.row (vS r (abn q) s) (abn q) (q.flatMap kF) 53 9]) (b:=gB q) d hm,?_⟩
  refine (Jp 1∘Jx∘Jx∘Jp 2∘Jq) ?_
  have hpl:abn p=abn (x.q++W):=by have h:=congrArg adZ H;rwa [abx,abx] at h
  refine (JG∘JQ∘JP∘Jv 2 [(55,.bool false)]∘Jo (.bool false) (by simp)∘Jp 2∘Jl∘Jp 1∘Jl∘Jp 2∘aH∘Jj) (Jh (λU=>?_) λU=>?_)
  ·
   intro a Z d
   exfalso;omega
  refine (aU∘aJ 1∘Jl∘bM 1∘JB) λa Z d=>?_
  refine qg (λN aS wS=>∃(m:Nat),(m<=abn (x.q++W))/\N=abn (x.q++W)-m/\Fr aS 88 [] (ahK 65 m 64 (abn (x.q++W):Nat) [(62,.bool false),(10,vI 0),(9,abk A1 p T),(7,abk g (x.q++W) e),(36,.bool true),(8,vI i),(31,.bool false),(5,abk t bs u),(3,vS r (abn q) s),(15,.bool false),(2,.bool false)])/\Mem w wS (abm A1 p T hbL 85 5:: abm g (x.q++W) e hbL 85 5:: abm D W co hbL 85 5:: abl t bs u B8 5 1:: .row (vS r (abn q) s) (abn q) (q.flatMap kF) 53 9::(eX 73 p++(gB q)))) (m:=abn (x.q++W)-0) ⟨0,abA _,rfl,Z.sub kr,d.pt 5 [0,1,2,3,4]⟩ ?_
  clear Z d;rintro N a w_ ⟨m,hm,rfl,Z,d⟩
  refine Jb Z d ((cO 1∘JQ) (Ji (λX=>?_) λX=>?_))
  ·
   have I:m<abn (x.q++W):=by omega
   have Y:(p.getD m Hb.zero).b=((x.q++W).getD m Hb.zero).b:=Ga H om
   have hpn:(p.getD m Hb.zero).b.evs.length<=1000000:=by rw [Y];exact zkv G z I
   refine (eO∘aJ 2∘aK∘Jj) λa Z d=>?_
   refine wp_seq ?_
   refine Jb Z d ((Vs .n []) λBO=>(Vp [0,1,4,5]) ?_)
   repeat (first|clear Z|clear d|clear HS)
   intro a Z d HS
   obtain ⟨gA1,rfl⟩:=d.rat 0 m
   refine Vb Z d HS ((Vy 2 (h:=by exact Yl.iK gA1 m 5 rfl rfl rfl)∘Vy 3 (v:= .agg ((p.getD m Hb.zero).b.cells (p.getD m Hb.zero).A (p.getD m Hb.zero).c)) (h:=by exact Pe rfl rfl aG rfl (λ_ h=>h.zV F7 (i:=0) rfl ((getD_at Hb.zero om))))) ?_)
   repeat (first|clear Z|clear d|clear HS)
   intro a Z d HS
   obtain ⟨E,rfl⟩:=d.rat 1 m
   refine Vb Z d HS ((Vy 6 (h:=by exact Yl.iK E m 5 rfl rfl rfl)∘Vy 7 (v:= .agg (((x.q++W).getD m Hb.zero).b.cells ((x.q++W).getD m Hb.zero).A ((x.q++W).getD m Hb.zero).c)) (h:=by exact Pe rfl rfl aG rfl (λ_ h=>h.zV F7 (i:=1) rfl ((getD_at Hb.zero I))))∘VI 8 .n (h:=by exact λd=>KV (zbj (p.getD m Hb.zero).b ((x.q++W).getD m Hb.zero).b ((p.getD m Hb.zero).A) (((x.q++W).getD m Hb.zero).A) (p.getD m Hb.zero).c ((x.q++W).getD m Hb.zero).c _ (lC.at (aa0 (a:=[.row (vS gA1 (abn p) T) (abn p) (p.flatMap hbL) 85 5,.row (vS E (abn (x.q++W)) e) (abn (x.q++W)) ((x.q++W).flatMap hbL) 85 5,abm D W co hbL 85 5,abl t bs u B8 5 1,.row (vS r (abn q) s) (abn q) (q.flatMap kF) 53 9]) d) om) (lC.at (zku z (d.Bh (S:=eX 73 p) 5 rfl)) I) hpn) (decide_eq_true Y))) λw76 F=>(Vp [9]∘Vd∘aH∘aU∘JR∘dx 1∘Jp 1∘aK∘Jq) λa Z d=>?_)
   exact ⟨_,om,m+1,by omega,rfl,Z.sub kr,d.pt 5 [0,1,2,3,4]⟩
  intro a Z d
  replace d:Mem w _ (abm A1 p T hbL 85 5:: abm g (x.q++W) e hbL 85 5:: abm D W co hbL 85 5:: abl t bs u B8 5 1:: .row (vS r (abn q) s) (abn q) (q.flatMap kF) 53 9::gB q):=abg (a:=[abm A1 p T hbL 85 5,abm g (x.q++W) e hbL 85 5,abm D W co hbL 85 5,abl t bs u B8 5 1,.row (vS r (abn q) s) (abn q) (q.flatMap kF) 53 9]) d
  refine Jb Z d ((JF∘JX∘JG∘JR∘Jp 2∘Jo (vI (i-1)) (by exact mF ⟨by omega,by omega⟩)∘Jp 1∘bQ∘Jq) λa Z d=>?_)
  exact ⟨_,om,(i-1),k,(x.q++W),g,e,by omega,by omega,z.symm,by rw [abp];omega,rfl,Z.sub kr,d.pt 5 [1,3,4]⟩
 refine (JF∘JX∘JG∘aJ 2∘Jl∘JL (h:=by exact λd=>zen G t u B _ (hL.mem d C) (d.le C) (d.rd (i:=1) rfl) M om)) ?_
 rintro d _ w83 ⟨⟨A2,c2,rfl⟩,F⟩
 refine ⟨_,rfl,_,d.call F,?_⟩
 exact (Jp 1∘Jx∘Jx∘Jp 2∘aH∘Jr∘Jv 2 [(87,.bool true)]∘Jo (.bool true) (by simp)∘Jp 1∘gq∘aP) uj
end Go.Proofs.YtekiimhdnigmcaaGreatDoor
