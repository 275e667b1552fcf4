/- Parts. -/
import Derived.Test.YtekiimhdnigmcaaGreatDoorQgZ4
set_option linter.all false
set_option maxRecDepth 100000
set_option maxHeartbeats 1000000
namespace Go.Proofs.YtekiimhdnigmcaaGreatDoor
open Go.RowKit
open Go renaming World→ajg,Value→ajh,Program→aji,TypeId→ajj,Ending→ajk
open List renaming length→abr
open _root_.Go.Proofs.Tryz renaming prog→abt
open _root_.List renaming length_append→abu,getElem?_eq_getElem→abv,getD_eq_getElem?_getD→abw,append_assoc→aby,length_map→abz,length_take→abA,length_drop→abE,getElem?_eq_some_iff→abF,replicate→abG,mem_of_getElem?→abK,length_set→abL,take_of_length_le→abM,append_nil→abN,flatMap_cons→abO,length_cons→abS,map_append→abW,mem_cons→abX,flatMap_append→abZ,take_append_drop→ab1,mem_or_eq_of_mem_set→ab4,mem_cons_of_mem→ab5,mem_map→ab7,length_replicate→ab8,mem_append→acg,mem_cons_self→aci,getElem_of_mem→acn,mem_of_mem_take→aco,drop_of_length_le→acu,drop_eq_getElem_cons→acv,map_cons→acE,getElem?_map→acQ,mem_flatMap→acT,length→acY,eq_of_mem_replicate→ac3,take_length→adb,perm_middle→ade,getElem?_eq_none→adp,take_left→adP,getElem?_append_right→adR,mem_append_left→adS,getElem?_append_left→adU,getElem?_cons_succ→ad1,ext_getElem→aeh,set_cons_zero→aeS,length_eraseIdx→aeW,set_append→aeY,set_set→afn,mem_singleton→afL,drop_left→afP,length_eq_zero_iff→agh,getElem?_replicate→agj
open Nat renaming le_refl→abx,zero_le→abC,lt_or_ge→ab0,zero_add→ab9,eq_zero_or_pos→ach,mul_one→ac5,min_eq_left→ac9,le_trans→adg,pow_le_pow_right→ads,mod_lt→adJ,succ_mul→adK,sub_self→ad5,div_le_self→ae7,mul_comm→af2,min→agA,min_eq_right→ahb,max_def→ahM
open Bool renaming and_eq_true→abH,true_and→acj
open Int renaming toNat_natCast→abI,toNat_of_nonneg→abU,toNat→afM,tmod→af3,tmod_eq_of_lt→ag3
open Value renaming bool→abP,int→abT,oneCell'→abV,slice→afV
open Go renaming IntKind→acB
open World renaming ownsRow_nil→acK
open Addr renaming add_mid→acL
open DataW renaming trod→adO,trod_int→aej
open Extern.SlicesOverlaps renaming overlaps→ad6
open Rw renaming l→ael
open _root_.Array renaming getElem?_toList→aeQ
open Lit renaming int→ae1
open Classical renaming byContradiction→afF
open List.Perm renaming cons→agG
open ajr renaming blk→ahl
variable {W w:ajg} {F T fs:List ajr} {x:aF} {m k d e a f g c b n cr er:Nat} {l:List Nat} {s:bI} {t:Tk} {A gA:ajq} {o:bQ} {r:List ajh} {z:List Rw} {bs:List Bk}
def zff {b:List Mb} (n:Nat) (h:Mem W w F) (i:F.drop n=jS f x m k d e a++T) (j:dY x m k d e a) (hc:(c:Int)<x.au) (l:g<a) (hm:aU x.ay g c=b):Calls abt 162 #[vP f 0,vI g,vI c] w (Is w (.tuple #[.agg (aO bP b).cells,.bool (!b.isEmpty)])):=hm▸zer n h i j hc l
def zfg (a:x.ay.Ok) {g c:Nat} (b:aU x.ay g c≠[]):(aO bP (aU x.ay g c)).v<18446744073709551616:=by
 rcases NY (SX a b) with ⟨t,ht,_,d⟩|⟨h,_,_,_,_,e⟩
 ·rw [d];exact (a.ts t ht).v
 ·rw [e];exact (zZ a h c).v
def q3a (W w:ajg) (x:aF) (I:Nat) (s t u B k:Nat) (hx:dY x s t u B k) (T:List ajr) (e:Mem W w (jS I x s t u B k++T)):
    Calls abt 157 #[vP I 0] w (Tv W I x s t u B k T (gF x.ay)):=by
 obtain ⟨cp,cr,gA,gc,gs,lA,lc,cl,uA,uc,cu,tA,tc,ts,sA,sc,rs⟩:=x
 replace e:Mem W w (fM I cp cr gA s gc lA t lc uA u uc tA B tc sA k sc::fG gA s gc gs::fI lA t lc cl::fI uA u uc cu::fT tA B tc ts::fS sA k sc rs::(fR rs++(T))):=e
 obtain ⟨mZ,hll,oq,hlt,Q⟩:=hx.ln
 replace mZ:abr gs=s:=mZ;replace hll:abr cl=t:=hll;replace oq:abr cu=u:=oq;replace hlt:abr ts=B:=hlt;replace Q:abr rs=k:=Q
 have hrg:=hx.sh.rs;replace hrg:abr rs=abr gs:=hrg
 obtain ⟨N,O,_,J⟩:=mX hx.sh.cfg
 replace N:1<=cp:=N;replace O:cp<=64:=O;replace J:dO gs=true:=J
 have ou:=(qt J).1;have ow:=(qt J).2.1
 obtain ⟨d,rfl⟩:=zo (e.own (i:=5) rfl) om
 refine (SS e Tryz.func157 45) ?_
 refine (aM 1∘Jn∘Jf 0∘Jg 6 O0∘Jl∘bO 1∘JB) λa Z e=>?_
 refine qg (λmS aS wS=>∃(g:Nat) (f:List Rw),(g<=k)/\(abr f=k)/\(dY (⟨cp,cr,gA,gc,gs,lA,lc,cl,uA,uc,cu,tA,tc,ts,some ⟨d,0,none⟩,sc,f⟩:aF) s t u B k)/\(jL (⟨cp,cr,gA,gc,gs,lA,lc,cl,uA,uc,cu,tA,tc,ts,some ⟨d,0,none⟩,sc,rs⟩:aF) f g 0)/\mS=k-g/\Fr aS 45 [] (ah8 13 g 12 k [(11,vS d k sc),(0,vP I 0)])/\Mem W wS (fM I cp cr gA s gc lA t lc uA u uc tA B tc (some ⟨d,0,none⟩) k sc::fG gA s gc gs::fI lA t lc cl::fI uA u uc cu::fT tA B tc ts::fS (some ⟨d,0,none⟩) k sc f::(fR f++(T)))) (m:=k-0) ⟨0,rs,abC _,Q,hx,q2r,rfl,Z.sub kr,e.pt 6 [0,1,2,3,4,5]⟩ ?_
 clear Z e;rintro mS a w_ ⟨g,f,hg,hl2,R,hR,rfl,Z,e⟩
 refine Jb Z e ((cB 1∘JQ) (Ji (λAc=>?_) λAc=>?_))
 ·
  have aoE:g<k:=by omega
  obtain ⟨⟨yA,yc,yl⟩,hy⟩:∃y,f.getD g Rw.zero=y:=⟨_,rfl⟩
  have K:=R.spots g (by show g<abr f;omega)
  replace K:((f.getD g Rw.zero).l.length:Int)=cp/\_:=K
  rw [hy] at K
  have hyl:(abr yl:Int)=cp:=K.1
  repeat (first|clear Z|clear e)
  intro a Z e
  obtain ⟨Y,rfl⟩:=e.jW 6 rfl om hy om
  have S:=hR.2.1 g
  rw [hy] at S
  replace S:abr yl=(rs.getD g Rw.zero).l.length:=S
  refine Jb Z e ((eP∘aM 1∘nP g 1∘Jy (v:= .slice ((f.getD g Rw.zero).A) ((f.getD g Rw.zero).l.length) ((f.getD g Rw.zero).c)) (h:=by exact aae 5 g Rw.zero om rfl rfl rfl)∘Jo (vS Y (abr yl) yc) (by rw [hy])∘Jp 2∘bg 1∘Jl∘bO 1∘JB) λa Z e=>?_)
  refine qg (λmS aS wS=>∃(c:Nat) (b:List Rw) (p:List Sp),(abr b=k)/\(dY (⟨cp,cr,gA,gc,gs,lA,lc,cl,uA,uc,cu,tA,tc,ts,some ⟨d,0,none⟩,sc,b⟩:aF) s t u B k)/\(jL (⟨cp,cr,gA,gc,gs,lA,lc,cl,uA,uc,cu,tA,tc,ts,some ⟨d,0,none⟩,sc,rs⟩:aF) b g c)/\(b.getD g Rw.zero=⟨some ⟨Y,0,none⟩,yc,p⟩)/\(abr p=abr yl)/\mS=abr yl-c/\Fr aS 45 [] (ah8 20 c 19 (abr yl) ((3,vS Y (abr yl) yc)::(2,vI g)::(14,.bool true)::ah8 13 g 12 k [(11,vS d k sc),(0,vP I 0)]))/\Mem W wS (fM I cp cr gA s gc lA t lc uA u uc tA B tc (some ⟨d,0,none⟩) k sc::fG gA s gc gs::fI lA t lc cl::fI uA u uc cu::fT tA B tc ts::fS (some ⟨d,0,none⟩) k sc b::(fR b++(T)))) (m:=abr yl-0) ⟨0,f,yl,hl2,R,hR,hy,rfl,rfl,Z.sub kr,e.pt 6 [0,1,2,3,4,5]⟩ ?_
  clear Z e;rintro mS a w_ ⟨c,b,p,U,E,L,q,P,rfl,Z,e⟩
  refine Jb Z e ((cB 1∘JQ) (Ji (λCX=>?_) λCX=>?_))
  ·
   have hc21:c<abr yl:=by omega
   obtain ⟨o,F⟩:∃z,p[c]?=some z:=⟨_,abv om⟩
   obtain ⟨C,G⟩:∃z,aU (⟨cp,cr,gA,gc,gs,lA,lc,cl,uA,uc,cu,tA,tc,ts,some ⟨d,0,none⟩,sc,rs⟩:aF).ay g c=z:=⟨_,rfl⟩
   have D:=E.spots g (by show g<abr b;omega)
   replace D:((b.getD g Rw.zero).l.length:Int)=cp/\∀z∈(b.getD g Rw.zero).l,z.Ok/\_:=D
   rw [q] at D
   have V:=(D.2 o (abK F)).1
   have hzf:=V.floor
   have M:=(Dn (x:=(⟨cp,cr,gA,gc,gs,lA,lc,cl,uA,uc,cu,tA,tc,ts,some ⟨d,0,none⟩,sc,b⟩:aF)) (by show g<abr b;omega) (E.sh.row g (by show g<abr b;omega))).2 c (by show c<(b.getD g Rw.zero).l.length;rw [q];show c<abr p;omega)
   replace M:fq _ g ((b.getD g Rw.zero).l.getD c Sp.zero)=true:=M
   rw [q,show (⟨some ⟨Y,0,none⟩,yc,p⟩:Rw).l.getD c Sp.zero=o from qbv Sp.zero F] at M
   refine (eP∘aM 2∘aL∘bg 3∘JI (h:=by exact λe=>zff 0 e rfl E (by show (c:Int)<cp;omega) om ((q74 L g c).trans G))) λFx hbw=>(Jp 1∘Jx∘Jx∘JA #[vQ 0,vQ 0,vQ 0]) λw5 g5=>(JV uS aN (h1:=by exact Dp (aO bP C))) λDN=>(Jp 1∘bg 1∘Jj) (Ju (λH=>?_) λH=>?_)
   ·
    have hne:C≠[]:=by simpa using H
    have hbv:=zfg (x:=(⟨cp,cr,gA,gc,gs,lA,lc,cl,uA,uc,cu,tA,tc,ts,some ⟨d,0,none⟩,sc,rs⟩:aF)) hx.ok (g:=g) (c:=c) (by rw [G];exact hne)
    rw [G] at hbv
    have hr1:iW (⟨cp,cr,gA,gc,gs,lA,lc,cl,uA,uc,cu,tA,tc,ts,some ⟨d,0,none⟩,sc,rs⟩:aF).ay g c o={o with floor:=max o.floor (aO bP C).v}:=by unfold iW;rw [G,if_neg (by simpa using hne)]
    refine (JT∘Vs .n [12]) λOq=>(Vp [0,1,2,3]∘Vy 4 (h:=by exact Yl.iM Y c 3 rfl rfl rfl)∘Vf 5 2∘Vy 6 (v:=vQ o.floor) (h:=by exact Pd rfl rfl kr (λ_ h=>h.vJ 7 (j:=2) rfl om q (F) rfl))∘nR 7 uS O0∘VI 8 .n (h:=by exact λe=>zih (aO bP C) _)) λOt hbw=>(Vy 9 (v:=vQ (if ((aO bP C).v:Int)>(o.floor:Int) then ((aO bP C).v:Int) else (o.floor:Int))) (h:=by exact Yl.max rfl rfl rfl)∘Vo (vQ (max o.floor (aO bP C).v:Nat)) (by rw [ahM];split<;>split<;>first|rfl|(congr 1;omega))∘Vu 10 (h:=by exact λ_=>Yl.iM Y c 3 rfl rfl rfl)∘Vf 11 2) λa Z e HS=>?_
    refine s_on Z 12 rfl ?_
    refine DJ Z e 6 (c:=c) 2 ({o with floor:=max o.floor (aO bP C).v}) rfl rfl rfl rfl kr rfl rfl om (q) (F) rfl de rfl λX e=>?_
    replace e:Mem W X (.blk g5 ((aO bP C).cells) 283::fM I cp cr gA s gc lA t lc uA u uc tA B tc (some ⟨d,0,none⟩) k sc::fG gA s gc gs::fI lA t lc cl::fI uA u uc cu::fT tA B tc ts::fS (some ⟨d,0,none⟩) k sc (aT b g c ({o with floor:=max o.floor (aO bP C).v}))::(fR (aT b g c ({o with floor:=max o.floor (aO bP C).v}))++(T))):=e
    refine dR kr ?_
    refine qe kr ?_
    refine Jb Z e ((JG∘JR∘dx 1∘Jp 1∘aI∘Jq) λa Z e=>?_)
    exact ⟨_,om,c+1,(aT b g c {o with floor:=max o.floor (aO bP C).v}),(p.set c {o with floor:=max o.floor (aO bP C).v}),by rw [zu];exact U,E.put (by show g<abr b;omega) {o with floor:=max o.floor (aO bP C).v} ⟨V.v,V.r,by show max _ _<_;rw [ahM];split<;>omega⟩ M,q2s L (by show g<abr rs;omega) (by show c<(rs.getD g Rw.zero).l.length;omega) (by rw [q];exact F) hr1,N7 om q,by rw [abL];exact P,rfl,Z.sub kr,e.pt 7 [1,2,3,4,5,6]⟩
   have hem:aU (⟨cp,cr,gA,gc,gs,lA,lc,cl,uA,uc,cu,tA,tc,ts,some ⟨d,0,none⟩,sc,rs⟩:aF).ay g c=[]:=by rw [G];simpa using H
   refine (aP∘JR∘dx 1∘Jp 1∘aL∘Jq) λa Z e=>?_
   exact ⟨_,om,c+1,b,p,U,E,q2t L hem,q,P,rfl,Z.sub kr,e.pt 7 [1,2,3,4,5,6]⟩
  refine (JF∘JX∘JG∘JR∘dx 1∘Jp 1∘aL∘Jq) λa Z e=>?_
  exact ⟨_,om,g+1,b,by omega,U,E,q75 L (by show (rs.getD g Rw.zero).l.length<=c;omega),rfl,Z.sub kr,e.pt 6 [0,1,2,3,4,5]⟩
 refine (JF∘JX) λa Z e=>?_
 exact iD rfl Z (zir (x:=(⟨cp,cr,gA,gc,gs,lA,lc,cl,uA,uc,cu,tA,tc,ts,some ⟨d,0,none⟩,sc,rs⟩:aF)) hl2 R.spots (q76 hR (by show abr rs<=g;omega)) e)
def Tw (n:Nat) (f:Mem W w F) (h:F.drop n=jS e x m k b d a++T) (i:dY x m k b d a) (hc:(c:Int)<x.au) (j:g<a) (o:lN x.ay g c=l):Calls abt 200 #[vP e 0,vI g,vI c] w (Om w l):=o▸zfd n f h i hc j
def Tx {m k e f a g c:Nat} (b:dY x m k e f a) (o:g<a) (i:lN x.ay g c=l):∀h∈l,0<h/\h<a:=by
 subst i
 intro h j
 obtain ⟨_,_,_,d⟩:=mX b.sh.cfg
 have p:=b.sh.rs
 have q:=b.ln.s
 have n:=qos (s:=x.ay) (c:=c) (g:=g) (zR d om) h j
 exact ⟨n.1,by omega⟩
def qo2 {s:bI} {c:Nat}:∀(f g:Nat),abr (sJ s c f g)<=f
 |0,g=>abx _
 | f + 1, g => by
  rw [sJ]
  split
  ·exact abC _
  ·split
   ·rw [abS];have:=qo2 (s:=s) (c:=c) f (s.par g).toNat;omega
   ·exact abC _
def Tz {m k d e a g c:Nat} (b:dY x m k d e a) (h:g<a) (f:lN x.ay g c=l):abr l<=1000000:=by
 subst f
 have i:abr (lN x.ay g c)<=g:=qo2 (s:=x.ay) (c:=c) g g
 have j:=b.few.s
 have n:=b.ln.s
 omega
def Ou {E:ajq} {h:Nat} (n:Nat) (y:Mem W w F) (z:F.drop n=jS f x m k d e b++T) {j:Nat} (A:F[j]?=some (.row (.slice E (abr l) h) (abr l) (l.map bL) 3 1)) (B:j<n) (C:tJ x m k d e b) (i:∀g∈l,0<g/\g<b) (o:abr l<=1000000)
  (p:dO x.gs=true) (q:abr x.rs=abr x.gs) (s:fJ x.gs x.au x.rs) (t:x.aj<18446744073709551616) (u:x.au<=64) (hc:(c:Int)<x.au):
  Calls abt 206 #[vP f 0,.slice E (abr l) h,vI c] w (λr v=>∃a,r= .returned (.tuple #[])/\abr a=b/\fJ x.gs x.au a/\({x with rs:=a}:aF).ay=iw x.ay l c/\Mem W v (F.take n++(jS f {x with rs:=a} m k d e b++T))):=
 (q29 W w x f c m k d e b C (F.take n++T) E h l (adS _ (abK (by rw [List.getElem?_take_of_lt B];exact A))) i o p q s t u hc (y.front n z)).mono λr v ⟨a,D,G,H,I,J⟩=>⟨a,D,G,H,I,J.back⟩
abbrev aix:=λa b c=>((5,vI 0)::(4,vI 0)::(3,vP a 0)::(0,vP b 0)::c:List (Nat×ajh))
abbrev ai2:=λa b c d e f g h i j k l m n o p q r s t u=>(fG a b c d::fI e f g h::fI i j k l::fT m n o p::fS q r s t::u:List ajr)
def qns (W w:ajg) (x:aF) (N:Nat) (H I J D K:Nat) (l:dY x H I J D K) (o:bQ) (E:o.Ok) (T:List ajr) (b:Mem W w (jS N x H I J D K++T)):
    Calls abt 153 #[vP N 0,.agg o.cells] w (kR W N T (zV x.ay o)):=by
 obtain ⟨cp,cr,gA,gc,gs,lA,lc,cl,uA,uc,cu,tA,tc,ts,sA,sc,rs⟩:=x
 replace b:Mem W w (fM N cp cr gA H gc lA I lc uA J uc tA D tc sA K sc::ai2 gA H gc gs lA I lc cl uA J uc cu tA D tc ts sA K sc rs (fR rs++(T))):=b
 obtain ⟨O,P,Q,A,R⟩:=l.ln
 replace O:abr gs=H:=O;replace P:abr cl=I:=P;replace Q:abr cu=J:=Q;replace A:abr ts=D:=A;replace R:abr rs=K:=R
 have e:=l.ln
 have hsp:fJ gs cp rs:=l.spots
 have hrg:abr rs=abr gs:=l.sh.rs
 have hcr:cr<18446744073709551616:=l.ok.aj
 obtain ⟨F,G,_,B⟩:=mX l.sh.cfg
 replace F:1<=cp:=F;replace G:cp<=64:=G;replace B:dO gs=true:=B
 have ou:=(qt B).1;have ow:=(qt B).2.1
 have qZ:(abr cl:Int)=cp:=l.sh.cl;have pK:(abr cu:Int)=cp:=l.sh.cu
 have oz:abr ts<=1000000:=l.few.t
 have hoc:=E.cpu;have hot:=E.task;have hog:=E.group;have how:=E.weight;have S:=E.to;have U:=E.ticks;have Ad:=E.mask;have ru:=E.kind;unfold aX at hoc hot hog how S U
 refine (mM b Tryz.func153 55) ?_
 refine (JP∘JE) λw3 g3=>(Jp 2∘bg 1∘Jj∘JQ∘JB∘JP∘Jg 2 O0∘JI (h:=by exact λb=>Oc o.task _)) λwB c=>(Jp 2∘eO∘Jj) (nQ (λd=>?_) λd=>?_)
 ·
  exact (JT∘bB 2∘bW) λb=>by exact qw (y:=(⟨cp,cr,gA,gc,gs,lA,lc,cl,uA,uc,cu,tA,tc,ts,sA,sc,rs⟩:aF)) 1 b rfl e (if_pos (decide_eq_false d))
 refine (JF∘JP∘Jg 4 O0∘JL (h:=by exact λb=>NR o.weight _)) ?_
 rintro b _ zJ ⟨rfl,c⟩
 refine ⟨_,rfl,_,b.call c,?_⟩
 refine (Jp 2∘eO∘Jj) (nQ (λg=>?_) λg=>?_)
 ·
  exact (JT∘bB 2∘bW) λb=>by exact qw (y:=(⟨cp,cr,gA,gc,gs,lA,lc,cl,uA,uc,cu,tA,tc,ts,sA,sc,rs⟩:aF)) 1 b rfl e ((if_neg (nf (decide_eq_true d))).trans (if_pos (decide_eq_false g)))
 refine (aP∘bM 1∘Jg 2 O0∘JI (h:=by exact λb=>Jt 1 b rfl l o.task)) λQG c=>(Jp 1∘eO∘bg 2∘aL∘Jj) (Ji (λm=>?_) λm=>?_)
 ·
  exact (JT∘bB 2∘bW) λb=>by exact qw (y:=(⟨cp,cr,gA,gc,gs,lA,lc,cl,uA,uc,cu,tA,tc,ts,sA,sc,rs⟩:aF)) 1 b rfl e ((if_neg (nf (decide_eq_true d))).trans ((if_neg (nf (decide_eq_true g))).trans (if_pos (m))))
 obtain ⟨k,t,hk,ht,V,Ae⟩:=JN m
 replace hk:fidx ts o.task=(k:Int):=hk;replace ht:ts[k]?=some t:=ht;replace V:k<abr ts:=V
 obtain ⟨p,L⟩:=l.task ht
 have hti:=p.id;have wZ:=p.group;have X:=p.cpu;have J6:=p.weight;have Y:=L.v;have htr:=L.r;have J7:=L.mask
 replace X:0<=t.cpu/\t.cpu<cp:=X
 obtain ⟨gt,hgt⟩:∃n:Nat,t.group=(n:Int):=⟨t.group.toNat,by omega⟩
 obtain ⟨ct,hct⟩:∃n:Nat,t.cpu=(n:Int):=⟨t.cpu.toNat,by omega⟩
 obtain ⟨s,hwt⟩:∃n:Nat,t.weight=(n:Int):=⟨t.weight.toNat,by omega⟩
 have M:(⟨t.v,t.r,s⟩:En).Ok:=aaj p.ent hwt Y
 obtain ⟨z,yX⟩:∃n:Nat,o.weight=(n:Int):=⟨o.weight.toNat,by omega⟩
 have hz:1<=z/\z<=65536:=by omega
 repeat (first|clear Z|clear b)
 intro a Z b
 obtain ⟨q,rfl⟩:=b.rat 5 k (hk:=(by omega:k<D))
 refine Jb Z b ((aP∘aM 1∘Jn∘Jf 0∘Jg 5 O1∘Jp 1∘Jo (vI k) (by rw [hk])∘nP k 8∘Jp 1∘aI∘Jj) λa Z b=>?_)
 refine qz (λaS wS=>∃(C:Nat),Fr aS 55 [] ((8,vP C 0)::(7,vP q (k*8))::(25,.bool false)::(6,vI (fidx ts o.task))::(15,.bool false)::(10,.bool false)::aix g3 N [])/\Mem W wS (.blk C ((⟨t.v,0,z⟩:En).cells) 333::.blk g3 o.cells 214::fM N cp cr gA H gc lA I lc uA J uc (some ⟨q,0,none⟩) D tc sA K sc::ai2 gA H gc gs lA I lc cl uA J uc cu (some ⟨q,0,none⟩) D tc ts sA K sc rs (fR rs++(T)))) ?_ ?_
 ·
  refine Jb Z b ((Vs .n [20]) λsH=>(Vp [0,4,8]∘Vf 13 4∘Vn 1∘Vf 2 6∘Vy 3 (v:=vQ t.v) (h:=by exact Pd rfl rfl kr (λ_ h=>h.qv qm (i:=5) rfl (k:=k) (off:=6) (x:=t) (ht) rfl))∘Vn 5∘Vf 6 7∘Vy 7 (v:=vW t.r) (h:=by exact Pd rfl rfl kr (λ_ h=>h.qv qm (i:=5) rfl (k:=k) (off:=7) (x:=t) (ht) rfl))∘Vn 9∘Vf 10 2∘Vy 11 (v:=vI t.weight) (h:=by exact Pd rfl rfl kr (λ_ h=>h.qv qm (i:=5) rfl (k:=k) (off:=2) (x:=t) (ht) rfl))∘Vo (vI s) (by rw [hwt])∘Vc 14 O0∘Vo (vI z) (by rw [yX])) λa Z b u=>?_)
  refine zh [12,19] kr rfl ?_
  refine all_cons ?_ ?_
  ·refine qu Z (i:=12) rfl rfl ?_
   refine jB Z b [vQ t.v,vW t.r,vI s] (.agg #[vQ t.v,vW t.r,vW s]) rfl rfl (zk t.v t.r (s:Int) om _) λGN c b a Z=>?_
   refine av (b.pt 7 [0,1,2,3,4,5,6]) (λu=>?_)
   refine zh [15,19] kr rfl ?_
   refine all_cons ?_ ?_
   ·refine qu Z (i:=15) rfl rfl ?_
    refine jB Z b [.agg #[vQ t.v,vW t.r,vW s],vI z] (.tuple #[.agg ((⟨t.v,0,z⟩:En).cells),vI 0]) rfl rfl (Fz (⟨t.v,t.r,s⟩:En) M z hz _) λBa c b a Z=>?_
    refine av (b.pt 7 [0,1,2,3,4,5,6]) (λu=>?_)
    refine Vb Z b u ((Vp [16]∘Vx 17∘Vx 18∘VA 19 .n #[vQ 0,vW 0,vW 0]) λw8 C=>λa Z b u=>?_)
    refine s_on Z 20 rfl (bV Z b 0 rfl rfl rfl rfl rfl qp rfl rfl (mO (⟨t.v,0,z⟩:En)) λj b=>?_)
    refine dR kr ?_
    refine ap Z (cK kr) [21] (bt 22 []) [] λa Z=>?_
    refine qe kr ?_
    exact ⟨C,Z.sub kr,b.pt 8 [0,1,2,3,4,5,6,7]⟩
   refine all_cons ?_ all_nil
   refine qu Z (i:=19) rfl rfl ?_
   refine iq Z b #[vQ 0,vW 0,vW 0] ?_
   clear Z b;intro a w8 C Z b
   refine av (b.pt 8 [1,2,3,4,5,6,7]) (λu=>?_)
   refine Vb Z b u ((VI 15 (.f .n) (h:=by exact λb=>Fz (⟨t.v,t.r,s⟩:En) M z hz _)) λBa c=>(Vp [16]∘Vx 17∘Vx 18) λa Z b u=>?_)
   refine s_on Z 20 rfl (bV Z b 0 rfl rfl rfl rfl rfl qp rfl rfl (mO (⟨t.v,0,z⟩:En)) λj b=>?_)
   refine dR kr ?_
   refine ap Z (cK kr) [21] (bt 22 []) [] λa Z=>?_
   refine qe kr ?_
   exact ⟨C,Z.sub kr,b.pt 8 [0,1,2,3,4,5,6,7]⟩
  refine all_cons ?_ all_nil
  refine qu Z (i:=19) rfl rfl ?_
  refine iq Z b #[vQ 0,vW 0,vW 0] ?_
  clear Z b;intro a w8 C Z b
  refine av (b.pt 8 [1,2,3,4,5,6,7]) (λu=>?_)
  refine Vb Z b u ((VI 12 (.f .n) (h:=by exact λb=>zk t.v t.r (s:Int) om _)) λGN c=>(VI 15 (.f .n) (h:=by exact λb=>Fz (⟨t.v,t.r,s⟩:En) M z hz _)) λBa c=>(Vp [16]∘Vx 17∘Vx 18) λa Z b u=>?_)
  refine s_on Z 20 rfl (bV Z b 0 rfl rfl rfl rfl rfl qp rfl rfl (mO (⟨t.v,0,z⟩:En)) λj b=>?_)
  refine dR kr ?_
  refine ap Z (cK kr) [21] (bt 22 []) [] λa Z=>?_
  refine qe kr ?_
  exact ⟨C,Z.sub kr,b.pt 8 [0,1,2,3,4,5,6,7]⟩
 clear Z b;rintro a sD ⟨C,Z,b⟩
 exact Jb Z b ((aM 1∘eF qp O0∘JO (h:=by exact λb=>Ob t (⟨t.v,0,z⟩:En) vw b ht A (S9 Y hz))) λw54=>(oK∘bg 2∘aQ∘bW) λb=>by exact qw (y:=(⟨cp,cr,gA,gc,gs,lA,lc,cl,uA,uc,cu,some ⟨q,0,none⟩,tc,(ts.set k (t.put (⟨t.v,0,z⟩:En))),sA,sc,rs⟩:aF)) 2 b rfl (FC e (by rw [abL];exact A)) (qtp (x:=(⟨cp,cr,gA,gc,gs,lA,lc,cl,uA,uc,cu,some ⟨q,0,none⟩,tc,ts,sA,sc,rs⟩:aF)) (decide_eq_true d) (decide_eq_true g) hk ht yX))
abbrev aiO {α:Type}:=λa b (c:List α) d e f g h i=>((9,vP a 0)::(8,abo b c d)::(7,vP e (f*8))::(22,.bool false)::(19,.bool false)::(6,vI (fidx g h))::(14,.bool false)::i:List (Nat×ajh))
def qwy (W w:ajg) (x:aF) (O:Nat) (S U V P H:Nat) (q:dY x S U V P H) (o:bQ) (ho:o.Ok) (T:List ajr) (b:Mem W w (jS O x S U V P H++T)):
    Calls abt 149 #[vP O 0,.agg o.cells] w (kR W O T (zU x.ay o)):=by
 obtain ⟨cp,cr,gA,gc,gs,lA,lc,cl,uA,uc,cu,tA,tc,ts,sA,sc,rs⟩:=x
 replace b:Mem W w (fM O cp cr gA S gc lA U lc uA V uc tA P tc sA H sc::ai2 gA S gc gs lA U lc cl uA V uc cu tA P tc ts sA H sc rs (fR rs++(T))):=b
 obtain ⟨mZ,hll,oq,I,hls⟩:=q.ln
 replace mZ:abr gs=S:=mZ;replace hll:abr cl=U:=hll;replace oq:abr cu=V:=oq;replace I:abr ts=P:=I;replace hls:abr rs=H:=hls
 have m:=q.ln
 have hsp:fJ gs cp rs:=q.spots
 have hrg:abr rs=abr gs:=q.sh.rs
 have X:cr<18446744073709551616:=q.ok.aj
 obtain ⟨hcp1,J,_,K⟩:=mX q.sh.cfg
 replace hcp1:1<=cp:=hcp1;replace J:cp<=64:=J;replace K:dO gs=true:=K
 have ou:=(qt K).1;have ow:=(qt K).2.1
 have qZ:(abr cl:Int)=cp:=q.sh.cl;have pK:(abr cu:Int)=cp:=q.sh.cu
 have oz:abr ts<=1000000:=q.few.t
 have hoc:=ho.cpu;have hot:=ho.task;have hog:=ho.group;have how:=ho.weight;have pO:=ho.to;have pQ:=ho.ticks;have Ad:=ho.mask;have ru:=ho.kind;unfold aX at hoc hot hog how pO pQ
 obtain ⟨g,rfl⟩:=zo (b.own (i:=5) rfl) om
 refine (mM b Tryz.func149 103) ?_
 refine (JP∘JE) λw3 g3=>(bO 2∘JQ∘JP∘Jg 2 O0∘JI (h:=by exact λb=>Oc o.task _)) λwB C=>(Jp 1∘bU∘Jj) (nQ (λp=>?_) λp=>?_)
 ·
  exact (JT∘bB 2∘bW) λb=>by exact qw (y:=(⟨cp,cr,gA,gc,gs,lA,lc,cl,uA,uc,cu,tA,tc,ts,some ⟨g,0,none⟩,sc,rs⟩:aF)) 1 b rfl m (if_pos (decide_eq_false p))
 refine (aP∘aM 1∘Jg 2 O0∘JI (h:=by exact λb=>Jt 1 b rfl q o.task)) λzJ C=>(Jp 1∘eO∘Jj∘JQ∘JB∘aM 3∘bU∘Jj) (Ji (λu=>?_) λu=>?_)
 ·
  exact (JT∘bB 2∘bW) λb=>by exact qw (y:=(⟨cp,cr,gA,gc,gs,lA,lc,cl,uA,uc,cu,tA,tc,ts,some ⟨g,0,none⟩,sc,rs⟩:aF)) 1 b rfl m ((if_neg (nf (decide_eq_true p))).trans (if_pos (u)))
 obtain ⟨k,t,hk,ht,hkl,Ae⟩:=JN u
 replace hk:fidx ts o.task=(k:Int):=hk;replace ht:ts[k]?=some t:=ht;replace hkl:k<abr ts:=hkl
 obtain ⟨L,hto⟩:=q.task ht
 have hti:=L.id;have wZ:=L.group;have htc:=L.cpu;have J6:=L.weight;have Ag:=hto.v;have htr:=hto.r;have J7:=hto.mask
 replace htc:0<=t.cpu/\t.cpu<cp:=htc
 obtain ⟨gt,hgt⟩:∃n:Nat,t.group=(n:Int):=⟨t.group.toNat,by omega⟩
 obtain ⟨ct,Y⟩:∃n:Nat,t.cpu=(n:Int):=⟨t.cpu.toNat,by omega⟩
 obtain ⟨G,hwt⟩:∃n:Nat,t.weight=(n:Int):=⟨t.weight.toNat,by omega⟩
 have sZ:(⟨t.v,t.r,G⟩:En).Ok:=aaj L.ent hwt Ag
 repeat (first|clear Z|clear b)
 intro a Z b
 obtain ⟨d,rfl⟩:=b.rat 5 k (hk:=(by omega:k<P))
 refine Jb Z b ((JF∘aM 1∘Jn∘Jf 0∘Jg 5 O1∘Jp 1∘Jo (vI k) (by rw [hk])∘nP k 8∘Jf 5∘Jy (v:= .bool t.ready) (h:=by exact Pd rfl rfl kr (λ_ h=>h.qv qm (i:=5) rfl (k:=k) (off:=5) (x:=t) (ht) rfl))∘Jp 1∘aI∘Jj) (Ju (λM=>?_) λM=>?_))
 ·
  exact (JT∘bB 2∘bW) λb=>by exact qw (y:=(⟨cp,cr,gA,gc,gs,lA,lc,cl,uA,uc,cu,some ⟨d,0,none⟩,tc,ts,some ⟨g,0,none⟩,sc,rs⟩:aF)) 1 b rfl m ((if_neg (nf (decide_eq_true p))).trans ((if_neg (u)).trans (if_pos (by rw [yU (s:=aF.ay (⟨cp,cr,gA,gc,gs,lA,lc,cl,uA,uc,cu,some ⟨d,0,none⟩,tc,ts,some ⟨g,0,none⟩,sc,rs⟩:aF)) hk ht];exact M))))
 have hnr:t.ready=false:=by simpa using M
 obtain ⟨Q,hem⟩:∃l,lN (⟨cp,cr,gA,gc,gs,lA,lc,cl,uA,uc,cu,some ⟨d,0,none⟩,tc,ts,some ⟨g,0,none⟩,sc,rs⟩:aF).ay gt ct=l:=⟨_,rfl⟩
 have uV:=λh hh=>Tx (x:=(⟨cp,cr,gA,gc,gs,lA,lc,cl,uA,uc,cu,some ⟨d,0,none⟩,tc,ts,some ⟨g,0,none⟩,sc,rs⟩:aF)) q (by omega:gt<H) hem h hh
 have uW:=Tz (x:=(⟨cp,cr,gA,gc,gs,lA,lc,cl,uA,uc,cu,some ⟨d,0,none⟩,tc,ts,some ⟨g,0,none⟩,sc,rs⟩:aF)) q (by omega:gt<H) hem
 obtain ⟨⟨yA,yc,yl⟩,hy⟩:∃y,rs.getD gt Rw.zero=y:=⟨_,rfl⟩
 have hys:=hsp gt om;rw [hy] at hys
 have hyl:(abr yl:Int)=cp:=hys.1
 repeat (first|clear Z|clear b)
 intro a Z b
 obtain ⟨gy,rfl⟩:=b.jW 7 rfl om hy om
 obtain ⟨yz,hyz⟩:∃z,yl[ct]?=some z:=⟨_,abv om⟩
 have nU:=hys.2 yz (abK hyz)
 have hyv:=nU.1.v;have tH:=nU.1.r;have tN:=nU.1.floor
 obtain ⟨e,N⟩:∃e,(⟨t.v,t.r,G⟩:En).woken yz.floor cr=e:=⟨_,rfl⟩
 have wz:e.Ok/\e.w=G:=by rw [<-N];exact aaB sZ _ _ tN
 have hev:=wz.1.2;have her:=BD wz.1.1
 refine Jb Z b ((aP∘aM 1∘Jn∘Jf 0∘Jg 5 O1∘Jp 1∘Jo (vI k) (by rw [hk])∘nP k 8∘Jp 1∘aI∘Jj) λa Z b=>?_)
 refine wp_seq ?_
 refine Jb Z b ((Vs .n []) λRN=>(Vp [0,1,5]∘Vn 2∘Vf 3 1∘Vy 4 (v:=vI t.group) (h:=by exact Pd rfl rfl kr (λ_ h=>h.qv qm (i:=5) rfl (k:=k) (off:=1) (x:=t) (ht) rfl))∘Vo (vI gt) (by rw [hgt])∘Vn 6∘Vf 7 3∘Vy 8 (v:=vI t.cpu) (h:=by exact Pd rfl rfl kr (λ_ h=>h.qv qm (i:=5) rfl (k:=k) (off:=3) (x:=t) (ht) rfl))∘Vo (vI ct) (by rw [Y])∘VK 9 .n (h:=by exact λb=>Tw 1 b rfl q (by show ((ct:Nat):Int)<cp;omega) om hem)) λD E C9 aoH=>(Vp [10]∘Vd∘aI) λa Z b=>?_)
 refine qz (λaS wS=>∃(F:Nat),Fr aS 103 [] (aiO F D Q E d k ts o.task (aix g3 O []))/\Mem W wS (.blk F e.cells 333::abp D Q E bL 3 1::.blk g3 o.cells 214::fM O cp cr gA S gc lA U lc uA V uc (some ⟨d,0,none⟩) P tc (some ⟨g,0,none⟩) H sc::ai2 gA S gc gs lA U lc cl uA V uc cu (some ⟨d,0,none⟩) P tc ts (some ⟨g,0,none⟩) H sc rs (fR rs++(T)))) ?_ ?_
 ·
  refine Jb Z b ((Vs .n [42]) λsH=>(Vp [0,4,8,13,18,24,31]∘Vn 1∘Vf 2 6∘Vy 3 (v:=vQ t.v) (h:=by exact Pd rfl rfl kr (λ_ h=>h.qv qm (i:=6) rfl (k:=k) (off:=6) (x:=t) (ht) rfl))∘Vn 5∘Vf 6 7∘Vy 7 (v:=vW t.r) (h:=by exact Pd rfl rfl kr (λ_ h=>h.qv qm (i:=6) rfl (k:=k) (off:=7) (x:=t) (ht) rfl))∘Vn 9∘Vf 10 2∘Vy 11 (v:=vI t.weight) (h:=by exact Pd rfl rfl kr (λ_ h=>h.qv qm (i:=6) rfl (k:=k) (off:=2) (x:=t) (ht) rfl))∘Vo (vI G) (by rw [hwt])∘Vn 14∘Vf 15 0∘Vf 16 6∘Vc 17 O2∘Vn 19∘Vf 20 1∘Vy 21 (v:=vI t.group) (h:=by exact Pd rfl rfl kr (λ_ h=>h.qv qm (i:=6) rfl (k:=k) (off:=1) (x:=t) (ht) rfl))∘Vo (vI gt) (by rw [hgt])∘Vy 22 (h:=by exact Yl.iM g gt 1 rfl rfl rfl)∘Vy 23 (v:= .slice ((rs.getD gt Rw.zero).A) ((rs.getD gt Rw.zero).l.length) ((rs.getD gt Rw.zero).c)) (h:=by exact aae 7 gt Rw.zero om rfl rfl rfl)∘Vo (vS gy (abr yl) yc) (by rw [hy])∘Vn 25∘Vf 26 3∘Vy 27 (v:=vI t.cpu) (h:=by exact Pd rfl rfl kr (λ_ h=>h.qv qm (i:=6) rfl (k:=k) (off:=3) (x:=t) (ht) rfl))∘Vo (vI ct) (by rw [Y])∘Vy 28 (h:=by exact Yl.iM gy ct 3 rfl rfl rfl)∘Vf 29 2∘Vy 30 (v:=vQ yz.floor) (h:=by exact Pd rfl rfl kr (λ_ h=>h.vJ 8 (j:=2) rfl om hy (hyz) rfl))∘Vn 32∘Vf 33 0∘Vf 34 0∘Vf 35 1∘Vc 36 O2) λa Z b R=>?_)
  refine zh [12,41] kr rfl ?_
  refine all_cons ?_ ?_
  ·refine qu Z (i:=12) rfl rfl ?_
   refine jB Z b [vQ t.v,vW t.r,vI G] (.agg #[vQ t.v,vW t.r,vW G]) rfl rfl (zk t.v t.r (G:Int) om _) λw62 C b a Z=>?_
   refine av (b.pt 8 [0,1,2,3,4,5,6,7]) (λR=>?_)
   refine zh [37,41] kr rfl ?_
   refine all_cons ?_ ?_
   ·refine qu Z (i:=37) rfl rfl ?_
    refine jB Z b [.agg #[vQ t.v,vW t.r,vW G],vQ yz.floor,vQ cr] (.tuple #[.agg e.cells,vI 0]) rfl rfl (FI (⟨t.v,t.r,G⟩:En) e sZ yz.floor cr tN X N _) λOv C b a Z=>?_
    refine av (b.pt 8 [0,1,2,3,4,5,6,7]) (λR=>?_)
    refine Vb Z b R ((Vp [38]∘Vx 39∘Vx 40∘VA 41 .n #[vQ 0,vW 0,vW 0]) λw9 F=>λa Z b R=>?_)
    refine s_on Z 42 rfl (bV Z b 0 rfl rfl rfl rfl rfl qp rfl rfl (mO e) λB b=>?_)
    refine dR kr ?_
    refine ap Z (cK kr) [43] (bt 44 []) [] λa Z=>?_
    refine qe kr ?_
    replace Z:=Z.to (aiO F D Q E d k ts o.task (aix g3 O []))
    exact ⟨F,Z.sub kr,b.pt 9 [0,1,2,3,4,5,6,7,8]⟩
   refine all_cons ?_ all_nil
   refine qu Z (i:=41) rfl rfl ?_
   refine iq Z b #[vQ 0,vW 0,vW 0] ?_
   clear Z b;intro a w9 F Z b
   refine av (b.pt 9 [1,2,3,4,5,6,7,8]) (λR=>?_)
   refine Vb Z b R ((VI 37 (.f .n) (h:=by exact λb=>FI (⟨t.v,t.r,G⟩:En) e sZ yz.floor cr tN X N _)) λOv C=>(Vp [38]∘Vx 39∘Vx 40) λa Z b R=>?_)
   refine s_on Z 42 rfl (bV Z b 0 rfl rfl rfl rfl rfl qp rfl rfl (mO e) λB b=>?_)
   refine dR kr ?_
   refine ap Z (cK kr) [43] (bt 44 []) [] λa Z=>?_
   refine qe kr ?_
   replace Z:=Z.to (aiO F D Q E d k ts o.task (aix g3 O []))
   exact ⟨F,Z.sub kr,b.pt 9 [0,1,2,3,4,5,6,7,8]⟩
  refine all_cons ?_ all_nil
  refine qu Z (i:=41) rfl rfl ?_
  refine iq Z b #[vQ 0,vW 0,vW 0] ?_
  clear Z b;intro a w9 F Z b
  refine av (b.pt 9 [1,2,3,4,5,6,7,8]) (λR=>?_)
  refine Vb Z b R ((VI 12 (.f .n) (h:=by exact λb=>zk t.v t.r (G:Int) om _)) λw62 C=>(VI 37 (.f .n) (h:=by exact λb=>FI (⟨t.v,t.r,G⟩:En) e sZ yz.floor cr tN X N _)) λOv C=>(Vp [38]∘Vx 39∘Vx 40) λa Z b R=>?_)
  refine s_on Z 42 rfl (bV Z b 0 rfl rfl rfl rfl rfl qp rfl rfl (mO e) λB b=>?_)
  refine dR kr ?_
  refine ap Z (cK kr) [43] (bt 44 []) [] λa Z=>?_
  refine qe kr ?_
  replace Z:=Z.to (aiO F D Q E d k ts o.task (aix g3 O []))
  exact ⟨F,Z.sub kr,b.pt 9 [0,1,2,3,4,5,6,7,8]⟩
 clear Z b;rintro a sD ⟨F,Z,b⟩
 refine Jb Z b ((aM 1∘eF qp O0∘JO (h:=by exact λb=>Ob t e wo b ht I wz.1)) λTA=>(oK∘bg 1∘Jn∘Jf 5) λa Z b=>?_)
 refine fo Z 3 rfl rfl ?_
 refine zj Z b (i:=7) rfl rfl rfl rfl kr rfl rfl (by rw [rZ bZ 8 qm,abL];omega) λIJ b=>?_
 replace b:=b.dw (i:=7) (ys:=(ts.set k {t.put e with ready:=true}).flatMap bZ) rfl ((vV bZ 8 qm (ts.set k (t.put e)) k (t.put e) {t.put e with ready:=true} (yT ht) 5 de _ rfl).trans (by rw [afn]))
 refine Jb Z b ((oK∘bg 3∘Jn∘Jf 3∘Jy (v:=vI (({t.put e with ready:=true}:Tk).cpu)) (h:=by exact Pd rfl rfl kr (λ_ h=>h.qv qm (i:=7) rfl (k:=k) (off:=3) (x:=({t.put e with ready:=true}:Tk)) ((yT ht)) rfl))∘Jo (vI ct) (by rw [<-Y];try rfl)∘JL (h:=by exact λb=>Ou 3 b rfl (j:=1) rfl de (FC (ts':=ts.set k {t.put e with ready:=true}) m (by rw [abL];exact I)) (uV) (uW) K hrg hsp X J (by show ((ct:Nat):Int)<cp;omega))) ?_)
 rintro b _ TB ⟨j5,rfl,hl2,hsp2,oD,uJ⟩
 refine ⟨_,rfl,_,(show Mem W TB (.blk F e.cells 333::abp D Q E bL 3 1::.blk g3 o.cells 214::fM O cp cr gA S gc lA U lc uA V uc (some ⟨d,0,none⟩) P tc (some ⟨g,0,none⟩) H sc::ai2 gA S gc gs lA U lc cl uA V uc cu (some ⟨d,0,none⟩) P tc (ts.set k {t.put e with ready:=true}) (some ⟨g,0,none⟩) H sc j5 (fR j5++(T))) from uJ),?_⟩
 exact (jh∘bg 2∘aQ∘bW) λb=>by exact qw (y:=(⟨cp,cr,gA,gc,gs,lA,lc,cl,uA,uc,cu,some ⟨d,0,none⟩,tc,(ts.set k {t.put e with ready:=true}),some ⟨g,0,none⟩,sc,j5⟩:aF)) 3 b rfl (Od (FC m (by rw [abL];exact I)) hl2) ((q8c (x:=(⟨cp,cr,gA,gc,gs,lA,lc,cl,uA,uc,cu,some ⟨d,0,none⟩,tc,ts,some ⟨g,0,none⟩,sc,rs⟩:aF)) (decide_eq_true p) hk ht hnr hgt Y hwt (yS (x:=(⟨cp,cr,gA,gc,gs,lA,lc,cl,uA,uc,cu,some ⟨d,0,none⟩,tc,ts,some ⟨g,0,none⟩,sc,rs⟩:aF)) (by show gt<abr rs;omega) hy hyz) N hem).trans (by rw [<-oD]))
def q3b (W w:ajg) (x:aF) (M:Nat) (B C A D E:Nat) (j:dY x B C A D E) (o:bQ) (q:o.Ok) (T:List ajr) (d:Mem W w (jS M x B C A D E++T)):
    Calls abt 152 #[vP M 0,.agg o.cells] w (kR W M T (kZ x.ay o)):=by
 obtain ⟨cp,cr,gA,gc,gs,lA,lc,cl,uA,uc,cu,tA,tc,ts,sA,sc,rs⟩:=x
 replace d:Mem W w (fM M cp cr gA B gc lA C lc uA A uc tA D tc sA E sc::ai2 gA B gc gs lA C lc cl uA A uc cu tA D tc ts sA E sc rs (fR rs++(T))):=d
 obtain ⟨G,H,z,I,J⟩:=j.ln
 replace G:abr gs=B:=G;replace H:abr cl=C:=H;replace z:abr cu=A:=z;replace I:abr ts=D:=I;replace J:abr rs=E:=J
 have e:=j.ln
 have hsp:fJ gs cp rs:=j.spots
 have hrg:abr rs=abr gs:=j.sh.rs
 have hcr:cr<18446744073709551616:=j.ok.aj
 obtain ⟨r,u,_,m⟩:=mX j.sh.cfg
 replace r:1<=cp:=r;replace u:cp<=64:=u;replace m:dO gs=true:=m
 have U:=(qt m).1;have V:=(qt m).2.1
 have X:(abr cl:Int)=cp:=j.sh.cl;have Y:(abr cu:Int)=cp:=j.sh.cu
 have oz:abr ts<=1000000:=j.few.t
 have N:=q.cpu;have O:=q.task;have P:=q.group;have Q:=q.weight;have K:=q.to;have L:=q.ticks;have Ad:=q.mask;have ru:=q.kind;unfold aX at N O P Q K L
 obtain ⟨b,rfl⟩:=zo (d.own (i:=3) rfl) om
 refine (mM d Tryz.func152 32) ?_
 refine (JP∘JE) λw3 g3=>(bO 2∘bM 1∘Jg 1 O0∘JI (h:=by exact λd=>FB 1 d rfl j o.cpu)) λw9 R=>(Jp 1∘eO∘Jj) (nQ (λf=>?_) λf=>?_)
 ·
  exact (JT∘bB 2∘bW) λd=>by exact qw (y:=(⟨cp,cr,gA,gc,gs,lA,lc,cl,some ⟨b,0,none⟩,uc,cu,tA,tc,ts,sA,sc,rs⟩:aF)) 1 d rfl e (if_pos (decide_eq_false f))
 replace f:0<=o.cpu/\o.cpu<cp:=f
 obtain ⟨c,p⟩:∃n:Nat,o.cpu=(n:Int):=⟨o.cpu.toNat,by omega⟩
 have sK:((c:Nat):Int)<cp:=by omega
 refine (aP) λa Z d=>?_
 refine wp_seq ?_
 refine Jb Z d ((Vs .n [12]) λwd3=>(Vp [0]∘Vf 5 1∘Vp [7]∘Vf 8 1∘Vn 1∘Vf 2 0∘Vf 3 4∘Vc 4 O1∘Vc 6 O0∘Vo (vI c) (by rw [p])∘Vc 9 O0∘Vo (vI c) (by rw [p])∘VI 10 .n (h:=by exact λd=>zfe 1 d rfl j (by show ((c:Nat):Int)<cp;omega))) λTD R=>(Vy 11 (h:=by exact Yl.iM b c 1 rfl rfl rfl)) λa Z d HS=>?_)
 refine s_on Z 12 rfl ?_
 refine zj Z d (i:=4) rfl rfl rfl rfl kr rfl rfl (by rw [abz];omega) λS d=>?_
 replace d:=d.dw (i:=4) (ys:=(cu.set c (qD (⟨cp,cr,gA,gc,gs,lA,lc,cl,some ⟨b,0,none⟩,uc,cu,tA,tc,ts,sA,sc,rs⟩:aF).ay c:Int)).map aZ) rfl (Gq aZ cu c (qD (⟨cp,cr,gA,gc,gs,lA,lc,cl,some ⟨b,0,none⟩,uc,cu,tA,tc,ts,sA,sc,rs⟩:aF).ay c:Int) om)
 refine dR kr ?_
 refine qe kr ?_
 refine wp_seq ?_
 exact Jb Z d ((Vs .n []) λwd4=>(Vp [0]∘Vf 5 1∘Vn 1∘Vf 2 0∘Vf 3 4∘Vc 4 O1∘Vc 6 O0∘Vo (vI c) (by rw [p])∘Vy 7 (h:=by exact Yl.iM b c 1 rfl rfl rfl)∘Vy 8 (v:=vI (qD (⟨cp,cr,gA,gc,gs,lA,lc,cl,some ⟨b,0,none⟩,uc,cu,tA,tc,ts,sA,sc,rs⟩:aF).ay c)) (h:=by exact Pd rfl rfl kr (λ_ h=>h.XU (i:=4) rfl (k:=c) (vY (F:=aZ) (k:=c) (x:=(qD (⟨cp,cr,gA,gc,gs,lA,lc,cl,some ⟨b,0,none⟩,uc,cu,tA,tc,ts,sA,sc,rs⟩:aF).ay c:Int)) ((List.getElem?_set_self om)))))∘Vp [9,10]∘Vd∘JZ∘bW) λd=>by exact qw (y:=(⟨cp,cr,gA,gc,gs,lA,lc,cl,some ⟨b,0,none⟩,uc,(cu.set c (qD (⟨cp,cr,gA,gc,gs,lA,lc,cl,some ⟨b,0,none⟩,uc,cu,tA,tc,ts,sA,sc,rs⟩:aF).ay c:Int)),tA,tc,ts,sA,sc,rs⟩:aF)) 1 d rfl ⟨e.g,e.l,by show abr (cu.set _ _)=A;rw [abL];exact z,e.t,e.s⟩ (zev (x:=(⟨cp,cr,gA,gc,gs,lA,lc,cl,some ⟨b,0,none⟩,uc,cu,tA,tc,ts,sA,sc,rs⟩:aF)) p (decide_eq_true f)))
def FJ (x e:En) (a:x.Ok) (d:Nat) (b:d<=4294967295) (c:x.add d=e) (w:ajg):Calls abt 210 #[.agg x.cells,vI d] w (Is w (.tuple #[.agg e.cells,vI 0])):=c▸zeu x a d b w
def qzm (n:Nat) (e:Mem W w F) (f:F.drop n=jS d x c m g a b++T) (h:dY x c m g a b) (id:Int) (k:Nat) (hk:fidx x.ts id=(k:Int)):Calls abt 161 #[vP d 0,vI id] w (Is w (vI k)):=hk▸Jt n e f h id
def zfh {m k b f i c:Nat} (h:dY x m k b f i) (v:Int) (j:0<=v/\v<=281474976710656):dY ({x with cl:=x.cl.set c v}:aF) m k b f i:=by
 refine ⟨⟨h.ok.au,h.ok.aj,h.ok.gs,λz hz=>?_,h.ok.cu,h.ok.ts,h.ok.sp⟩,⟨h.few.g,by show abr (x.cl.set c v)<=_;rw [abL];exact h.few.l,h.few.u,h.few.t,h.few.s,h.few.r⟩,⟨h.sh.cfg,by show (abr (x.cl.set c v):Int)=_;rw [abL];exact h.sh.cl,h.sh.cu,h.sh.rs,λd n=>?_,h.sh.row,h.sh.tk⟩,⟨h.ln.g,by show abr (x.cl.set c v)=_;rw [abL];exact h.ln.l,h.ln.u,h.ln.t,h.ln.s⟩⟩
 ·rcases ab4 hz with o|rfl
  ·exact h.ok.cl z o
  ·unfold aX;omega
 ·have a:d<abr (x.cl.set c v):=n
  show iV ((x.cl.set c v).getD d 0)=true
  rw [abL] at a
  by_cases e:c=d
  ·subst e
   rw [zf _ _ a]
   unfold iV
   rw [decide_eq_true j]
  ·rw [getD_set_ne _ _ e]
   exact h.sh.cls d a
def qt5 (h:fB x.ay c=true) (a:x.cu.getD c 0≠0):∃(k:Nat) (t:Tk),fidx x.ts (x.cu.getD c 0)=(k:Int)/\x.ts[k]?=some t/\k<abr x.ts/\t.id=x.cu.getD c 0:=by
 refine JN λb=>?_
 rw [qoo a (q7z b)] at h
 cases h
abbrev ah3:=λa b c d e f g=>((9,vP a 0)::(8,vP b (c*8))::(67,.bool false)::(7,vI d)::(33,.bool false)::(24,.bool false)::(18,.bool false)::(6,vP e 0)::(5,vI 0)::(4,vI 0)::(3,vP f 0)::(0,vP e 0)::g:List (Nat×ajh))
def q3c (W w:ajg) (x:aF) (M:Nat) (R N S O Q:Nat) (U:dY x R N S O Q) (o:bQ) (ho:o.Ok) (T:List ajr) (b:Mem W w (jS M x R N S O Q++T)) (hcur:∀c,c<abr x.cu->fB x.ay c=true):
    Calls abt 151 #[vP M 0,.agg o.cells] w (kR W M T (jU x.ay o)):=by
 obtain ⟨cp,cr,gA,gc,gs,lA,lc,cl,uA,uc,cu,tA,tc,ts,sA,sc,rs⟩:=x
 replace b:Mem W w (fM M cp cr gA R gc lA N lc uA S uc tA O tc sA Q sc::fG gA R gc gs::fI lA N lc cl::fI uA S uc cu::fT tA O tc ts::fS sA Q sc rs::(fR rs++(T))):=b
 obtain ⟨mZ,hll,oq,hlt,hls⟩:=U.ln
 replace mZ:abr gs=R:=mZ;replace hll:abr cl=N:=hll;replace oq:abr cu=S:=oq;replace hlt:abr ts=O:=hlt;replace hls:abr rs=Q:=hls
 have H:=U.ln
 have hsp:fJ gs cp rs:=U.spots
 have hrg:abr rs=abr gs:=U.sh.rs
 have hcr:cr<18446744073709551616:=U.ok.aj
 obtain ⟨hcp1,hcp2,_,V⟩:=mX U.sh.cfg
 replace hcp1:1<=cp:=hcp1;replace hcp2:cp<=64:=hcp2;replace V:dO gs=true:=V
 have ou:=(qt V).1;have ow:=(qt V).2.1
 have qZ:(abr cl:Int)=cp:=U.sh.cl;have pK:(abr cu:Int)=cp:=U.sh.cu
 have oz:abr ts<=1000000:=U.few.t
 have hoc:=ho.cpu;have hot:=ho.task;have hog:=ho.group;have how:=ho.weight;have pO:=ho.to;have pQ:=ho.ticks;have Ad:=ho.mask;have ru:=ho.kind;unfold aX at hoc hot hog how pO pQ
 have TF:=U.ok.cu;have aoM:=U.ok.cl
 have hcls:=U.sh.cls
 obtain ⟨B,rfl⟩:=zo (b.own (i:=1) rfl) om
 obtain ⟨q,rfl⟩:=zo (b.own (i:=2) rfl) om
 obtain ⟨C,rfl⟩:=zo (b.own (i:=3) rfl) om
 obtain ⟨D,rfl⟩:=zo (b.own (i:=5) rfl) om
 refine (mM b Tryz.func151 158) ?_
 refine (JP∘JE) λw3 g3=>(Jp 2∘bg 1∘Jn∘Jf 0∘Jp 1∘eO∘Jj∘JQ∘JB∘aM 1∘Jg 1 O0∘JI (h:=by exact λb=>FB 1 b rfl U o.cpu)) λQJ L=>(Jp 2∘fK∘Jj) (nQ (λJ=>?_) λJ=>?_)
 ·
  exact (JT∘bB 2∘bW) λb=>by exact qw (y:=(⟨cp,cr,some ⟨B,0,none⟩,gc,gs,some ⟨q,0,none⟩,lc,cl,some ⟨C,0,none⟩,uc,cu,tA,tc,ts,some ⟨D,0,none⟩,sc,rs⟩:aF)) 1 b rfl H (if_pos (decide_eq_false J))
 replace J:0<=o.cpu/\o.cpu<cp:=J
 obtain ⟨c,X⟩:∃n:Nat,o.cpu=(n:Int):=⟨o.cpu.toNat,by omega⟩
 have sK:((c:Nat):Int)<cp:=by omega
 have Y:=hcls c (by show c<abr cl;omega);replace Y:0<=(cl.getD c 0)/\(cl.getD c 0)<=281474976710656:=by unfold iV at Y;simpa using Y
 obtain ⟨v,hv⟩:∃z,(cl.getD c 0)=z:=⟨_,rfl⟩
 rw [hv] at Y
 refine (JF∘JP∘Jg 6 O0∘Jp 2) (Ji (λhd28=>?_) λhd28=>?_)
 ·
  exact (Jp 5∘aI∘Jj∘JT∘bB 2∘bW) λb=>by exact qw (y:=(⟨cp,cr,some ⟨B,0,none⟩,gc,gs,some ⟨q,0,none⟩,lc,cl,some ⟨C,0,none⟩,uc,cu,tA,tc,ts,some ⟨D,0,none⟩,sc,rs⟩:aF)) 1 b rfl H ((if_neg (nf (decide_eq_true J))).trans (if_pos om))
 refine (Jg 6 O0∘Jp 3∘aI∘Jj) (Ji (λhd24=>?_) λhd24=>?_)
 ·
  exact (JT∘bB 2∘bW) λb=>by exact qw (y:=(⟨cp,cr,some ⟨B,0,none⟩,gc,gs,some ⟨q,0,none⟩,lc,cl,some ⟨C,0,none⟩,uc,cu,tA,tc,ts,some ⟨D,0,none⟩,sc,rs⟩:aF)) 1 b rfl H ((if_neg (nf (decide_eq_true J))).trans (if_pos om))
 have htk:1<=o.ticks/\o.ticks<=4294967295:=by omega
 obtain ⟨d,hod⟩:∃n:Nat,o.ticks=(n:Int):=⟨o.ticks.toNat,by omega⟩
 have hd0:d<=4294967295:=by omega
 refine (JF) λa Z b=>?_
 refine wp_seq ?_
 refine Jb Z b ((Vs .n []) λHY=>(Vp [0]∘Vf 4 1∘Vf 8 6∘Vn 1∘Vf 2 3∘Vc 3 O1∘Vc 5 O0∘Vo (vI c) (by rw [X])∘Vy 6 (h:=by exact Yl.iM q c 1 rfl rfl rfl)∘Vy 7 (v:=vI (cl.getD c 0)) (h:=by exact aae 3 c 0 om rfl rfl rfl)∘Vo (vI v) (by rw [hv])∘Vc 9 O0∘Vo (vI d) (by rw [hod])∘Vp [10]∘Vo (vI (v+d)) (by exact nN ⟨by omega,by omega⟩)∘Vp [11,12]∘Vd∘aI) (Ji (λTG=>?_) λTG=>?_))
 ·
  exact (JT∘bB 2∘bW) λb=>by exact qw (y:=(⟨cp,cr,some ⟨B,0,none⟩,gc,gs,some ⟨q,0,none⟩,lc,cl,some ⟨C,0,none⟩,uc,cu,tA,tc,ts,some ⟨D,0,none⟩,sc,rs⟩:aF)) 1 b rfl H ((if_neg (nf (decide_eq_true J))).trans ((if_neg om).trans (if_pos (by show 281474976710656<cl.getD o.cpu.toNat 0+o.ticks;rw [X,abI,hv];omega))))
 obtain ⟨id,hid⟩:∃z,cu.getD c 0=z:=⟨_,rfl⟩
 have hxk:=zfh (x:=(⟨cp,cr,some ⟨B,0,none⟩,gc,gs,some ⟨q,0,none⟩,lc,cl,some ⟨C,0,none⟩,uc,cu,tA,tc,ts,some ⟨D,0,none⟩,sc,rs⟩:aF)) (c:=c) U (v+d) ⟨by omega,by omega⟩
 have TH:aX id:=by rw [<-hid];exact TF _ (qf 0 (by show c<abr cu;omega))
 intro a Z b
 unfold aX at TH
 refine Jb Z b ((aP) λa Z b=>?_)
 refine wp_seq ?_
 refine Jb Z b ((Vs .n [12]) λOq=>(Vp [0]∘Vf 4 1∘Vf 8 6∘Vn 1∘Vf 2 3∘Vc 3 O1∘Vc 5 O0∘Vo (vI c) (by rw [X])∘Vy 6 (h:=by exact Yl.iM q c 1 rfl rfl rfl)∘Vy 7 (v:=vI (cl.getD c 0)) (h:=by exact aae 3 c 0 om rfl rfl rfl)∘Vo (vI v) (by rw [hv])∘Vc 9 O0∘Vo (vI d) (by rw [hod])∘Vp [10]∘Vo (vI (v+d)) (by exact nN ⟨by omega,by omega⟩)∘Vy 11 (h:=by exact Yl.iM q c 1 rfl rfl rfl)) λa Z b I=>?_)
 refine s_on Z 12 rfl ?_
 refine zj Z b (i:=3) rfl rfl rfl rfl kr rfl rfl (by rw [abz];omega) λacd b=>?_
 replace b:=b.dw (i:=3) (ys:=(cl.set c (v+d)).map aZ) rfl (Gq aZ cl c (v+d) om)
 refine dR kr ?_
 refine qe kr ?_
 refine wp_seq ?_
 refine Jb Z b ((Vs .n []) λRN=>(Vp [0]∘Vf 4 1∘Vn 1∘Vf 2 4∘Vc 3 O1∘Vc 5 O0∘Vo (vI c) (by rw [X])∘Vy 6 (h:=by exact Yl.iM C c 1 rfl rfl rfl)∘Vy 7 (v:=vI (cu.getD c 0)) (h:=by exact aae 4 c 0 om rfl rfl rfl)∘Vo (vI id) (by rw [hid])∘Vp [8]∘Vd∘aI∘bM 2∘aL∘Jj) (Je (λDR=>?_) λDR=>?_))
 ·
  exact (JT∘bB 2∘bW) λb=>by exact qw (y:=(⟨cp,cr,some ⟨B,0,none⟩,gc,gs,some ⟨q,0,none⟩,lc,(cl.set c (v+d)),some ⟨C,0,none⟩,uc,cu,tA,tc,ts,some ⟨D,0,none⟩,sc,rs⟩:aF)) 1 b rfl ⟨H.g,by show abr (cl.set _ _)=N;rw [abL];exact hll,H.u,H.t,H.s⟩ ((q8d (x:=(⟨cp,cr,some ⟨B,0,none⟩,gc,gs,some ⟨q,0,none⟩,lc,cl,some ⟨C,0,none⟩,uc,cu,tA,tc,ts,some ⟨D,0,none⟩,sc,rs⟩:aF)) (decide_eq_true J) htk X hv om (hid.trans om)).trans (by rw [hod]))
 have J8:id≠0:=by omega
 have J9:=qt5 (x:=(⟨cp,cr,some ⟨B,0,none⟩,gc,gs,some ⟨q,0,none⟩,lc,cl,some ⟨C,0,none⟩,uc,cu,tA,tc,ts,some ⟨D,0,none⟩,sc,rs⟩:aF)) (hcur c (by show c<abr cu;omega)) (by show cu.getD c 0≠0;rw [hid];exact J8)
 rw [show (⟨cp,cr,some ⟨B,0,none⟩,gc,gs,some ⟨q,0,none⟩,lc,cl,some ⟨C,0,none⟩,uc,cu,tA,tc,ts,some ⟨D,0,none⟩,sc,rs⟩:aF).cu.getD c 0=id from hid] at J9
 obtain ⟨k,t,hk,ht,hkl,Ae⟩:=J9
 replace hk:fidx ts id=(k:Int):=hk;replace ht:ts[k]?=some t:=ht;replace hkl:k<abr ts:=hkl
 obtain ⟨Ka,hto⟩:=U.task ht
 have hti:=Ka.id;have wZ:=Ka.group;have htc:=Ka.cpu;have J6:=Ka.weight;have Ag:=hto.v;have htr:=hto.r;have J7:=hto.mask
 replace htc:0<=t.cpu/\t.cpu<cp:=htc
 obtain ⟨gt,hgt⟩:∃n:Nat,t.group=(n:Int):=⟨t.group.toNat,by omega⟩
 obtain ⟨ct,hct⟩:∃n:Nat,t.cpu=(n:Int):=⟨t.cpu.toNat,by omega⟩
 obtain ⟨wt,hwt⟩:∃n:Nat,t.weight=(n:Int):=⟨t.weight.toNat,by omega⟩
 have sZ:(⟨t.v,t.r,wt⟩:En).Ok:=aaj Ka.ent hwt Ag
 obtain ⟨e,Kc⟩:∃e,(⟨t.v,t.r,wt⟩:En).add d=e:=⟨_,rfl⟩
 have wz:e.Ok/\e.w=wt:=by rw [<-Kc];exact aaA sZ d
 repeat (first|clear Z|clear b)
 intro a Z b
 obtain ⟨E,rfl⟩:=b.rat 5 k (hk:=(by omega:k<O))
 refine Jb Z b ((aP) λa Z b=>?_)
 refine wp_seq ?_
 refine Jb Z b ((Vs .n []) λH6=>(Vp [0,4,5]∘Vn 1∘Vf 2 5∘Vc 3 O1∘VI 6 .n (h:=by exact λb=>qzm 1 b rfl hxk id k hk)) λw74 L=>(Vy 7 (h:=by exact Yl.iM E k 8 rfl rfl rfl)∘Vp [8]∘Vd∘aI) λa Z b=>?_)
 refine qz (λaS wS=>∃(P:Nat),Fr aS 158 [] (ah3 P E k id M g3 [])/\Mem W wS (.blk P e.cells 333:: .blk g3 o.cells 214::fM M cp cr (some ⟨B,0,none⟩) R gc (some ⟨q,0,none⟩) N lc (some ⟨C,0,none⟩) S uc (some ⟨E,0,none⟩) O tc (some ⟨D,0,none⟩) Q sc::fG (some ⟨B,0,none⟩) R gc gs::fI (some ⟨q,0,none⟩) N lc (cl.set c (v+d))::fI (some ⟨C,0,none⟩) S uc cu::fT (some ⟨E,0,none⟩) O tc ts::fS (some ⟨D,0,none⟩) Q sc rs::(fR rs++(T)))) ?_ ?_
 ·
  refine Jb Z b ((Vs .n [20]) λIK=>(Vp [0,4,8]∘Vf 13 6∘Vn 1∘Vf 2 6∘Vy 3 (v:=vQ t.v) (h:=by exact Pd rfl rfl kr (λ_ h=>h.qv qm (i:=5) rfl (k:=k) (off:=6) (x:=t) (ht) rfl))∘Vn 5∘Vf 6 7∘Vy 7 (v:=vW t.r) (h:=by exact Pd rfl rfl kr (λ_ h=>h.qv qm (i:=5) rfl (k:=k) (off:=7) (x:=t) (ht) rfl))∘Vn 9∘Vf 10 2∘Vy 11 (v:=vI t.weight) (h:=by exact Pd rfl rfl kr (λ_ h=>h.qv qm (i:=5) rfl (k:=k) (off:=2) (x:=t) (ht) rfl))∘Vo (vI wt) (by rw [hwt])∘Vc 14 O0∘Vo (vI d) (by rw [hod])) λa Z b I=>?_)
  refine zh [12,19] kr rfl ?_
  refine all_cons ?_ ?_
  ·refine qu Z (i:=12) rfl rfl ?_
   refine jB Z b [vQ t.v,vW t.r,vI wt] (.agg #[vQ t.v,vW t.r,vW wt]) rfl rfl (zk t.v t.r (wt:Int) om _) λTI L b a Z=>?_
   refine av (b.pt 7 [0,1,2,3,4,5,6]) (λI=>?_)
   refine zh [15,19] kr rfl ?_
   refine all_cons ?_ ?_
   ·refine qu Z (i:=15) rfl rfl ?_
    refine jB Z b [.agg #[vQ t.v,vW t.r,vW wt],vI d] (.tuple #[.agg e.cells,vI 0]) rfl rfl (FJ (⟨t.v,t.r,wt⟩:En) e sZ d hd0 Kc _) λTA L b a Z=>?_
    refine av (b.pt 7 [0,1,2,3,4,5,6]) (λI=>?_)
    refine Vb Z b I ((Vp [16]∘Vx 17∘Vx 18∘VA 19 .n #[vQ 0,vW 0,vW 0]) λw9 P=>λa Z b I=>?_)
    refine s_on Z 20 rfl (bV Z b 0 rfl rfl rfl rfl rfl qp rfl rfl (mO e) λxg b=>?_)
    refine dR kr ?_
    refine ap Z (cK kr) [21] (bt 22 []) [] λa Z=>?_
    refine qe kr ?_
    replace Z:=Z.to (ah3 P E k id M g3 [])
    exact ⟨P,Z.sub kr,b.pt 8 [0,1,2,3,4,5,6,7]⟩
   refine all_cons ?_ all_nil
   refine qu Z (i:=19) rfl rfl ?_
   refine iq Z b #[vQ 0,vW 0,vW 0] ?_
   clear Z b;intro a w9 P Z b
   refine av (b.pt 8 [1,2,3,4,5,6,7]) (λI=>?_)
   refine Vb Z b I ((VI 15 (.f .n) (h:=by exact λb=>FJ (⟨t.v,t.r,wt⟩:En) e sZ d hd0 Kc _)) λTA L=>(Vp [16]∘Vx 17∘Vx 18) λa Z b I=>?_)
   refine s_on Z 20 rfl (bV Z b 0 rfl rfl rfl rfl rfl qp rfl rfl (mO e) λxg b=>?_)
   refine dR kr ?_
   refine ap Z (cK kr) [21] (bt 22 []) [] λa Z=>?_
   refine qe kr ?_
   replace Z:=Z.to (ah3 P E k id M g3 [])
   exact ⟨P,Z.sub kr,b.pt 8 [0,1,2,3,4,5,6,7]⟩
  refine all_cons ?_ all_nil
  refine qu Z (i:=19) rfl rfl ?_
  refine iq Z b #[vQ 0,vW 0,vW 0] ?_
  clear Z b;intro a w9 P Z b
  refine av (b.pt 8 [1,2,3,4,5,6,7]) (λI=>?_)
  refine Vb Z b I ((VI 12 (.f .n) (h:=by exact λb=>zk t.v t.r (wt:Int) om _)) λTI L=>(VI 15 (.f .n) (h:=by exact λb=>FJ (⟨t.v,t.r,wt⟩:En) e sZ d hd0 Kc _)) λTA L=>(Vp [16]∘Vx 17∘Vx 18) λa Z b I=>?_)
  refine s_on Z 20 rfl (bV Z b 0 rfl rfl rfl rfl rfl qp rfl rfl (mO e) λxg b=>?_)
  refine dR kr ?_
  refine ap Z (cK kr) [21] (bt 22 []) [] λa Z=>?_
  refine qe kr ?_
  replace Z:=Z.to (ah3 P E k id M g3 [])
  exact ⟨P,Z.sub kr,b.pt 8 [0,1,2,3,4,5,6,7]⟩
 clear Z b;rintro a wB ⟨P,Z,b⟩
 refine Jb Z b ((aM 1∘eF qp O0∘JO (h:=by exact λb=>Ob t e vw b ht hlt wz.1)) λRD=>(oK∘Jj∘bM 1∘Jn∘Jf 1∘Jy (v:=vI ((t.put e).group)) (h:=by exact Pd rfl rfl kr (λ_ h=>h.qv qm (i:=6) rfl (k:=k) (off:=1) (x:=(t.put e)) ((yT ht)) rfl))∘Jo (vI gt) (by rw [<-hgt];try rfl)∘Jp 1∘fK∘Jj∘JB) λa Z b=>?_)
 refine qg (λmS aS wS=>∃(g:Nat) (F:List Rw),(g<Q)/\(abr F=Q)/\(fJ gs cp F)/\(FD c d g (⟨cp,cr,some ⟨B,0,none⟩,gc,gs,some ⟨q,0,none⟩,lc,cl.set c (v+d),some ⟨C,0,none⟩,uc,cu,some ⟨E,0,none⟩,tc,ts.set k (t.put e),some ⟨D,0,none⟩,sc,F⟩:aF).ay=FD c d gt (⟨cp,cr,some ⟨B,0,none⟩,gc,gs,some ⟨q,0,none⟩,lc,cl.set c (v+d),some ⟨C,0,none⟩,uc,cu,some ⟨E,0,none⟩,tc,ts.set k (t.put e),some ⟨D,0,none⟩,sc,rs⟩:aF).ay)/\mS=0+g/\Fr aS 158 [] ((11,vI g)::ah3 P E k id M g3 [])/\Mem W wS (.blk P e.cells 333:: .blk g3 o.cells 214::fM M cp cr (some ⟨B,0,none⟩) R gc (some ⟨q,0,none⟩) N lc (some ⟨C,0,none⟩) S uc (some ⟨E,0,none⟩) O tc (some ⟨D,0,none⟩) Q sc::fG (some ⟨B,0,none⟩) R gc gs::fI (some ⟨q,0,none⟩) N lc (cl.set c (v+d))::fI (some ⟨C,0,none⟩) S uc cu::fT (some ⟨E,0,none⟩) O tc (ts.set k (t.put e))::fS (some ⟨D,0,none⟩) Q sc F::(fR F++(T)))) (m:=0+gt) ⟨gt,rs,by omega,hls,hsp,rfl,rfl,Z.sub kr,b.pt 8 [0,1,2,3,4,5,6,7]⟩ ?_
 clear Z b;rintro mS a w_ ⟨g,F,hg,hl2,hsp2,oD,rfl,Z,b⟩
 refine Jb Z b ((bM 2∘aL∘Jj) (Ji (λKe=>?_) λKe=>?_))
 ·
  have hg0:0<g:=by omega
  obtain ⟨⟨yA,yc,yl⟩,hy⟩:∃y,F.getD g Rw.zero=y:=⟨_,rfl⟩
  have hys:=hsp2 g om;rw [hy] at hys
  have hyl:(abr yl:Int)=cp:=hys.1
  repeat (first|clear Z|clear b)
  intro a Z b
  obtain ⟨gy,rfl⟩:=b.jW 8 rfl om hy om
  obtain ⟨G,hyz⟩:∃z,yl[c]?=some z:=⟨_,abv om⟩
  have nU:=hys.2 G (abK hyz)
  have hyv:=nU.1.v;have tH:=nU.1.r;have tN:=nU.1.floor
  have hpb:=zR V (g:=g) om g hg0 (abx _)
  unfold fA at hpb
  obtain ⟨p,hpp⟩:∃p:Nat,(gs.getD g Gr.zero).parent=(p:Int):=⟨(gs.getD g Gr.zero).parent.toNat,by omega⟩
  have hpg:p<g:=by omega
  obtain ⟨zw,BF,TJ,TK⟩:=Oa V (g:=g) om
  have BG:(⟨G.v,G.r,zw⟩:En).Ok:=aaj nU.2 BF nU.1.v
  obtain ⟨f,hfw⟩:∃e,(⟨G.v,G.r,zw⟩:En).add d=e:=⟨_,rfl⟩
  have hfo:f.Ok/\f.w=zw:=by rw [<-hfw];exact aaA BG d
  have hfv:=hfo.1.2;have hfr:f.r<4294967296:=by have:=BD hfo.1.1;omega
  refine Jb Z b ((eP) λa Z b=>?_)
  refine wp_seq ?_
  refine Jb Z b ((Vs .n []) λGZ=>(Vp [0,4]∘Vf 7 1∘Vn 1∘Vf 2 6∘Vc 3 O2∘Vy 5 (h:=by exact Yl.iM D g 1 rfl rfl rfl)∘Vy 6 (v:= .slice ((F.getD g Rw.zero).A) ((F.getD g Rw.zero).l.length) ((F.getD g Rw.zero).c)) (h:=by exact aae 7 g Rw.zero om rfl rfl rfl)∘Vo (vS gy (abr yl) yc) (by rw [hy])∘Vc 8 O1∘Vo (vI c) (by rw [X])∘Vy 9 (h:=by exact Yl.iM gy c 3 rfl rfl rfl)∘Vp [10]∘Vd∘aI) λa Z b=>?_)
  refine qz (λaS wS=>∃(K:Nat),Fr aS 158 [] ((13,vP K 0)::(12,vP gy (c*3))::(103,.bool true)::(11,vI g)::ah3 P E k id M g3 [])/\Mem W wS (.blk K f.cells 333:: .blk P e.cells 333:: .blk g3 o.cells 214::fM M cp cr (some ⟨B,0,none⟩) R gc (some ⟨q,0,none⟩) N lc (some ⟨C,0,none⟩) S uc (some ⟨E,0,none⟩) O tc (some ⟨D,0,none⟩) Q sc::fG (some ⟨B,0,none⟩) R gc gs::fI (some ⟨q,0,none⟩) N lc (cl.set c (v+d))::fI (some ⟨C,0,none⟩) S uc cu::fT (some ⟨E,0,none⟩) O tc (ts.set k (t.put e))::fS (some ⟨D,0,none⟩) Q sc F::(fR F++(T)))) ?_ ?_
  ·
   refine Jb Z b ((Vs .n [25]) λQ0=>(Vp [0,4,8,13]∘Vf 18 6∘Vn 1∘Vf 2 0∘Vy 3 (v:=vQ G.v) (h:=by exact Pd rfl rfl kr (λ_ h=>h.vJ 8 (j:=0) rfl om hy (hyz) rfl))∘Vn 5∘Vf 6 1∘Vy 7 (v:=vW G.r) (h:=by exact Pd rfl rfl kr (λ_ h=>h.vJ 8 (j:=1) rfl om hy (hyz) rfl))∘Vn 9∘Vf 10 0∘Vf 11 2∘Vc 12 O2∘Vy 14 (h:=by exact Yl.iM B g 2 rfl rfl rfl)∘Vf 15 1∘Vy 16 (v:=vI ((gs.getD g Gr.zero).weight)) (h:=by exact Pd rfl rfl kr (λ_ h=>h.qv qC (i:=3) rfl (k:=g) (off:=1) (x:=(gs.getD g Gr.zero)) ((getD_at Gr.zero om)) rfl))∘Vo (vI zw) (by rw [BF])∘Vc 19 O1∘Vo (vI d) (by rw [hod])) λa Z b I=>?_)
   refine zh [17,24] kr rfl ?_
   refine all_cons ?_ ?_
   ·refine qu Z (i:=17) rfl rfl ?_
    refine jB Z b [vQ G.v,vW G.r,vI zw] (.agg #[vQ G.v,vW G.r,vW zw]) rfl rfl (zk G.v G.r (zw:Int) om _) λDT L b a Z=>?_
    refine av (b.pt 8 [0,1,2,3,4,5,6,7]) (λI=>?_)
    refine zh [20,24] kr rfl ?_
    refine all_cons ?_ ?_
    ·refine qu Z (i:=20) rfl rfl ?_
     refine jB Z b [.agg #[vQ G.v,vW G.r,vW zw],vI d] (.tuple #[.agg f.cells,vI 0]) rfl rfl (FJ (⟨G.v,G.r,zw⟩:En) f BG d hd0 hfw _) λDU L b a Z=>?_
     refine av (b.pt 8 [0,1,2,3,4,5,6,7]) (λI=>?_)
     refine Vb Z b I ((Vp [21]∘Vx 22∘Vx 23∘VA 24 .n #[vQ 0,vW 0,vW 0]) λwB K=>λa Z b I=>?_)
     refine s_on Z 25 rfl (bV Z b 0 rfl rfl rfl rfl rfl qp rfl rfl (mO f) λxk b=>?_)
     refine dR kr ?_
     refine ap Z (cK kr) [26] (bt 27 []) [] λa Z=>?_
     refine qe kr ?_
     exact ⟨K,Z.sub kr,b.pt 9 [0,1,2,3,4,5,6,7,8]⟩
    refine all_cons ?_ all_nil
    refine qu Z (i:=24) rfl rfl ?_
    refine iq Z b #[vQ 0,vW 0,vW 0] ?_
    clear Z b;intro a wB K Z b
    refine av (b.pt 9 [1,2,3,4,5,6,7,8]) (λI=>?_)
    refine Vb Z b I ((VI 20 (.f .n) (h:=by exact λb=>FJ (⟨G.v,G.r,zw⟩:En) f BG d hd0 hfw _)) λDU L=>(Vp [21]∘Vx 22∘Vx 23) λa Z b I=>?_)
    refine s_on Z 25 rfl (bV Z b 0 rfl rfl rfl rfl rfl qp rfl rfl (mO f) λxk b=>?_)
    refine dR kr ?_
    refine ap Z (cK kr) [26] (bt 27 []) [] λa Z=>?_
    refine qe kr ?_
    exact ⟨K,Z.sub kr,b.pt 9 [0,1,2,3,4,5,6,7,8]⟩
   refine all_cons ?_ all_nil
   refine qu Z (i:=24) rfl rfl ?_
   refine iq Z b #[vQ 0,vW 0,vW 0] ?_
   clear Z b;intro a wB K Z b
   refine av (b.pt 9 [1,2,3,4,5,6,7,8]) (λI=>?_)
   refine Vb Z b I ((VI 17 (.f .n) (h:=by exact λb=>zk G.v G.r (zw:Int) om _)) λDT L=>(VI 20 (.f .n) (h:=by exact λb=>FJ (⟨G.v,G.r,zw⟩:En) f BG d hd0 hfw _)) λDU L=>(Vp [21]∘Vx 22∘Vx 23) λa Z b I=>?_)
   refine s_on Z 25 rfl (bV Z b 0 rfl rfl rfl rfl rfl qp rfl rfl (mO f) λxk b=>?_)
   refine dR kr ?_
   refine ap Z (cK kr) [26] (bt 27 []) [] λa Z=>?_
   refine qe kr ?_
   exact ⟨K,Z.sub kr,b.pt 9 [0,1,2,3,4,5,6,7,8]⟩
  clear Z b;rintro a Ow ⟨K,Z,b⟩
  refine Gl b [.blk K f.cells 333,.blk P e.cells 333,.blk g3 o.cells 214,fM M cp cr (some ⟨B,0,none⟩) R gc (some ⟨q,0,none⟩) N lc (some ⟨C,0,none⟩) S uc (some ⟨E,0,none⟩) O tc (some ⟨D,0,none⟩) Q sc,fG (some ⟨B,0,none⟩) R gc gs,fI (some ⟨q,0,none⟩) N lc (cl.set c (v+d)),fI (some ⟨C,0,none⟩) S uc cu,fT (some ⟨E,0,none⟩) O tc (ts.set k (t.put e))] [0,1,2,3,4,5,6,7] [11] λb I=>?_
  refine ap Z (λ_=>I) [0,1,2,4] (bf 12 [0,1,2,4]) [(151,vP K 1),(149,vP K 0),(148,vP gy (c*3)),(147,vP gy (c*3))] λa Z=>?_
  refine dJ Z I 3 0 (v:=vQ f.v) λa Z=>?_
  refine dJ Z I 5 0 (v:=vW f.r) λa Z=>?_
  refine pE Z I 6 λa Z=>?_
  refine ap Z (λ_=>I) [7] (bt 12 [8,9,10,11]) [(154,vP gy (c*3))] λa Z=>?_
  refine s_on Z 8 rfl ?_
  refine DJ Z b 8 (c:=c) 0 ({G with v:=f.v}) rfl rfl rfl rfl kr rfl rfl om (hy) (hyz) rfl de rfl λKg b=>?_
  replace b:Mem W Kg (.blk K f.cells 333:: .blk P e.cells 333:: .blk g3 o.cells 214::fM M cp cr (some ⟨B,0,none⟩) R gc (some ⟨q,0,none⟩) N lc (some ⟨C,0,none⟩) S uc (some ⟨E,0,none⟩) O tc (some ⟨D,0,none⟩) Q sc::fG (some ⟨B,0,none⟩) R gc gs::fI (some ⟨q,0,none⟩) N lc (cl.set c (v+d))::fI (some ⟨C,0,none⟩) S uc cu::fT (some ⟨E,0,none⟩) O tc (ts.set k (t.put e))::fS (some ⟨D,0,none⟩) Q sc (aT F g c ({G with v:=f.v}))::(fR (aT F g c ({G with v:=f.v}))++(T))):=b
  refine av (b.pk [0,1,2,3,4,5,6,7]) (λI=>?_)
  refine CG Z (λ_=>I) 9 λa Z=>?_
  refine ap Z (λ_=>I) [10] (bt 12 [11]) [(156,vP gy (c*3+1))] λa Z=>?_
  refine s_on Z 11 rfl ?_
  refine DJ Z b 8 (c:=c) 1 ({G with v:=f.v,r:=f.r}) rfl rfl rfl rfl kr rfl rfl (by first|omega|(rw [zu];omega)) (N7 om hy) (yT hyz) rfl de rfl λDV b=>?_
  replace b:Mem W DV (.blk K f.cells 333:: .blk P e.cells 333:: .blk g3 o.cells 214::fM M cp cr (some ⟨B,0,none⟩) R gc (some ⟨q,0,none⟩) N lc (some ⟨C,0,none⟩) S uc (some ⟨E,0,none⟩) O tc (some ⟨D,0,none⟩) Q sc::fG (some ⟨B,0,none⟩) R gc gs::fI (some ⟨q,0,none⟩) N lc (cl.set c (v+d))::fI (some ⟨C,0,none⟩) S uc cu::fT (some ⟨E,0,none⟩) O tc (ts.set k (t.put e))::fS (some ⟨D,0,none⟩) Q sc (aT (aT F g c ({G with v:=f.v})) g c ({G with v:=f.v,r:=f.r}))::(fR (aT (aT F g c ({G with v:=f.v})) g c ({G with v:=f.v,r:=f.r}))++(T))):=b
  rw [SN (by first|omega|(rw [zu];omega))] at b
  refine dR kr ?_
  refine qe kr ?_
  refine Jb Z b ((JG∘JR∘Jp 1∘Jn∘Jf 0∘Jg 2 O3∘Jp 1∘nP g 2∘Jf 0∘Jy (v:=vI ((gs.getD g Gr.zero).parent)) (h:=by exact Pd rfl rfl kr (λ_ h=>(by have:=h.qv qC (i:=4) rfl (k:=g) (off:=0) (x:=(gs.getD g Gr.zero)) ((getD_at Gr.zero om)) rfl;simpa using this)))∘Jo (vI p) (by rw [hpp])∘Jp 1∘aI∘Jq) λa Z b=>?_)
  exact ⟨_,om,p,(aT F g c {G with v:=f.v,r:=f.r}),by omega,by rw [zu];exact hl2,hsp2.put {G with v:=f.v,r:=f.r} ⟨hfv,hfr,nU.1.floor⟩ (by rw [BF];have:=hfo.1.1;rw [hfo.2] at this;exact this),by rw [<-oD,qtr (c:=c) (d:=d) (g:=g) (p:=p) (zR V om) hg0 hpp,qwt (x:=(⟨cp,cr,some ⟨B,0,none⟩,gc,gs,some ⟨q,0,none⟩,lc,(cl.set c (v+d)),some ⟨C,0,none⟩,uc,cu,some ⟨E,0,none⟩,tc,(ts.set k (t.put e)),some ⟨D,0,none⟩,sc,F⟩:aF)) (by show g<abr F;omega) hy hyz BF hfw],rfl,Z.sub kr,b.pt 9 [1,2,3,4,5,6,7,8]⟩
 exact (JF∘JX∘JG∘bB 3∘bW) λb=>by exact qw (y:=(⟨cp,cr,some ⟨B,0,none⟩,gc,gs,some ⟨q,0,none⟩,lc,(cl.set c (v+d)),some ⟨C,0,none⟩,uc,cu,some ⟨E,0,none⟩,tc,(ts.set k (t.put e)),some ⟨D,0,none⟩,sc,F⟩:aF)) 2 b rfl ⟨H.g,by show abr (cl.set _ _)=N;rw [abL];exact hll,H.u,by show abr (ts.set _ _)=O;rw [abL];exact hlt,hl2⟩ ((zew (x:=(⟨cp,cr,some ⟨B,0,none⟩,gc,gs,some ⟨q,0,none⟩,lc,cl,some ⟨C,0,none⟩,uc,cu,some ⟨E,0,none⟩,tc,ts,some ⟨D,0,none⟩,sc,rs⟩:aF)) (decide_eq_true J) htk X hod hv om hid J8 hk ht hgt hwt Kc).trans (by rw [<-show FD c d g (⟨cp,cr,some ⟨B,0,none⟩,gc,gs,some ⟨q,0,none⟩,lc,cl.set c (v+d),some ⟨C,0,none⟩,uc,cu,some ⟨E,0,none⟩,tc,ts.set k (t.put e),some ⟨D,0,none⟩,sc,F⟩:aF).ay=_ from oD,show g=0 by omega];rfl))
def TL (x e:En) (a:x.Ok) (fr to:Nat) (b:fr<18446744073709551616) (ht:to<18446744073709551616) (c:x.moved fr to=e) (w:ajg):Calls abt 269 #[.agg x.cells,vQ fr,vQ to] w (Is w (.tuple #[.agg e.cells,vI 0])):=c▸q8a x a fr to b ht w
def xq (w:ajg) (l:List Int) (v:Int) (r:ajk) (a:ajg):Prop:=(∃i:Int,r= .returned (vI i)/\decide (i>=0)=decide (v∈l))/\Below w.heap.size w a
def q3d {l:List Int} {v:Int} (hk:k<abr l) (h:l.getD k 0=v) (hb:Below w.heap.size w W):xq w l v (.returned (vI k)) W:=⟨⟨k,rfl,decide_eq_decide.2 ⟨λ_=>h▸qf 0 hk,λ_=>by omega⟩⟩,hb⟩
def q3e {l:List Int} {v:Int} (h:∀i,i<abr l->l.getD i 0≠v) (hb:Below w.heap.size w W):xq w l v (.returned (vI (-1))) W:=by
 refine ⟨⟨-1,rfl,decide_eq_decide.2 ⟨λa=>by omega,λa=>?_⟩⟩,hb⟩
 obtain ⟨i,hi,rfl⟩:=acn a
 exact absurd (by rw [abw,abv hi];rfl) (h i hi)
def zl1 {l:List Int} {v:Int} (h:∀i,i<k->l.getD i 0≠v) (hk:l.getD k 0≠v):∀i,i<k+1->l.getD i 0≠v:=λi hi=>by
 rcases ab0 i k with a|a
 ·exact h i a
 ·obtain rfl:i=k:=by omega
  exact hk
def zis {s:Nat} {v:Int} (hs:s=m) (hc:v=(c:Int)) (h:¬(m/2^c)%2=1):jJ s v=false:=by
 subst hs;subst hc
 unfold jJ
 rw [abI,decide_eq_false h]
def TM {v:Int} (hc:v=(c:Int)) (h:(m/2^c)%2=1):jJ m v=true:=by
 subst hc
 unfold jJ
 rw [abI,decide_eq_true h]
def qqs (W w:ajg) (x:aF) (H:Nat) (B D E F C:Nat) (Y:dY x B D E F C) (o:bQ) (ho:o.Ok) (T:List ajr) (b:Mem W w (jS H x B D E F C++T)):
    Calls abt 154 #[vP H 0,.agg o.cells] w (kR W H T (zW x.ay o)):=by
 obtain ⟨cp,cr,gA,gc,gs,lA,lc,cl,uA,uc,cu,tA,tc,ts,sA,sc,rs⟩:=x
 replace b:Mem W w (fM H cp cr gA B gc lA D lc uA E uc tA F tc sA C sc::fG gA B gc gs::fI lA D lc cl::fI uA E uc cu::fT tA F tc ts::fS sA C sc rs::(fR rs++(T))):=b
 obtain ⟨mZ,hll,oq,hlt,hls⟩:=Y.ln
 replace mZ:abr gs=B:=mZ;replace hll:abr cl=D:=hll;replace oq:abr cu=E:=oq;replace hlt:abr ts=F:=hlt;replace hls:abr rs=C:=hls
 have G:=Y.ln
 have hsp:fJ gs cp rs:=Y.spots
 have hrg:abr rs=abr gs:=Y.sh.rs
 have hcr:cr<18446744073709551616:=Y.ok.aj
 obtain ⟨hcp1,hcp2,_,M⟩:=mX Y.sh.cfg
 replace hcp1:1<=cp:=hcp1;replace hcp2:cp<=64:=hcp2;replace M:dO gs=true:=M
 have ou:=(qt M).1;have ow:=(qt M).2.1
 have qZ:(abr cl:Int)=cp:=Y.sh.cl;have pK:(abr cu:Int)=cp:=Y.sh.cu
 have oz:abr ts<=1000000:=Y.few.t
 have hoc:=ho.cpu;have hot:=ho.task;have hog:=ho.group;have how:=ho.weight;have pO:=ho.to;have pQ:=ho.ticks;have Ad:=ho.mask;have ru:=ho.kind;unfold aX at hoc hot hog how pO pQ
 obtain ⟨e,rfl⟩:=zo (b.own (i:=1) rfl) om
 obtain ⟨p,rfl⟩:=zo (b.own (i:=5) rfl) om
 refine (mM b Tryz.func154 102) ?_
 refine (JP∘JE) λw3 U=>(Jp 2∘bg 1∘Jn∘Jf 0∘Jp 1∘eO∘Jj∘JQ∘JB) λa Z b=>?_
 refine qz (λaS wS=>Fr aS 102 [] [(14,.bool (!(decide (1<=o.group/\o.group<abr rs)))),(6,vP H 0),(5,vI 0),(4,vI 0),(3,vP U 0)]/\Mem W wS (.blk U o.cells 214::fM H cp cr (some ⟨e,0,none⟩) B gc lA D lc uA E uc tA F tc (some ⟨p,0,none⟩) C sc::fG (some ⟨e,0,none⟩) B gc gs::fI lA D lc cl::fI uA E uc cu::fT tA F tc ts::fS (some ⟨p,0,none⟩) C sc rs::(fR rs++(T)))) ?_ ?_
 ·
  refine Jb Z b ((Vs .n []) λwd2=>(Vf 0 3∘Vc 1 O0∘Vp [2,3]) λa Z b s=>?_)
  rcases Z.tf 18 rfl with ⟨N,Z⟩|⟨N,Z⟩
  ·
   have Dg:=of_decide_eq_true N
   refine Vb Z b s ((Vq [4,5,6,7,8,9,10,11,12,13] [(14,.bool true)]∘Vd∘kV) λa Z b=>?_)
   have Z:=Z.sp 14 (.bool (!(decide (1<=o.group/\o.group<abr rs)))) rfl (congrArg abP (by rw [decide_eq_false om];rfl))
   exact ⟨Z.sub kr,b.pt 7 [0,1,2,3,4,5,6]⟩
  have Dg:=of_decide_eq_false N
  refine ap Z (λ_=>s) [4,6] (bf 14 [0,1,2,3,4,6]) [(21,vP H 0),(19,vP U 3)] λa Z=>?_
  refine dJ Z s 5 0 (v:=vI o.group) λa Z=>?_
  refine pE Z s 7 λa Z=>?_
  refine ap Z (λ_=>s) [8] (bt 14 [9,10,11,12,13]) [(23,vP H 6)] λa Z=>?_
  refine dJ Z s 9 1 λa Z=>?_
  refine uE Z s 10 λa Z=>?_
  refine ap Z (λ_=>s) [11,12,13] (bt 14 []) [(14,.bool (decide ((o.group:Int)>=(C:Int))))] λa Z=>?_
  refine qe kr ?_
  have Z:=Z.sp 14 (.bool (!(decide (1<=o.group/\o.group<abr rs)))) rfl (congrArg abP (by rw [<-decide_not];exact decide_eq_decide.2 om))
  exact ⟨Z.sub kr,b.pt 7 [0,1,2,3,4,5,6]⟩
 clear Z b;rintro a w2 ⟨Z,b⟩
 refine Jb Z b (nQ (λAc=>?_) λAc=>?_)
 ·
  exact (JT∘bB 2∘bW) λb=>by exact qw (y:=(⟨cp,cr,some ⟨e,0,none⟩,gc,gs,lA,lc,cl,uA,uc,cu,tA,tc,ts,some ⟨p,0,none⟩,sc,rs⟩:aF)) 1 b rfl G (if_pos (by show ¬(1<=o.group/\o.group<(abr (rs.map ael):Nat));rw [abz];exact Ac))
 refine (JF∘JP∘Jg 4 O0∘JL (h:=by exact λb=>NR o.weight _)) ?_
 rintro b _ Fa ⟨rfl,L⟩
 refine ⟨_,rfl,_,b.call L,?_⟩
 refine (Jp 2∘eO∘Jj) (nQ (λO=>?_) λO=>?_)
 ·
  exact (JT∘bB 2∘bW) λb=>by exact qw (y:=(⟨cp,cr,some ⟨e,0,none⟩,gc,gs,lA,lc,cl,uA,uc,cu,tA,tc,ts,some ⟨p,0,none⟩,sc,rs⟩:aF)) 1 b rfl G ((if_neg (by show ¬¬(1<=o.group/\o.group<(abr (rs.map ael):Nat));rw [abz];omega)).trans (if_pos (decide_eq_false O)))
 have hgb:1<=o.group/\o.group<abr rs:=by omega
 obtain ⟨z,yX⟩:∃n:Nat,o.weight=(n:Int):=⟨o.weight.toNat,by omega⟩
 have hz:1<=z/\z<=65536:=by omega
 obtain ⟨g,P⟩:∃n:Nat,o.group=(n:Int):=⟨o.group.toNat,by omega⟩
 obtain ⟨⟨yA,yc,yl⟩,hy⟩:∃y,rs.getD g Rw.zero=y:=⟨_,rfl⟩
 have hys:=hsp g om;rw [hy] at hys
 have hyl:(abr yl:Int)=cp:=hys.1
 obtain ⟨gr,hgr⟩:∃z,gs[g]?=some z:=⟨_,abv om⟩
 obtain ⟨V,BF,TJ,TK⟩:=Oa M (g:=g) om
 have Q:=qbv Gr.zero hgr
 rw [Q] at BF
 repeat (first|clear Z|clear b)
 intro a Z b
 obtain ⟨X,rfl⟩:=b.jW 7 rfl om hy om
 refine Jb Z b ((aP∘JQ) λa Z b=>?_)
 refine wp_seq ?_
 refine Jb Z b ((Vs .n []) λHY=>(Vp [0]∘Vf 4 3∘Vp [9]∘Vn 1∘Vf 2 6∘Vc 3 O1∘Vc 5 O0∘Vo (vI g) (by rw [P])∘Vy 6 (h:=by exact Yl.iM p g 1 rfl rfl rfl)∘Vy 7 (v:= .slice ((rs.getD g Rw.zero).A) ((rs.getD g Rw.zero).l.length) ((rs.getD g Rw.zero).c)) (h:=by exact aae 6 g Rw.zero om rfl rfl rfl)∘Vo (vS X (abr yl) yc) (by rw [hy])∘Vl 8∘Vd∘aI∘JB) λa Z b=>?_)
 refine qg (λmS aS wS=>∃(c:Nat) (q:List Rw),(c<=abr yl)/\(abr q=C)/\(q=(rs.set g ⟨some ⟨X,0,none⟩,yc,upd r0 yl c⟩))/\mS=abr yl-c/\Fr aS 102 [] (ah8 41 (abr yl) 42 c [(28,.bool false),(14,.bool false),(6,vP H 0),(5,vI 0),(4,vI 0),(3,vP U 0)])/\Mem W wS (.blk U o.cells 214::fM H cp cr (some ⟨e,0,none⟩) B gc lA D lc uA E uc tA F tc (some ⟨p,0,none⟩) C sc::fG (some ⟨e,0,none⟩) B gc gs::fI lA D lc cl::fI uA E uc cu::fT tA F tc ts::fS (some ⟨p,0,none⟩) C sc q::(fR q++(T)))) (m:=abr yl-0) ⟨0,rs,abC _,hls,by rw [zex,<-hy];exact (qmh _ om).symm,rfl,Z.sub kr,b.pt 7 [0,1,2,3,4,5,6]⟩ ?_
 clear Z b;rintro mS a w_ ⟨c,q,hc,hl2,hr2,rfl,Z,b⟩
 refine Jb Z b ((cB 1∘JQ) (Ji (λTN=>?_) λTN=>?_))
 ·
  have aoS:c<abr yl:=by omega
  obtain ⟨d,hyz⟩:∃z,yl[c]?=some z:=⟨_,abv om⟩
  have I:=(zlv r0 (abx c)).trans hyz
  have R:=hys.2 d (abK hyz)
  rw [Q] at R
  have hyv:=R.1.v;have tH:=R.1.r
  have BG:(⟨d.v,d.r,V⟩:En).Ok:=aaj R.2 BF R.1.v
  have S:q.getD g Rw.zero=⟨some ⟨X,0,none⟩,yc,upd r0 yl c⟩:=by rw [hr2];exact zf _ _ om
  refine (eP∘aM 2∘aL∘Jj) λa Z b=>?_
  refine wp_seq ?_
  refine Jb Z b ((Vs .n []) λRN=>(Vp [0]∘Vf 4 3∘Vp [8]∘Vn 1∘Vf 2 6∘Vc 3 O1∘Vc 5 O0∘Vo (vI g) (by rw [P])∘Vy 6 (h:=by exact Yl.iM p g 1 rfl rfl rfl)∘Vy 7 (v:= .slice ((q.getD g Rw.zero).A) ((q.getD g Rw.zero).l.length) ((q.getD g Rw.zero).c)) (h:=by exact aae 6 g Rw.zero om rfl rfl rfl)∘Vo (vS X (abr yl) yc) (by rw [S];show afV _ (abr (upd r0 yl c)) _=_;rw [zlt])∘Vy 9 (h:=by exact Yl.iM X c 3 rfl rfl rfl)∘Vp [10]∘Vd∘aI) λa Z b=>?_)
  refine qz (λaS wS=>∃(J:Nat),Fr aS 102 [] ((9,vP J 0)::(8,vP X (c*3))::(7,vI c)::(43,.bool true)::ah8 41 (abr yl) 42 c [(28,.bool false),(14,.bool false),(6,vP H 0),(5,vI 0),(4,vI 0),(3,vP U 0)])/\Mem W wS (.blk J ((⟨d.v,0,z⟩:En).cells) 333:: .blk U o.cells 214::fM H cp cr (some ⟨e,0,none⟩) B gc lA D lc uA E uc tA F tc (some ⟨p,0,none⟩) C sc::fG (some ⟨e,0,none⟩) B gc gs::fI lA D lc cl::fI uA E uc cu::fT tA F tc ts::fS (some ⟨p,0,none⟩) C sc q::(fR q++(T)))) ?_ ?_
  ·
   refine Jb Z b ((Vs .n [26]) λsH=>(Vp [0,4,8]∘Vf 13 3∘Vf 19 4∘Vn 1∘Vf 2 0∘Vy 3 (v:=vQ d.v) (h:=by exact Pd rfl rfl kr (λ_ h=>h.vJ 7 (j:=0) rfl om S (I) rfl))∘Vn 5∘Vf 6 1∘Vy 7 (v:=vW d.r) (h:=by exact Pd rfl rfl kr (λ_ h=>h.vJ 7 (j:=1) rfl om S (I) rfl))∘Vn 9∘Vf 10 0∘Vf 11 2∘Vc 12 O1∘Vc 14 O0∘Vo (vI g) (by rw [P])∘Vy 15 (h:=by exact Yl.iM e g 2 rfl rfl rfl)∘Vf 16 1∘Vy 17 (v:=vI gr.weight) (h:=by exact Pd rfl rfl kr (λ_ h=>h.qv qC (i:=2) rfl (k:=g) (off:=1) (x:=gr) (hgr) rfl))∘Vo (vI V) (by rw [BF])∘Vc 20 O0∘Vo (vI z) (by rw [yX])) λa Z b s=>?_)
   refine zh [18,25] kr rfl ?_
   refine all_cons ?_ ?_
   ·refine qu Z (i:=18) rfl rfl ?_
    refine jB Z b [vQ d.v,vW d.r,vI V] (.agg #[vQ d.v,vW d.r,vW V]) rfl rfl (zk d.v d.r (V:Int) om _) λw74 L b a Z=>?_
    refine av (b.pt 7 [0,1,2,3,4,5,6]) (λs=>?_)
    refine zh [21,25] kr rfl ?_
    refine all_cons ?_ ?_
    ·refine qu Z (i:=21) rfl rfl ?_
     refine jB Z b [.agg #[vQ d.v,vW d.r,vW V],vI z] (.tuple #[.agg ((⟨d.v,0,z⟩:En).cells),vI 0]) rfl rfl (Fz (⟨d.v,d.r,V⟩:En) BG z hz _) λTP L b a Z=>?_
     refine av (b.pt 7 [0,1,2,3,4,5,6]) (λs=>?_)
     refine Vb Z b s ((Vp [22]∘Vx 23∘Vx 24∘VA 25 .n #[vQ 0,vW 0,vW 0]) λw9 J=>λa Z b s=>?_)
     refine s_on Z 26 rfl (bV Z b 0 rfl rfl rfl rfl rfl qp rfl rfl (mO (⟨d.v,0,z⟩:En)) λK b=>?_)
     refine dR kr ?_
     refine ap Z (cK kr) [27] (bt 28 []) [] λa Z=>?_
     refine qe kr ?_
     exact ⟨J,Z.sub kr,b.pt 8 [0,1,2,3,4,5,6,7]⟩
    refine all_cons ?_ all_nil
    refine qu Z (i:=25) rfl rfl ?_
    refine iq Z b #[vQ 0,vW 0,vW 0] ?_
    clear Z b;intro a w9 J Z b
    refine av (b.pt 8 [1,2,3,4,5,6,7]) (λs=>?_)
    refine Vb Z b s ((VI 21 (.f .n) (h:=by exact λb=>Fz (⟨d.v,d.r,V⟩:En) BG z hz _)) λTP L=>(Vp [22]∘Vx 23∘Vx 24) λa Z b s=>?_)
    refine s_on Z 26 rfl (bV Z b 0 rfl rfl rfl rfl rfl qp rfl rfl (mO (⟨d.v,0,z⟩:En)) λK b=>?_)
    refine dR kr ?_
    refine ap Z (cK kr) [27] (bt 28 []) [] λa Z=>?_
    refine qe kr ?_
    exact ⟨J,Z.sub kr,b.pt 8 [0,1,2,3,4,5,6,7]⟩
   refine all_cons ?_ all_nil
   refine qu Z (i:=25) rfl rfl ?_
   refine iq Z b #[vQ 0,vW 0,vW 0] ?_
   clear Z b;intro a w9 J Z b
   refine av (b.pt 8 [1,2,3,4,5,6,7]) (λs=>?_)
   refine Vb Z b s ((VI 18 (.f .n) (h:=by exact λb=>zk d.v d.r (V:Int) om _)) λw74 L=>(VI 21 (.f .n) (h:=by exact λb=>Fz (⟨d.v,d.r,V⟩:En) BG z hz _)) λTP L=>(Vp [22]∘Vx 23∘Vx 24) λa Z b s=>?_)
   refine s_on Z 26 rfl (bV Z b 0 rfl rfl rfl rfl rfl qp rfl rfl (mO (⟨d.v,0,z⟩:En)) λK b=>?_)
   refine dR kr ?_
   refine ap Z (cK kr) [27] (bt 28 []) [] λa Z=>?_
   refine qe kr ?_
   exact ⟨J,Z.sub kr,b.pt 8 [0,1,2,3,4,5,6,7]⟩
  clear Z b;rintro a sD ⟨J,Z,b⟩
  refine Gl b [.blk J ((⟨d.v,0,z⟩:En).cells) 333,.blk U o.cells 214,fM H cp cr (some ⟨e,0,none⟩) B gc lA D lc uA E uc tA F tc (some ⟨p,0,none⟩) C sc,fG (some ⟨e,0,none⟩) B gc gs,fI lA D lc cl,fI uA E uc cu,fT tA F tc ts] [0,1,2,3,4,5,6] [11] λb s=>?_
  refine ap Z (λ_=>s) [0,1,2,4] (bf 12 [0,1,2,4]) [(84,vP J 1),(82,vP J 0),(81,vP X (c*3)),(80,vP X (c*3))] λa Z=>?_
  refine dJ Z s 3 0 (v:=vQ ((⟨d.v,0,z⟩:En).v)) λa Z=>?_
  refine dJ Z s 5 0 (v:=vW ((⟨d.v,0,z⟩:En).r)) λa Z=>?_
  refine pE Z s 6 λa Z=>?_
  refine ap Z (λ_=>s) [7] (bt 12 [8,9,10,11]) [(87,vP X (c*3))] λa Z=>?_
  refine s_on Z 8 rfl ?_
  refine DJ Z b 7 (c:=c) 0 ({d with v:=d.v}) rfl rfl rfl rfl kr rfl rfl om (S) (I) rfl de rfl λKh b=>?_
  replace b:Mem W Kh (.blk J ((⟨d.v,0,z⟩:En).cells) 333:: .blk U o.cells 214::fM H cp cr (some ⟨e,0,none⟩) B gc lA D lc uA E uc tA F tc (some ⟨p,0,none⟩) C sc::fG (some ⟨e,0,none⟩) B gc gs::fI lA D lc cl::fI uA E uc cu::fT tA F tc ts::fS (some ⟨p,0,none⟩) C sc (aT q g c ({d with v:=d.v}))::(fR (aT q g c ({d with v:=d.v}))++(T))):=b
  refine av (b.pk [0,1,2,3,4,5,6]) (λs=>?_)
  refine CG Z (λ_=>s) 9 λa Z=>?_
  refine ap Z (λ_=>s) [10] (bt 12 [11]) [(89,vP X (c*3+1))] λa Z=>?_
  refine s_on Z 11 rfl ?_
  refine DJ Z b 7 (c:=c) 1 (r0 d) rfl rfl rfl rfl kr rfl rfl (by first|omega|(rw [zu];omega)) (N7 om S) (yT I) rfl de rfl λDW b=>?_
  replace b:Mem W DW (.blk J ((⟨d.v,0,z⟩:En).cells) 333:: .blk U o.cells 214::fM H cp cr (some ⟨e,0,none⟩) B gc lA D lc uA E uc tA F tc (some ⟨p,0,none⟩) C sc::fG (some ⟨e,0,none⟩) B gc gs::fI lA D lc cl::fI uA E uc cu::fT tA F tc ts::fS (some ⟨p,0,none⟩) C sc (aT (aT q g c ({d with v:=d.v})) g c (r0 d))::(fR (aT (aT q g c ({d with v:=d.v})) g c (r0 d))++(T))):=b
  rw [SN (by first|omega|(rw [zu];omega))] at b
  refine dR kr ?_
  refine qe kr ?_
  refine Jb Z b ((JG∘JR∘dx 1∘Jp 1∘aI∘Jq) λa Z b=>?_)
  exact ⟨_,om,c+1,(aT q g c (r0 d)),by omega,by rw [zu];exact hl2,q8f om hyz hr2,rfl,Z.sub kr,b.pt 8 [1,2,3,4,5,6,7]⟩
 refine (JF∘JX) λa Z b=>?_
 refine wp_seq ?_
 refine Jb Z b ((Vs .n [11]) λIK=>(Vp [0]∘Vf 5 3∘Vf 7 4∘Vn 1∘Vf 2 0∘Vf 3 2∘Vc 4 O1∘Vc 6 O0∘Vo (vI g) (by rw [P])∘Vc 8 O0∘Vo (vI z) (by rw [yX])∘Vu 9 (h:=by exact λ_=>Yl.iM e g 2 rfl rfl rfl)∘Vf 10 1) λa Z b s=>?_)
 refine s_on Z 11 rfl ?_
 refine zj Z b (i:=2) rfl rfl rfl rfl kr rfl rfl (by rw [rZ fU 2 qC];omega) λTQ b=>?_
 replace b:=b.dw (i:=2) (ys:=(gs.set g {gr with weight:=(z:Int)}).flatMap fU) rfl (vV fU 2 qC gs g gr {gr with weight:=(z:Int)} hgr 1 de _ rfl)
 refine dR kr ?_
 refine qe kr ?_
 exact Jb Z b ((bB 2∘bW) λb=>by exact qw (y:=(⟨cp,cr,some ⟨e,0,none⟩,gc,(gs.set g {gr with weight:=(z:Int)}),lA,lc,cl,uA,uc,cu,tA,tc,ts,some ⟨p,0,none⟩,sc,q⟩:aF)) 1 b rfl ⟨by show abr (gs.set _ _)=B;rw [abL];exact mZ,G.l,G.u,G.t,hl2⟩ ((qwu (x:=(⟨cp,cr,some ⟨e,0,none⟩,gc,gs,lA,lc,cl,uA,uc,cu,tA,tc,ts,some ⟨p,0,none⟩,sc,rs⟩:aF)) P hgb (decide_eq_true O) hy Q).trans (by rw [yX];exact congrArg (λr=>(aF.ay (⟨cp,cr,some ⟨e,0,none⟩,gc,(gs.set g {gr with weight:=(z:Int)}),lA,lc,cl,uA,uc,cu,tA,tc,ts,some ⟨p,0,none⟩,sc,r⟩:aF),(0:Int),0)) (show _=q by rw [hr2,zlu r0 yl om]))))
def q3f (W w:ajg) (x:aF) (U k to:Nat) (t:Tk) (I J K L q:Nat) (m:dY x I J K L q) (ht:x.ts[k]?=some t) (R:(to:Int)<x.au) (T:List ajr) (b:Mem W w (jS U x I J K L q++T)):
    Calls abt 214 #[vP U 0,vI k,vI to] w (JY W U T (jK x.ay k (to:Int))):=by
 obtain ⟨cp,cr,gA,gc,gs,lA,lc,cl,uA,uc,cu,tA,tc,ts,sA,sc,rs⟩:=x
 replace b:Mem W w (fM U cp cr gA I gc lA J lc uA K uc tA L tc sA q sc::ai2 gA I gc gs lA J lc cl uA K uc cu tA L tc ts sA q sc rs (fR rs++(T))):=b
 obtain ⟨mZ,hll,oq,o,hls⟩:=m.ln
 replace mZ:abr gs=I:=mZ;replace hll:abr cl=J:=hll;replace oq:abr cu=K:=oq;replace o:abr ts=L:=o;replace hls:abr rs=q:=hls
 have s:=m.ln
 have hsp:fJ gs cp rs:=m.spots
 have hrg:abr rs=abr gs:=m.sh.rs
 have hcr:cr<18446744073709551616:=m.ok.aj
 obtain ⟨S,u,_,B⟩:=mX m.sh.cfg
 replace S:1<=cp:=S;replace u:cp<=64:=u;replace B:dO gs=true:=B
 have ou:=(qt B).1;have ow:=(qt B).2.1
 have qZ:(abr cl:Int)=cp:=m.sh.cl;have pK:(abr cu:Int)=cp:=m.sh.cu
 have oz:abr ts<=1000000:=m.few.t
 replace ht:ts[k]?=some t:=ht;replace R:(to:Int)<cp:=R
 have hkl:=(abF.1 ht).1
 obtain ⟨C,V⟩:=m.task ht
 have hti:=C.id;have wZ:=C.group;have htc:=C.cpu;have J6:=C.weight;have Ag:=V.v;have htr:=V.r;have J7:=V.mask
 replace htc:0<=t.cpu/\t.cpu<cp:=htc
 obtain ⟨gt,X⟩:∃n:Nat,t.group=(n:Int):=⟨t.group.toNat,by omega⟩
 obtain ⟨ct,hct⟩:∃n:Nat,t.cpu=(n:Int):=⟨t.cpu.toNat,by omega⟩
 obtain ⟨p,Y⟩:∃n:Nat,t.weight=(n:Int):=⟨t.weight.toNat,by omega⟩
 have M:(⟨t.v,t.r,p⟩:En).Ok:=aaj C.ent Y Ag
 obtain ⟨d,rfl⟩:=zo (b.own (i:=5) rfl) om
 obtain ⟨g,rfl⟩:=zo (b.own (i:=4) rfl) om
 obtain ⟨em,N⟩:∃l,lN (⟨cp,cr,gA,gc,gs,lA,lc,cl,uA,uc,cu,some ⟨g,0,none⟩,tc,ts,some ⟨d,0,none⟩,sc,rs⟩:aF).ay gt to=l:=⟨_,rfl⟩
 have uV:=λh hh=>Tx (x:=(⟨cp,cr,gA,gc,gs,lA,lc,cl,uA,uc,cu,some ⟨g,0,none⟩,tc,ts,some ⟨d,0,none⟩,sc,rs⟩:aF)) m (by omega:gt<q) N h hh
 have uW:=Tz (x:=(⟨cp,cr,gA,gc,gs,lA,lc,cl,uA,uc,cu,some ⟨g,0,none⟩,tc,ts,some ⟨d,0,none⟩,sc,rs⟩:aF)) m (by omega:gt<q) N
 obtain ⟨⟨yA,yc,yl⟩,hy⟩:∃y,rs.getD gt Rw.zero=y:=⟨_,rfl⟩
 have O:=hsp gt om;rw [hy] at O
 have hyl:(abr yl:Int)=cp:=O.1
 obtain ⟨gy,rfl⟩:=b.jW 6 rfl om hy om
 obtain ⟨yz,hyz⟩:∃z,yl[ct]?=some z:=⟨_,abv om⟩
 have nU:=O.2 yz (abK hyz)
 have hyv:=nU.1.v;have tH:=nU.1.r;have tN:=nU.1.floor
 obtain ⟨z2,hz2⟩:∃z,yl[to]?=some z:=⟨_,abv om⟩
 have P:=(O.2 z2 (abK hz2)).1.floor
 obtain ⟨e,D⟩:∃e,(⟨t.v,t.r,p⟩:En).moved yz.floor z2.floor=e:=⟨_,rfl⟩
 have wz:e.Ok/\e.w=p:=by rw [<-D];exact aaW M _ _ P
 have hev:=wz.1.2;have her:=BD wz.1.1
 have hmo:=zey (x:=(⟨cp,cr,gA,gc,gs,lA,lc,cl,uA,uc,cu,some ⟨g,0,none⟩,tc,ts,some ⟨d,0,none⟩,sc,rs⟩:aF)) (to:=to) ht X hct Y (yS (x:=(⟨cp,cr,gA,gc,gs,lA,lc,cl,uA,uc,cu,some ⟨g,0,none⟩,tc,ts,some ⟨d,0,none⟩,sc,rs⟩:aF)) (by show gt<abr rs;omega) hy hyz) (yS (x:=(⟨cp,cr,gA,gc,gs,lA,lc,cl,uA,uc,cu,some ⟨g,0,none⟩,tc,ts,some ⟨d,0,none⟩,sc,rs⟩:aF)) (by show gt<abr rs;omega) hy hz2) D N
 refine (zY b Tryz.func214 81) ?_
 refine (aM 1∘Jn∘Jf 0∘Jg 5 O0∘Jp 1∘nP k 8∘Jp 1∘aI∘bg 2∘Jn∘Jf 1∘Jy (v:=vI t.group) (h:=by exact Pd rfl rfl kr (λ_ h=>h.qv qm (i:=4) rfl (k:=k) (off:=1) (x:=t) (ht) rfl))∘Jo (vI gt) (by rw [X])∘Jp 1∘JK (h:=by exact λb=>Tw 0 b rfl m (by show ((to:Nat):Int)<cp;omega) om N)) λTR c24 w24 hc24=>(Jp 1∘aI∘Jj) λa Z b=>?_
 refine wp_seq ?_
 refine Jb Z b ((Vs .n []) λwd2=>(Vp [0,5]∘Vn 1∘Vf 2 0∘Vf 3 6∘Vc 4 O1∘Vn 6∘Vf 7 1∘Vy 8 (v:=vI t.group) (h:=by exact Pd rfl rfl kr (λ_ h=>h.qv qm (i:=5) rfl (k:=k) (off:=1) (x:=t) (ht) rfl))∘Vo (vI gt) (by rw [X])∘Vy 9 (h:=by exact Yl.iM d gt 1 rfl rfl rfl)∘Vy 10 (v:= .slice ((rs.getD gt Rw.zero).A) ((rs.getD gt Rw.zero).l.length) ((rs.getD gt Rw.zero).c)) (h:=by exact aae 6 gt Rw.zero om rfl rfl rfl)∘Vo (vS gy (abr yl) yc) (by rw [hy])∘Vp [11]∘Vd∘aI) λa Z b=>?_)
 refine qz (λaS wS=>∃(G:Nat),Fr aS 81 [] [(9,vP G 0),(7,abo TR em c24),(6,vP g (k*8)),(0,vP U 0),(2,vI to)]/\Mem W wS (.blk G e.cells 333::abp TR em c24 bL 3 1::fM U cp cr gA I gc lA J lc uA K uc (some ⟨g,0,none⟩) L tc (some ⟨d,0,none⟩) q sc::ai2 gA I gc gs lA J lc cl uA K uc cu (some ⟨g,0,none⟩) L tc ts (some ⟨d,0,none⟩) q sc rs (fR rs++(T)))) ?_ ?_
 ·
  refine Jb Z b ((Vs .n [31]) λwd3=>(Vp [0,4,8,13,14,21,22]∘Vn 1∘Vf 2 6∘Vy 3 (v:=vQ t.v) (h:=by exact Pd rfl rfl kr (λ_ h=>h.qv qm (i:=5) rfl (k:=k) (off:=6) (x:=t) (ht) rfl))∘Vn 5∘Vf 6 7∘Vy 7 (v:=vW t.r) (h:=by exact Pd rfl rfl kr (λ_ h=>h.qv qm (i:=5) rfl (k:=k) (off:=7) (x:=t) (ht) rfl))∘Vn 9∘Vf 10 2∘Vy 11 (v:=vI t.weight) (h:=by exact Pd rfl rfl kr (λ_ h=>h.qv qm (i:=5) rfl (k:=k) (off:=2) (x:=t) (ht) rfl))∘Vo (vI p) (by rw [Y])∘Vn 15∘Vf 16 3∘Vy 17 (v:=vI t.cpu) (h:=by exact Pd rfl rfl kr (λ_ h=>h.qv qm (i:=5) rfl (k:=k) (off:=3) (x:=t) (ht) rfl))∘Vo (vI ct) (by rw [hct])∘Vy 18 (h:=by exact Yl.iM gy ct 3 rfl rfl rfl)∘Vf 19 2∘Vy 20 (v:=vQ yz.floor) (h:=by exact Pd rfl rfl kr (λ_ h=>h.vJ 7 (j:=2) rfl om hy (hyz) rfl))∘Vy 23 (h:=by exact Yl.iM gy to 3 rfl rfl rfl)∘Vf 24 2∘Vy 25 (v:=vQ z2.floor) (h:=by exact Pd rfl rfl kr (λ_ h=>h.vJ 7 (j:=2) rfl om hy (hz2) rfl))) λa Z b H=>?_)
  refine zh [12,30] kr rfl ?_
  refine all_cons ?_ ?_
  ·refine qu Z (i:=12) rfl rfl ?_
   refine jB Z b [vQ t.v,vW t.r,vI p] (.agg #[vQ t.v,vW t.r,vW p]) rfl rfl (zk t.v t.r (p:Int) om _) λBa Q b a Z=>?_
   refine av (b.pt 7 [0,1,2,3,4,5,6]) (λH=>?_)
   refine zh [26,30] kr rfl ?_
   refine all_cons ?_ ?_
   ·refine qu Z (i:=26) rfl rfl ?_
    refine jB Z b [.agg #[vQ t.v,vW t.r,vW p],vQ yz.floor,vQ z2.floor] (.tuple #[.agg e.cells,vI 0]) rfl rfl (TL (⟨t.v,t.r,p⟩:En) e M yz.floor z2.floor tN P D _) λTS Q b a Z=>?_
    refine av (b.pt 7 [0,1,2,3,4,5,6]) (λH=>?_)
    refine Vb Z b H ((Vp [27]∘Vx 28∘Vx 29∘VA 30 .n #[vQ 0,vW 0,vW 0]) λw9 G=>λa Z b H=>?_)
    refine s_on Z 31 rfl (bV Z b 0 rfl rfl rfl rfl rfl qp rfl rfl (mO e) λE b=>?_)
    refine dR kr ?_
    refine ap Z (cK kr) [32] (bt 33 []) [] λa Z=>?_
    refine qe kr ?_
    exact ⟨G,Z.sub kr,b.pt 8 [0,1,2,3,4,5,6,7]⟩
   refine all_cons ?_ all_nil
   refine qu Z (i:=30) rfl rfl ?_
   refine iq Z b #[vQ 0,vW 0,vW 0] ?_
   clear Z b;intro a w9 G Z b
   refine av (b.pt 8 [1,2,3,4,5,6,7]) (λH=>?_)
   refine Vb Z b H ((VI 26 (.f .n) (h:=by exact λb=>TL (⟨t.v,t.r,p⟩:En) e M yz.floor z2.floor tN P D _)) λTS Q=>(Vp [27]∘Vx 28∘Vx 29) λa Z b H=>?_)
   refine s_on Z 31 rfl (bV Z b 0 rfl rfl rfl rfl rfl qp rfl rfl (mO e) λE b=>?_)
   refine dR kr ?_
   refine ap Z (cK kr) [32] (bt 33 []) [] λa Z=>?_
   refine qe kr ?_
   exact ⟨G,Z.sub kr,b.pt 8 [0,1,2,3,4,5,6,7]⟩
  refine all_cons ?_ all_nil
  refine qu Z (i:=30) rfl rfl ?_
  refine iq Z b #[vQ 0,vW 0,vW 0] ?_
  clear Z b;intro a w9 G Z b
  refine av (b.pt 8 [1,2,3,4,5,6,7]) (λH=>?_)
  refine Vb Z b H ((VI 12 (.f .n) (h:=by exact λb=>zk t.v t.r (p:Int) om _)) λBa Q=>(VI 26 (.f .n) (h:=by exact λb=>TL (⟨t.v,t.r,p⟩:En) e M yz.floor z2.floor tN P D _)) λTS Q=>(Vp [27]∘Vx 28∘Vx 29) λa Z b H=>?_)
  refine s_on Z 31 rfl (bV Z b 0 rfl rfl rfl rfl rfl qp rfl rfl (mO e) λE b=>?_)
  refine dR kr ?_
  refine ap Z (cK kr) [32] (bt 33 []) [] λa Z=>?_
  refine qe kr ?_
  exact ⟨G,Z.sub kr,b.pt 8 [0,1,2,3,4,5,6,7]⟩
 clear Z b;rintro a w3 ⟨G,Z,b⟩
 refine Jb Z b ((aM 1∘eF qp O0∘JO (h:=by exact λb=>Ob t e vw b ht o wz.1)) λOo=>(oK∘bg 2∘Jn∘Jf 3) λa Z b=>?_)
 refine fo Z 4 rfl rfl ?_
 refine zj Z b (i:=6) rfl rfl rfl rfl kr rfl rfl (by rw [rZ bZ 8 qm,abL];omega) λaoV b=>?_
 replace b:=b.dw (i:=6) (ys:=(ts.set k {t.put e with cpu:=(to:Int)}).flatMap bZ) rfl ((vV bZ 8 qm (ts.set k (t.put e)) k (t.put e) {t.put e with cpu:=(to:Int)} (yT ht) 3 de _ rfl).trans (by rw [afn]))
 refine Jb Z b ((wu∘bg 1∘Jn∘Jf 5∘Jy (v:= .bool (({t.put e with cpu:=(to:Int)}:Tk).ready)) (h:=by exact Pd rfl rfl kr (λ_ h=>h.qv qm (i:=6) rfl (k:=k) (off:=5) (x:=({t.put e with cpu:=(to:Int)}:Tk)) ((yT ht)) rfl))∘Jo (.bool t.ready) (by exact rfl)∘eO∘Jj) (Ju (λF=>?_) λF=>?_))
 ·
  refine (JT∘JR∘Jp 3∘JL (h:=by exact λb=>Ou 2 b rfl (j:=1) rfl de (FC (ts':=ts.set k {t.put e with cpu:=(to:Int)}) s (by rw [abL];exact o)) (uV) (uW) B hrg hsp hcr u (by show ((to:Nat):Int)<cp;omega))) ?_
  rintro b _ w80 ⟨j5,rfl,hl2,hsp2,oD,uJ⟩
  refine ⟨_,rfl,_,(show Mem W w80 (.blk G e.cells 333::abp TR em c24 bL 3 1::fM U cp cr gA I gc lA J lc uA K uc (some ⟨g,0,none⟩) L tc (some ⟨d,0,none⟩) q sc::ai2 gA I gc gs lA J lc cl uA K uc cu (some ⟨g,0,none⟩) L tc (ts.set k {t.put e with cpu:=(to:Int)}) (some ⟨d,0,none⟩) q sc j5 (fR j5++(T))) from uJ),?_⟩
  refine (wu∘Jq) λa Z b=>?_
  exact iD rfl Z (q8e (y:=(⟨cp,cr,gA,gc,gs,lA,lc,cl,uA,uc,cu,some ⟨g,0,none⟩,tc,(ts.set k {t.put e with cpu:=(to:Int)}),some ⟨d,0,none⟩,sc,j5⟩:aF)) 2 b rfl (Od (FC s (by rw [abL];exact o)) hl2) (by rw [hmo,if_pos F];exact oD))
 refine (JF∘JS) λa Z b=>?_
 exact iD rfl Z (q8e (y:=(⟨cp,cr,gA,gc,gs,lA,lc,cl,uA,uc,cu,some ⟨g,0,none⟩,tc,(ts.set k {t.put e with cpu:=(to:Int)}),some ⟨d,0,none⟩,sc,rs⟩:aF)) 2 b rfl (FC s (by rw [abL];exact o)) (by rw [hmo,if_neg (z8 F)]))
def q8x {to:Nat} (n:Nat) (h:Mem W w F) (i:F.drop n=jS a x c m g b d++T) (j:dY x c m g b d) (ht:x.ts[k]?=some t) (e:(to:Int)<x.au):
  Calls abt 214 #[vP a 0,vI k,vI to] w (λr f=>∃y:aF,r= .returned (.tuple #[])/\y.ay=jK x.ay k (to:Int)/\Mem W f (F.take n++(nD a y++T))):=
 (q3f W w x a k to t c m g b d j ht e (F.take n++T) (h.front n i)).mono λr f ⟨y,l,o,p⟩=>⟨y,l,o,p.back⟩
def q3g (A:ajq) (c:Nat) (l:List Int) (v:Int) (w:ajg) (hr:Rd w w.heap.size 1 A (abr l) (l.map aZ)) (p:abr l<=1000000):
    Calls abt 268 #[abo A l c,vI v] w (xq w l v):=by
 refine (iQ Tryz.func268 19) ?_
 refine (cB 1∘bM 1∘Jl∘bO 1∘JB) λa Z d=>?_
 refine qg (λg n o=>∃(k:Nat),(k<=abr l)/\(∀i,i<k->l.getD i 0≠v)/\g=abr l-k/\Fr n 19 [] (ah8 8 k 7 (abr l) [(4,vI 0),(0,abo A l c),(1,vI v)])/\Mem w o []) (m:=abr l-0) ⟨0,abC _,λi h=>by omega,rfl,Z.sub kr,d.pk []⟩ ?_
 clear Z d;rintro g a q ⟨k,r,j,rfl,Z,d⟩
 refine Jb Z d ((cB 1∘JQ) (Ji (λe=>?_) λe=>?_))
 ·
  have f:k<abr l:=by omega
  refine (eP∘aM 2∘aL∘bg 3) ?_
  obtain ⟨gA,s,rfl,_⟩:=hr.sat k
  refine (iF k 1∘Jy (h:=by exact aad hr k 0 om rfl rfl)∘Jp 1∘kV∘Jj) (Je (λb=>?_) λb=>?_)
  ·
   exact (JT∘aM 2∘aL∘aQ∘aW) λd=>q3d f b.symm d.below
  refine (aP∘JR∘dx 1∘Jp 1∘aL∘Jq) λa Z d=>?_
  exact ⟨_,om,k+1,by omega,zl1 j (λh=>b h.symm),rfl,Z.sub kr,d.pk []⟩
 exact (JF∘JX∘JG∘bB 1∘aW) λd=>q3e (λi hi=>j i om) d.below
def qqt (A:ajq) (c:Nat) (l:List Int) (v:Int) (w:ajg) (hr:Rd w w.heap.size 1 A (abr l) (l.map aZ)) (d:abr l<=1000000):
    Calls abt 213 #[abo A l c,vI v] w (Is w (.bool (decide (v∈l)))):=by
 refine (iQ Tryz.func213 9) ?_
 refine (aM 1∘bg 2∘JL (h:=by exact λa=>q3g A c l v _ (a.old hr) d)) ?_
 rintro a _ f ⟨⟨i,rfl,e⟩,b⟩
 refine ⟨_,rfl,_,a.call b,?_⟩
 exact (Jp 2∘fK∘aQ∘aW) λa=>dA e a.below
def qw0 {c n:Nat} {l:List Int} {v:Int} (a:abr l=n) (hr:Rd w w.heap.size 1 A n (l.map aZ)) (b:abr l<=1000000):Calls abt 213 #[.slice A n c,vI v] w (Is w (.bool (decide (v∈l)))):=by
 subst a
 exact qqt A c l v w hr b
def qqu (W w:ajg) (x:aF) (M:Nat) (N O P L Q:Nat) (q:dY x N O P L Q) (o:bQ) (F:o.Ok) (T:List ajr) (b:Mem W w (jS M x N O P L Q++T)):
    Calls abt 155 #[vP M 0,.agg o.cells] w (kR W M T (zX x.ay o)):=by
 obtain ⟨cp,cr,gA,gc,gs,lA,lc,cl,uA,uc,cu,tA,tc,ts,sA,sc,rs⟩:=x
 replace b:Mem W w (fM M cp cr gA N gc lA O lc uA P uc tA L tc sA Q sc::ai2 gA N gc gs lA O lc cl uA P uc cu tA L tc ts sA Q sc rs (fR rs++(T))):=b
 obtain ⟨R,S,I,U,V⟩:=q.ln
 replace R:abr gs=N:=R;replace S:abr cl=O:=S;replace I:abr cu=P:=I;replace U:abr ts=L:=U;replace V:abr rs=Q:=V
 have g:=q.ln
 have hsp:fJ gs cp rs:=q.spots
 have hrg:abr rs=abr gs:=q.sh.rs
 have hcr:cr<18446744073709551616:=q.ok.aj
 obtain ⟨G,H,_,E⟩:=mX q.sh.cfg
 replace G:1<=cp:=G;replace H:cp<=64:=H;replace E:dO gs=true:=E
 have ou:=(qt E).1;have ow:=(qt E).2.1
 have qZ:(abr cl:Int)=cp:=q.sh.cl;have pK:(abr cu:Int)=cp:=q.sh.cu
 have oz:abr ts<=1000000:=q.few.t
 have hoc:=F.cpu;have hot:=F.task;have hog:=F.group;have how:=F.weight;have X:=F.to;have Y:=F.ticks;have Ad:=F.mask;have ru:=F.kind;unfold aX at hoc hot hog how X Y
 obtain ⟨e,rfl⟩:=zo (b.own (i:=3) rfl) om
 refine (mM b Tryz.func155 67) ?_
 refine (JP∘JE) λw3 g3=>(bO 2∘JQ∘JB∘aM 1∘Jg 5 O0∘JI (h:=by exact λb=>FB 1 b rfl q o.to)) λvD J=>(Jp 2∘fK∘Jj) (nQ (λf=>?_) λf=>?_)
 ·
  exact (JT∘bB 2∘bW) λb=>by exact qw (y:=(⟨cp,cr,gA,gc,gs,lA,lc,cl,some ⟨e,0,none⟩,uc,cu,tA,tc,ts,sA,sc,rs⟩:aF)) 1 b rfl g (if_pos (decide_eq_false f))
 replace f:0<=o.to/\o.to<cp:=f
 obtain ⟨c,B⟩:∃n:Nat,o.to=(n:Int):=⟨o.to.toNat,by omega⟩
 have sK:((c:Nat):Int)<cp:=by omega
 have TT:abr cu<=1000000:=q.few.u
 refine (JF∘JP∘Jg 2 O0∘JI (h:=by exact λb=>Oc o.task _)) λw16 J=>(Jp 2∘eO∘Jj) (nQ (λd=>?_) λd=>?_)
 ·
  exact (JT∘bB 2∘bW) λb=>by exact qw (y:=(⟨cp,cr,gA,gc,gs,lA,lc,cl,some ⟨e,0,none⟩,uc,cu,tA,tc,ts,sA,sc,rs⟩:aF)) 1 b rfl g ((if_neg (nf (decide_eq_true f))).trans (if_pos (decide_eq_false d)))
 refine (aP∘aM 1∘Jg 2 O0∘JI (h:=by exact λb=>Jt 1 b rfl q o.task)) λTD J=>(Jp 1∘eO∘Jj∘JQ∘JB∘aM 3∘bU∘Jj) (Ji (λC=>?_) λC=>?_)
 ·
  exact (JT∘bB 2∘bW) λb=>by exact qw (y:=(⟨cp,cr,gA,gc,gs,lA,lc,cl,some ⟨e,0,none⟩,uc,cu,tA,tc,ts,sA,sc,rs⟩:aF)) 1 b rfl g ((if_neg (nf (decide_eq_true f))).trans ((if_neg (nf (decide_eq_true d))).trans (if_pos (C))))
 obtain ⟨k,t,A,ht,hkl,Ae⟩:=JN C
 replace A:fidx ts o.task=(k:Int):=A;replace ht:ts[k]?=some t:=ht;replace hkl:k<abr ts:=hkl
 obtain ⟨D,K⟩:=q.task ht
 have hti:=D.id;have wZ:=D.group;have htc:=D.cpu;have J6:=D.weight;have Ag:=K.v;have htr:=K.r;have J7:=K.mask
 replace htc:0<=t.cpu/\t.cpu<cp:=htc
 obtain ⟨gt,hgt⟩:∃n:Nat,t.group=(n:Int):=⟨t.group.toNat,by omega⟩
 obtain ⟨ct,hct⟩:∃n:Nat,t.cpu=(n:Int):=⟨t.cpu.toNat,by omega⟩
 obtain ⟨wt,hwt⟩:∃n:Nat,t.weight=(n:Int):=⟨t.weight.toNat,by omega⟩
 have sZ:(⟨t.v,t.r,wt⟩:En).Ok:=aaj D.ent hwt Ag
 repeat (first|clear Z|clear b)
 intro a Z b
 obtain ⟨l,rfl⟩:=b.rat 5 k (hk:=(by omega:k<L))
 refine Jb Z b ((JF) λa Z b=>?_)
 refine wp_seq ?_
 refine Jb Z b ((Vs .n []) λOq=>(Vp [0]∘Vf 5 2∘Vn 1∘Vf 2 0∘Vf 3 4∘Vc 4 O1∘Vc 6 O0∘VI 7 .n (h:=by exact λb=>qw0 I (b.rd (i:=4) rfl) TT)) λGL J=>(Vp [8]∘Vd∘aI) (Ji (λp=>?_) λp=>?_))
 ·
  exact (JT∘bB 2∘bW) λb=>by exact qw (y:=(⟨cp,cr,gA,gc,gs,lA,lc,cl,some ⟨e,0,none⟩,uc,cu,some ⟨l,0,none⟩,tc,ts,sA,sc,rs⟩:aF)) 1 b rfl g ((if_neg (nf (decide_eq_true f))).trans ((if_neg (nf (decide_eq_true d))).trans ((if_neg (by show ¬fidx ts o.task<0;rw [A];omega)).trans (if_pos (p)))))
 refine (JF) λa Z b=>?_
 refine wp_seq ?_
 refine Jb Z b ((Vs .n []) λsH=>(Vp [0]∘Vf 9 5∘Vn 1∘Vf 2 0∘Vf 3 5∘Vc 4 O1∘Vp [5]∘Vo (vI k) (by rw [A])∘Vy 6 (h:=by exact Yl.iM l k 8 rfl rfl rfl)∘Vf 7 3∘Vy 8 (v:=vI t.cpu) (h:=by exact Pd rfl rfl kr (λ_ h=>h.qv qm (i:=5) rfl (k:=k) (off:=3) (x:=t) (ht) rfl))∘Vc 10 O0∘Vp [11,12]∘Vd∘aI) (Je (λz=>?_) λz=>?_))
 ·
  exact (JT∘bB 2∘bW) λb=>by exact qw (y:=(⟨cp,cr,gA,gc,gs,lA,lc,cl,some ⟨e,0,none⟩,uc,cu,some ⟨l,0,none⟩,tc,ts,sA,sc,rs⟩:aF)) 1 b rfl g ((if_neg (nf (decide_eq_true f))).trans ((if_neg (nf (decide_eq_true d))).trans ((if_neg (by show ¬fidx ts o.task<0;rw [A];omega)).trans ((if_neg (p)).trans (if_pos (by rw [yU (s:=aF.ay (⟨cp,cr,gA,gc,gs,lA,lc,cl,some ⟨e,0,none⟩,uc,cu,some ⟨l,0,none⟩,tc,ts,sA,sc,rs⟩:aF)) A ht];exact z))))))
 have hmb:=ae7 t.mask (2^c)
 refine (JF) λa Z b=>?_
 refine wp_seq ?_
 refine Jb Z b ((Vs .n []) λH6=>(Vp [0]∘Vf 9 5∘Vn 1∘Vf 2 0∘Vf 3 5∘Vc 4 O1∘Vp [5]∘Vo (vI k) (by rw [A])∘Vy 6 (h:=by exact Yl.iM l k 8 rfl rfl rfl)∘Vf 7 4∘Vy 8 (v:=vQ t.mask) (h:=by exact Pd rfl rfl kr (λ_ h=>h.qv qm (i:=5) rfl (k:=k) (off:=4) (x:=t) (ht) rfl))∘Vc 10 O0∘Vo (vI c) (by rw [B])∘Vy 11 (v:=vQ (t.mask/2^c:Nat)) (h:=by exact aat (m:=t.mask) (n:=c) rfl rfl rfl (by show _<=64;omega))∘Vp [12]∘Vo (vQ ((t.mask/2^c)%2:Nat)) (by exact MU (n:=1) (j:=1) rfl de om)∘Vp [13,14]∘Vd∘aI) (Je (λTU=>?_) λTU=>?_))
 ·
  exact (JT∘bB 2∘bW) λb=>by exact qw (y:=(⟨cp,cr,gA,gc,gs,lA,lc,cl,some ⟨e,0,none⟩,uc,cu,some ⟨l,0,none⟩,tc,ts,sA,sc,rs⟩:aF)) 1 b rfl g ((if_neg (nf (decide_eq_true f))).trans ((if_neg (nf (decide_eq_true d))).trans ((if_neg (by show ¬fidx ts o.task<0;rw [A];omega)).trans ((if_neg (p)).trans ((if_neg (by rw [yU (s:=aF.ay (⟨cp,cr,gA,gc,gs,lA,lc,cl,some ⟨e,0,none⟩,uc,cu,some ⟨l,0,none⟩,tc,ts,sA,sc,rs⟩:aF)) A ht];exact z)).trans (if_pos (zis (by rw [yU (s:=aF.ay (⟨cp,cr,gA,gc,gs,lA,lc,cl,some ⟨e,0,none⟩,uc,cu,some ⟨l,0,none⟩,tc,ts,sA,sc,rs⟩:aF)) A ht]) B om)))))))
 refine (aP∘aM 2∘Jo (vI k) (by rw [A])∘Jf 5∘Jc O0∘Jo (vI c) (by rw [B])∘JL (h:=by exact λb=>q8x 1 b rfl q ht sK)) ?_
 rintro b _ w66 ⟨y,rfl,hys,uJ⟩
 refine ⟨_,rfl,_,(show Mem W w66 (.blk g3 o.cells 214::(nD M y++(T))) from uJ),?_⟩
 exact (qL∘bg 2∘aQ∘bW) λb=>by exact zio 1 b rfl ((qwv (x:=(⟨cp,cr,gA,gc,gs,lA,lc,cl,some ⟨e,0,none⟩,uc,cu,some ⟨l,0,none⟩,tc,ts,sA,sc,rs⟩:aF)) (decide_eq_true f) (decide_eq_true d) A ht p z (TM B om)).trans (by rw [hys,B]))
def zl2 {a b:Int}:(a !=b)=decide (a≠b):=by rw [Bool.eq_iff_iff,bne_iff_ne,decide_eq_true_eq]
def qt6 {v:Int} (n:Nat) (e:Mem W w F) (f:F.drop n=jS d x m g k a b++T) (h:dY x m g k a b) (i:aH x.ay c=v):Calls abt 215 #[vP d 0,vI c] w (Is w (vI v)):=i▸q8v n e f h
def zfi {fr v lc be:Int} {i:Bool} (a:o.cpu=(c:Int)) (b:jk x.ay o.cpu x.au.toNat=(fr,v)) (d:aH x.ay c=lc) (e:t.cpu=(m:Int)) (f:be.toNat=g) (h:(t.ready&& (decide (t.cpu=fr)&& (decide ((t.mask/2^c)%2=1)&&decide (x.cu.getD m 0≠t.id))))=i):
  Aa x.ay o be t=(i&&decide (2*t.weight<=v-lc)&& (decide (be<0)||decide ((x.ts.getD g Tk.zero).weight<t.weight))):=by
 unfold Aa uR jJ
 rw [show x.ay.au=x.au from rfl,b,a,abI,d,f,<-h,show x.ay.cu=x.cu from rfl,show x.ay.ts=x.ts from rfl,e,abI]
 simp only [Bool.and_assoc]
def qqv (W w:ajg) (x:aF) (A:Nat) (J K L p M:Nat) (B:dY x J K L p M) (o:bQ) (ho:o.Ok) (T:List ajr) (e:Mem W w (jS A x J K L p M++T)):
    Calls abt 156 #[vP A 0,.agg o.cells] w (kR W A T (wP x.ay o)):=by
 obtain ⟨cp,cr,gA,gc,gs,lA,lc,cl,uA,uc,cu,tA,tc,ts,sA,sc,rs⟩:=x
 replace e:Mem W w (fM A cp cr gA J gc lA K lc uA L uc tA p tc sA M sc::ai2 gA J gc gs lA K lc cl uA L uc cu tA p tc ts sA M sc rs (fR rs++(T))):=e
 obtain ⟨mZ,hll,oq,hlt,hls⟩:=B.ln
 replace mZ:abr gs=J:=mZ;replace hll:abr cl=K:=hll;replace oq:abr cu=L:=oq;replace hlt:abr ts=p:=hlt;replace hls:abr rs=M:=hls
 have Ki:=B.ln
 have hsp:fJ gs cp rs:=B.spots
 have hrg:abr rs=abr gs:=B.sh.rs
 have hcr:cr<18446744073709551616:=B.ok.aj
 obtain ⟨hcp1,hcp2,_,hgs⟩:=mX B.sh.cfg
 replace hcp1:1<=cp:=hcp1;replace hcp2:cp<=64:=hcp2;replace hgs:dO gs=true:=hgs
 have ou:=(qt hgs).1;have ow:=(qt hgs).2.1
 have qZ:(abr cl:Int)=cp:=B.sh.cl;have pK:(abr cu:Int)=cp:=B.sh.cu
 have oz:abr ts<=1000000:=B.few.t
 have hoc:=ho.cpu;have hot:=ho.task;have hog:=ho.group;have how:=ho.weight;have pO:=ho.to;have pQ:=ho.ticks;have Ad:=ho.mask;have ru:=ho.kind;unfold aX at hoc hot hog how pO pQ
 have F:=qo1 B.sh;replace F:∀t∈ts,1<=t.weight/\t.weight<=65536:=F
 obtain ⟨f,rfl⟩:=zo (e.own (i:=3) rfl) om
 have hld:∀c,aH (⟨cp,cr,gA,gc,gs,lA,lc,cl,some ⟨f,0,none⟩,uc,cu,tA,tc,ts,sA,sc,rs⟩:aF).ay c<=65536000000/\0<=aH (⟨cp,cr,gA,gc,gs,lA,lc,cl,some ⟨f,0,none⟩,uc,cu,tA,tc,ts,sA,sc,rs⟩:aF).ay c:=λc=>by have h1:0<=iH ts c/\iH ts c<=65536*abr ts:=qmo (c:=c) F;exact ⟨by show iH ts c<=_;omega,h1.1⟩
 refine (mM e Tryz.func156 136) ?_
 refine (JP∘JE) λw3 g3=>(bO 2∘bM 1∘Jg 1 O0∘JI (h:=by exact λe=>FB 1 e rfl B o.cpu)) λzJ hbw=>(Jp 1∘eO∘Jj) (nQ (λq=>?_) λq=>?_)
 ·
  exact (JT∘bB 2∘bW) λe=>by exact qw (y:=(⟨cp,cr,gA,gc,gs,lA,lc,cl,some ⟨f,0,none⟩,uc,cu,tA,tc,ts,sA,sc,rs⟩:aF)) 1 e rfl Ki (if_pos (decide_eq_false q))
 replace q:0<=o.cpu/\o.cpu<cp:=q
 obtain ⟨c,N⟩:∃n:Nat,o.cpu=(n:Int):=⟨o.cpu.toNat,by omega⟩
 have sK:((c:Nat):Int)<cp:=by omega
 obtain ⟨lc_,Q⟩:∃z,aH (⟨cp,cr,gA,gc,gs,lA,lc,cl,some ⟨f,0,none⟩,uc,cu,tA,tc,ts,sA,sc,rs⟩:aF).ay c=z:=⟨_,rfl⟩
 have TV:=hld c
 rw [Q] at TV
 refine (aP∘cB 2∘bM 1∘Jn∘Jf 0∘Jf 0∘Jg 0 O1∘bO 1∘JB) λa Z e=>?_
 refine qg (λmS aS wS=>∃(i:Nat) (fr:Int) (R:Int),((i:Int)<=cp)/\(jk (⟨cp,cr,gA,gc,gs,lA,lc,cl,some ⟨f,0,none⟩,uc,cu,tA,tc,ts,sA,sc,rs⟩:aF).ay o.cpu i=(fr,R))/\mS=cp.toNat-i/\Fr aS 136 [] (ah8 26 i 25 cp (ah8 7 R 6 fr ((19,.bool false)::aix g3 A [])))/\Mem W wS (.blk g3 o.cells 214::fM A cp cr gA J gc lA K lc (some ⟨f,0,none⟩) L uc tA p tc sA M sc::ai2 gA J gc gs lA K lc cl (some ⟨f,0,none⟩) L uc cu tA p tc ts sA M sc rs (fR rs++(T)))) (m:=cp.toNat-0) ⟨0,(-1),(-1),by omega,rfl,rfl,Z.sub kr,e.pt 7 [0,1,2,3,4,5,6]⟩ ?_
 clear Z e;rintro mS a w_ ⟨i,fr,R,hi,S,rfl,Z,e⟩
 refine Jb Z e ((cB 1∘JQ) (Ji (λhd27=>?_) λhd27=>?_))
 ·
  obtain ⟨lw,O⟩:∃z,aH (⟨cp,cr,gA,gc,gs,lA,lc,cl,some ⟨f,0,none⟩,uc,cu,tA,tc,ts,sA,sc,rs⟩:aF).ay i=z:=⟨_,rfl⟩
  have TW:=hld i
  rw [O] at TW
  refine (eP∘aM 2∘aL∘bg 2∘JI (h:=by exact λe=>qt6 1 e rfl B O)) λFa hbw=>(Jp 1∘eO∘bg 1∘Jf 1∘Jc O0∘Jo (vI c) (by rw [N])∘Jp 2) (Jh (λTY=>?_) λTY=>?_)
  ·
   refine (Jp 4∘aI∘Jj) (Ji (λDu=>?_) λDu=>?_)
   ·
    refine (JT∘JR∘bO 4∘JR∘dx 1∘Jp 1∘aL∘Jq) λa Z e=>?_
    exact ⟨_,om,i+1,(i:Int),lw,by omega,by rw [Tc S,if_pos ⟨by omega,by rw [O];omega⟩,O],rfl,Z.sub kr,e.pt 7 [0,1,2,3,4,5,6]⟩
   refine (aP∘JR∘dx 1∘Jp 1∘aL∘Jq) λa Z e=>?_
   exact ⟨_,om,i+1,fr,R,by omega,by rw [Tc S,if_neg (by rw [O];omega)],rfl,Z.sub kr,e.pt 7 [0,1,2,3,4,5,6]⟩
  refine (Jp 4∘aI∘Jj∘aP∘JR∘dx 1∘Jp 1∘aL∘Jq) λa Z e=>?_
  exact ⟨_,om,i+1,fr,R,by omega,by rw [Tc S,if_neg (by rw [O];omega)],rfl,Z.sub kr,e.pt 7 [0,1,2,3,4,5,6]⟩
 have T9:i=cp.toNat:=by omega
 subst T9
 have U:=q2y (cpu:=o.cpu) hld de cp.toNat
 rw [S] at U
 replace U: -1<=fr/\fr<(cp.toNat:Int)/\ -1<=R/\R<=65536000000:=U
 refine (JF∘JX∘JG∘cB 1∘bM 1∘Jn∘Jf 0∘Jg 5 O1∘Jl∘bO 1∘JB) λa Z e=>?_
 refine qg (λmS aS wS=>∃(n:Nat) (s:Int),(n<=abr ts)/\(nE (gT (⟨cp,cr,gA,gc,gs,lA,lc,cl,some ⟨f,0,none⟩,uc,cu,tA,tc,ts,sA,sc,rs⟩:aF).ay o n)=s)/\mS=abr ts-n/\Fr aS 136 [] (ah8 50 n 49 p ((48,.slice tA p tc)::(10,vI s)::(27,.bool false)::ah8 26 cp.toNat 25 cp (ah8 7 R 6 fr ((19,.bool false)::aix g3 A []))))/\Mem W wS (.blk g3 o.cells 214::fM A cp cr gA J gc lA K lc (some ⟨f,0,none⟩) L uc tA p tc sA M sc::ai2 gA J gc gs lA K lc cl (some ⟨f,0,none⟩) L uc cu tA p tc ts sA M sc rs (fR rs++(T)))) (m:=abr ts-0) ⟨0,(-1),abC _,rfl,rfl,Z.sub kr,e.pt 7 [0,1,2,3,4,5,6]⟩ ?_
 clear Z e;rintro mS a w_ ⟨n,s,hn,P,rfl,Z,e⟩
 refine Jb Z e ((cB 1∘JQ) (Ji (λUa=>?_) λUa=>?_))
 ·
  repeat (first|clear Z|clear e)
  intro a Z e
  obtain ⟨g,rfl⟩:=e.rat 5 n (hk:=(by omega:n<p))
  obtain ⟨t,ht⟩:∃z,ts[n]?=some z:=⟨_,abv om⟩
  obtain ⟨V,hto⟩:=B.task ht
  have hti:=V.id;have wZ:=V.group;have htc:=V.cpu;have J6:=V.weight;have Ag:=hto.v;have htr:=hto.r;have J7:=hto.mask
  replace htc:0<=t.cpu/\t.cpu<cp:=htc
  obtain ⟨gt,hgt⟩:∃n:Nat,t.group=(n:Int):=⟨t.group.toNat,by omega⟩
  obtain ⟨ct,hct⟩:∃n:Nat,t.cpu=(n:Int):=⟨t.cpu.toNat,by omega⟩
  obtain ⟨wt,hwt⟩:∃n:Nat,t.weight=(n:Int):=⟨t.weight.toNat,by omega⟩
  have sZ:(⟨t.v,t.r,wt⟩:En).Ok:=aaj V.ent hwt Ag
  have hbi:=qmr P
  obtain ⟨bb,hbb⟩:∃n:Nat,s.toNat=n:=⟨_,rfl⟩
  have hmb:=ae7 t.mask (2^c)
  have hbw:=λh=>F (ts.getD bb Tk.zero) (qf Tk.zero h)
  refine Jb Z e ((eP∘aM 1∘nP n 8∘Jy (v:= .agg t.cells) (h:=by exact Pe rfl rfl fH rfl (λ_ h=>h.zB qm (i:=5) rfl (ht)))∘JA ajb) λyL X=>(Jp 1∘JV fH aN (h1:=by exact Il t)) λH7=>(Jj) λa Z e=>?_)
  refine qz (λaS wS=>Fr aS 136 [] ((13,.bool (t.ready&& (decide (t.cpu=fr)&& (decide ((t.mask/2^c)%2=1)&&decide (cu.getD ct 0≠t.id)))))::(11,vI n)::(12,vP X 0)::(51,.bool true)::ah8 50 n 49 p ((48,vS g p tc)::(10,vI s)::(27,.bool false)::ah8 26 cp.toNat 25 cp (ah8 7 R 6 fr ((19,.bool false)::aix g3 A []))))/\Mem W wS (.blk X t.cells 232::.blk g3 o.cells 214::fM A cp cr gA J gc lA K lc (some ⟨f,0,none⟩) L uc (some ⟨g,0,none⟩) p tc sA M sc::ai2 gA J gc gs lA K lc cl (some ⟨f,0,none⟩) L uc cu (some ⟨g,0,none⟩) p tc ts sA M sc rs (fR rs++(T)))) ?_ ?_
  ·
   refine Jb Z e ((Vs .n []) λzL=>(Vf 0 5∘Vc 1 O0∘Vp [2]) λa Z e l=>?_)
   rcases Z.tf 57 rfl with ⟨u,Z⟩|⟨u,Z⟩
   ·
    refine Vb Z e l ((Vf 3 3∘Vp [5]∘Vc 4 O0∘Vp [6,7,8]) λa Z e l=>?_)
    rcases Z.tf 63 rfl with ⟨Y,Z⟩|⟨Y,Z⟩
    ·
     have G:=eq_of_beq Y
     refine Vb Z e l ((Vf 9 4∘Vf 11 1∘Vc 10 O0∘Vc 12 O1∘Vo (vI c) (by rw [N])∘Vy 13 (v:=vQ (t.mask/2^c:Nat)) (h:=by exact aat (m:=t.mask) (n:=c) rfl rfl rfl (by show _<=64;omega))∘Vp [14]∘Vo (vQ ((t.mask/2^c)%2:Nat)) (by exact MU (n:=1) (j:=1) rfl de om)∘Vp [15,16,17]) λa Z e l=>?_)
     rcases Z.tf 72 rfl with ⟨DX,Z⟩|⟨DX,Z⟩
     ·
      have DY:=eq_of_beq DX
      refine Vb Z e l ((Vp [18]∘Vf 23 3∘Vf 27 0∘Vn 19∘Vf 20 0∘Vf 21 4∘Vc 22 O2∘Vc 24 O0∘Vo (vI ct) (by rw [hct])∘Vy 25 (h:=by exact Yl.iM f ct 1 rfl rfl rfl)∘Vy 26 (h:=by exact aae 5 ct 0 om rfl rfl rfl)∘Vc 28 O0∘Vp [29,30,31]∘Vd∘aI) λa Z e=>?_)
      have Z:=Z.sp 13 (.bool (t.ready&& (decide (t.cpu=fr)&& (decide ((t.mask/2^c)%2=1)&&decide (cu.getD ct 0≠t.id))))) rfl (congrArg abP (by rw [u,decide_eq_true G,decide_eq_true om,acj,acj,acj];exact zl2))
      exact ⟨Z.sub kr,e.pt 8 [0,1,2,3,4,5,6,7]⟩
     have DY:=ne_of_beq_false DX
     refine ap Z (λ_=>l) [18,19,20,21,22,23,24,25,26,27,28,29,30,31] (bt 32 []) [(13,.bool false)] λa Z=>?_
     refine qe kr ?_
     have Z:=Z.sp 13 (.bool (t.ready&& (decide (t.cpu=fr)&& (decide ((t.mask/2^c)%2=1)&&decide (cu.getD ct 0≠t.id))))) rfl (congrArg abP (by rw [u,decide_eq_true G,decide_eq_false om];first|done|rfl))
     exact ⟨Z.sub kr,e.pt 8 [0,1,2,3,4,5,6,7]⟩
    have G:=ne_of_beq_false Y
    refine ap Z (λ_=>l) [9,10,11,12,13,14,15,16,17,18,19,20,21,22,23,24,25,26,27,28,29,30,31] (bt 32 []) [(13,.bool false)] λa Z=>?_
    refine qe kr ?_
    have Z:=Z.sp 13 (.bool (t.ready&& (decide (t.cpu=fr)&& (decide ((t.mask/2^c)%2=1)&&decide (cu.getD ct 0≠t.id))))) rfl (congrArg abP (by rw [u,decide_eq_false G];first|done|rfl))
    exact ⟨Z.sub kr,e.pt 8 [0,1,2,3,4,5,6,7]⟩
   refine ap Z (λ_=>l) [3,4,5,6,7,8,9,10,11,12,13,14,15,16,17,18,19,20,21,22,23,24,25,26,27,28,29,30,31] (bt 32 []) [(13,.bool false)] λa Z=>?_
   refine qe kr ?_
   have Z:=Z.sp 13 (.bool (t.ready&& (decide (t.cpu=fr)&& (decide ((t.mask/2^c)%2=1)&&decide (cu.getD ct 0≠t.id))))) rfl (congrArg abP (by rw [u];try rfl))
   exact ⟨Z.sub kr,e.pt 8 [0,1,2,3,4,5,6,7]⟩
  clear Z e;rintro a CO ⟨Z,e⟩
  obtain ⟨ma,hma⟩:∃b,(t.ready&& (decide (t.cpu=fr)&& (decide ((t.mask/2^c)%2=1)&&decide (cu.getD ct 0≠t.id))))=b:=⟨_,rfl⟩
  replace Z:=Z.sp 13 (.bool ma) rfl (by rw [hma])
  have htk:=zfi (x:=(⟨cp,cr,gA,gc,gs,lA,lc,cl,some ⟨f,0,none⟩,uc,cu,some ⟨g,0,none⟩,tc,ts,sA,sc,rs⟩:aF)) (be:=s) N S Q hct hbb hma
  refine qz (λaS wS=>Fr aS 136 [] ((116,.bool (Aa (⟨cp,cr,gA,gc,gs,lA,lc,cl,some ⟨f,0,none⟩,uc,cu,some ⟨g,0,none⟩,tc,ts,sA,sc,rs⟩:aF).ay o s t))::(13,.bool ma)::(11,vI n)::(12,vP X 0)::(51,.bool true)::ah8 50 n 49 p ((48,vS g p tc)::(10,vI s)::(27,.bool false)::ah8 26 cp.toNat 25 cp (ah8 7 R 6 fr ((19,.bool false)::aix g3 A []))))/\Mem W wS (.blk X t.cells 232::.blk g3 o.cells 214::fM A cp cr gA J gc lA K lc (some ⟨f,0,none⟩) L uc (some ⟨g,0,none⟩) p tc sA M sc::ai2 gA J gc gs lA K lc cl (some ⟨f,0,none⟩) L uc cu (some ⟨g,0,none⟩) p tc ts sA M sc rs (fR rs++(T)))) ?_ ?_
  ·
   refine Jb Z e ((Vs .n []) λIW=>(Vp [0,1]) λa Z e l=>?_)
   rcases Z.tf 87 rfl with ⟨H,Z⟩|⟨H,Z⟩
   ·
    refine Vb Z e l ((Vf 2 2∘Vp [5,6]∘Vf 7 1∘Vc 3 O0∘Vp [4]∘Vo (vI (2*t.weight)) (by exact nN ⟨by omega,by omega⟩)∘Vc 8 O1∘Vo (vI c) (by rw [N])∘VI 9 .n (h:=by exact λe=>qt6 2 e rfl B Q)) λw95 hbw=>(Vp [10]∘Vo (vI (R-lc_)) (by exact nN ⟨by omega,by omega⟩)∘Vp [11,12,13]) λa Z e l=>?_)
    rcases Z.tf 99 rfl with ⟨DZ,Z⟩|⟨DZ,Z⟩
    ·
     have I:=of_decide_eq_true DZ
     refine Vb Z e l ((Vp [14,15,16]) λa Z e l=>?_)
     rcases Z.tf 102 rfl with ⟨C,Z⟩|⟨C,Z⟩
     ·
      have D:=of_decide_eq_true C
      refine Vb Z e l ((Vq [17,18,19,20,21,22,23,24,25,26,27,28,29,30] [(116,.bool true)]∘Vd∘aI) λa Z e=>?_)
      have Z:=Z.sp 116 (.bool (Aa (⟨cp,cr,gA,gc,gs,lA,lc,cl,some ⟨f,0,none⟩,uc,cu,some ⟨g,0,none⟩,tc,ts,sA,sc,rs⟩:aF).ay o s t)) rfl (congrArg abP (by rw [htk,H,decide_eq_true I,decide_eq_true D];rfl))
      exact ⟨Z.sub kr,e.pt 8 [0,1,2,3,4,5,6,7]⟩
     have D:=of_decide_eq_false C
     refine ap Z (λ_=>l) [17,19] (bt 31 [18,20,21,22,23,24,25,26,27,28,29,30]) [(105,vP A 0),(103,vP X 2)] λa Z=>?_
     refine dJ Z l 18 0 (v:=vI t.weight) λa Z=>?_
     refine pE Z l 20 λa Z=>?_
     refine ap Z (λ_=>l) [21,22] (bt 31 [23,24,25,26,27,28,29,30]) [(108,vP A 5)] λa Z=>?_
     refine dJ Z l 23 2 λa Z=>?_
     refine qH Z (λ_=>l) (i:=24) rfl rfl (d:=110) rfl de kr (λ_ _ _ h=>h) (v:=vI s) (λ_=>Yl.pure kr) λa Z=>?_
     replace Z:=Z.sp 110 (vI bb) rfl (by rw [show s=(bb:Int) by omega])
     refine iN Z l 25 rfl (v:=vP g (bb*8)) (Yl.iM g bb 8 rfl rfl rfl) λa Z=>?_
     refine ap Z (λ_=>l) [26] (bt 31 [27,28,29,30]) [(112,vP g (bb*8+2))] λa Z=>?_
     refine iN Z l 27 rfl (v:=vI ((ts.getD bb Tk.zero).weight)) (Pd rfl rfl kr (λ_ h=>h.qv qm (i:=6) rfl (k:=bb) (off:=2) (x:=(ts.getD bb Tk.zero)) ((getD_at Tk.zero om)) rfl)) λa Z=>?_
     refine ap Z (λ_=>l) [28,29,30] (bt 31 []) [(116,.bool (decide ((t.weight:Int)>((ts.getD bb Tk.zero).weight:Int))))] λa Z=>?_
     refine qe kr ?_
     have Z:=Z.sp 116 (.bool (Aa (⟨cp,cr,gA,gc,gs,lA,lc,cl,some ⟨f,0,none⟩,uc,cu,some ⟨g,0,none⟩,tc,ts,sA,sc,rs⟩:aF).ay o s t)) rfl (congrArg abP (by rw [htk,H,decide_eq_true I,decide_eq_false D];rfl))
     exact ⟨Z.sub kr,e.pt 8 [0,1,2,3,4,5,6,7]⟩
    have I:=of_decide_eq_false DZ
    refine ap Z (λ_=>l) [14,15,16,17,18,19,20,21,22,23,24,25,26,27,28,29,30] (bt 31 []) [(116,.bool false)] λa Z=>?_
    refine qe kr ?_
    have Z:=Z.sp 116 (.bool (Aa (⟨cp,cr,gA,gc,gs,lA,lc,cl,some ⟨f,0,none⟩,uc,cu,some ⟨g,0,none⟩,tc,ts,sA,sc,rs⟩:aF).ay o s t)) rfl (congrArg abP (by rw [htk,decide_eq_false I,Bool.and_false];rfl))
    exact ⟨Z.sub kr,e.pt 8 [0,1,2,3,4,5,6,7]⟩
   refine ap Z (λ_=>l) [2,3,4,5,6,7,8,9,10,11,12,13,14,15,16,17,18,19,20,21,22,23,24,25,26,27,28,29,30] (bt 31 []) [(116,.bool false)] λa Z=>?_
   refine qe kr ?_
   have Z:=Z.sp 116 (.bool (Aa (⟨cp,cr,gA,gc,gs,lA,lc,cl,some ⟨f,0,none⟩,uc,cu,some ⟨g,0,none⟩,tc,ts,sA,sc,rs⟩:aF).ay o s t)) rfl (congrArg abP (by rw [htk,H];rfl))
   exact ⟨Z.sub kr,e.pt 8 [0,1,2,3,4,5,6,7]⟩
  clear Z e;rintro a w16 ⟨Z,e⟩
  refine Jb Z e (Ju (λE=>?_) λE=>?_)
  ·
   refine (JT∘JR∘Jp 2∘aL∘Jj∘JR∘dx 1∘Jp 1∘aL∘Jq) λa Z e=>?_
   exact ⟨_,om,n+1,(n:Int),by omega,by rw [qts P,show (aF.ay (⟨cp,cr,gA,gc,gs,lA,lc,cl,some ⟨f,0,none⟩,uc,cu,some ⟨g,0,none⟩,tc,ts,sA,sc,rs⟩:aF)).ts.getD n Tk.zero=t from qbv Tk.zero ht,if_pos E],rfl,Z.sub kr,e.pt 8 [1,2,3,4,5,6,7]⟩
  refine (aP∘JR∘dx 1∘Jp 1∘aL∘Jq) λa Z e=>?_
  exact ⟨_,om,n+1,s,by omega,by rw [qts P,show (aF.ay (⟨cp,cr,gA,gc,gs,lA,lc,cl,some ⟨f,0,none⟩,uc,cu,some ⟨g,0,none⟩,tc,ts,sA,sc,rs⟩:aF)).ts.getD n Tk.zero=t from qbv Tk.zero ht,if_neg (z8 E)],rfl,Z.sub kr,e.pt 8 [1,2,3,4,5,6,7]⟩
 have hnl:n=abr ts:=by omega
 subst hnl
 have hbi:=qmr P
 refine (JF∘JX∘JG∘bM 2∘aL∘Jj) (Ji (λKj=>?_) λKj=>?_)
 ·
  exact (JT∘bB 2∘bW) λe=>by exact qw (y:=(⟨cp,cr,gA,gc,gs,lA,lc,cl,some ⟨f,0,none⟩,uc,cu,tA,tc,ts,sA,sc,rs⟩:aF)) 1 e rfl Ki (qtt (x:=(⟨cp,cr,gA,gc,gs,lA,lc,cl,some ⟨f,0,none⟩,uc,cu,tA,tc,ts,sA,sc,rs⟩:aF)) (decide_eq_true q) (by rw [P];omega))
 obtain ⟨k,hk⟩:∃n:Nat,s=(n:Int):=⟨s.toNat,by omega⟩
 subst hk
 repeat (first|clear Z|clear e)
 intro a Z e
 obtain ⟨g,rfl⟩:=e.rat 5 k (hk:=(by omega:k<p))
 obtain ⟨t2,ht2⟩:∃z,ts[k]?=some z:=⟨_,abv om⟩
 refine Jb Z e ((aP∘aM 1∘Jn∘Jf 0∘Jg 5 O1∘Jp 1∘nP k 8∘Jf 0∘Jy (v:=vI t2.id) (h:=by exact Pd rfl rfl kr (λ_ h=>(by have:=h.qv qm (i:=5) rfl (k:=k) (off:=0) (x:=t2) (ht2) rfl;simpa using this)))∘Jp 1∘aI∘bg 2∘Jf 1∘Jc O0∘Jo (vI c) (by rw [N])∘JL (h:=by exact λe=>q8x 1 e rfl B ht2 sK)) ?_)
 rintro e _ D5 ⟨y,rfl,hys,uJ⟩
 refine ⟨_,rfl,_,(show Mem W D5 (.blk g3 o.cells 214::(nD A y++(T))) from uJ),?_⟩
 exact (qL∘bg 3∘aQ∘bW) λe=>by exact zio 1 e rfl ((qtu (x:=(⟨cp,cr,gA,gc,gs,lA,lc,cl,some ⟨f,0,none⟩,uc,cu,some ⟨g,0,none⟩,tc,ts,sA,sc,rs⟩:aF)) (decide_eq_true q) P ht2).trans (by rw [hys,N]))
def qzn (W:ajg) (n:Nat) (l:List Tk) (a:Nat) (t:Tk) (fs:List ajr) (r:ajk) (b:ajg):Prop:=∃(A:ajq) (c:Nat),r= .returned (.slice A (n+1) c)/\n+1<=c/\Mem W b (fT A (n+1) c l:: .blk a t.cells 232::fs)
def Ub {l:List Tk} {r:ajk} (hr:r= .returned (.slice A (n+1) c)) (a:Mem W w (fT A (n+1) c l:: .blk m t.cells 232::fs)):qzn W n l m t fs r w:=by
 obtain ⟨f,g,b,d⟩:=Cq (a.own (i:=0) rfl)
 injection b with h j e
 subst e
 exact ⟨A,c,hr,d,a⟩
def q8y (f:Mem W w fs) {i j k g off b d m c:Nat} {C:Array ajh} {xs:List ajh} {t:ajj} (h:fs[i]?=some (.blk k C t)) (hi:fs[j]?=some (.row (.slice (some ⟨g,0,none⟩) m c) m xs 232 8)) (a:i≠j) (hm:0<c) {ln lc:Nat}:
  (callFunc 262 [afV (some ⟨k,0,none⟩) ln lc,.slice (some ⟨g,off,none⟩) b d].toArray).run abt w= .ok (.value (.bool false)) w:=by
 rw [run_callFunc_extern Tryz.func262 kr kr kr (e:=ad6 #[45,45] #[4]) kr]
 show ((ad6 #[45,45] #[4] #[.slice (some ⟨k,0,none⟩) ln lc,.slice (some ⟨g,off,none⟩) b d]).run abt w).andThen _=_
 rw [qta f dL h hi a hm ln lc]
 rfl
def add0 {g k:Nat}:(some (⟨g,0,none⟩:Addr)).map (·.add k)=some ⟨g,k,none⟩:=by rw [Option.map_some,acL,ab9]
def q8z (l:List Tk) (i:Nat):(l.flatMap bZ).take (i*8)=(l.take i).flatMap bZ:=by
 rcases ab0 (abr l) i with h|h
 ·rw [abM (by rw [nV];omega),abM om]
 ·have a:abr ((l.take i).flatMap bZ)=i*8:=by rw [nV,abA];omega
  conv=>lhs;rw [<-ab1 i l,abZ,<-a]
  exact adP
def zpt (h:Mem W w fs) {j g n c i:Nat} {l:List Tk} (hi:fs[j]?=some (.row (.slice (some ⟨g,0,none⟩) n c) n (l.flatMap bZ) 232 8)) (h1:i<abr l) (f:abr l<=c):
  ∃b,(if c=i+1 then some (⟨g,0,none⟩:Addr) else (some (⟨g,0,none⟩:Addr)).map (·.add ((i+1)*8)))=some b/\∀k v,((l.drop (i+1)).flatMap bZ)[k]?=some v->w.cell? (b.add k)=some v:=by
 by_cases e:c=i+1
 ·rw [if_pos e]
  refine ⟨_,rfl,λk v d=>?_⟩
  rw [acu om] at d
  cases d
 ·rw [if_neg e]
  refine ⟨⟨g,(i+1)*8,none⟩,by simp [Addr.add],?_⟩
  exact h.mY (a:=i+1) (ys:=[]) (by rw [abN];exact hi) ⟨abr l,abM (by rw [abE];omega)⟩ om
def zl3 {xs ys r:List ajh} (h:xs.length=k) {j:Nat} (a:k=j:=by rfl):(putAt (xs++ys) k r).take j=xs:=by
 subst a;subst h
 rw [NC,aby]
 exact adP
def q80 (z t:Tk) (g:Nat) (w:ajg) (a:w.heap[g]?=some (.cells t.cells 232 (0,0))):
    Calls abt 204 #[.agg z.cells,vP g 0] w (Is w (.bool (decide (z.id>t.id)))):=by
 refine (iQ Tryz.func204 9) ?_
 exact (JP∘JE) λb c=>(Jp 1∘Jr∘Jg 0 O0∘Jf 0∘Jy (v:=vI t.id) (h:=by exact Pd rfl rfl kr (λ_ h=>h.mV a rfl))∘Jp 2∘fK∘aQ) sW
def q3h (A:ajq) (c:Nat) (l:List Tk) (t:Tk) (g:Nat) (w:ajg) (hr:Rd w w.heap.size 8 A (abr l) (l.flatMap bZ)) (v:abr l<=1000000) (q:w.heap[g]?=some (.cells t.cells 232 (0,0))):
    Calls abt 203 #[abo A l c,.func (.func 204) #[] #[vP g 0]] w (tL w l t.id):=by
 refine (iQ Tryz.func203 19) ?_
 refine (cB 1∘bM 1∘Jl∘bO 1∘JB) λa Z b=>?_
 refine qg (λp r s=>∃(k:Nat),(k<=abr l)/\(∀j,j<k->(l.getD j Tk.zero).id<=t.id)/\p=abr l-k/\Fr r 19 [] (ah8 8 k 7 (abr l) [(4,vI 0),(0,abo A l c),(1,.func (.func 204) #[] #[vP g 0])])/\Mem w s []) (m:=abr l-0) ⟨0,abC _,λj h=>by omega,rfl,Z.sub kr,b.pk []⟩ ?_
 clear Z b;rintro p a x ⟨k,y,e,rfl,Z,b⟩
 refine Jb Z b ((cB 1∘JQ) (Ji (λi=>?_) λi=>?_))
 ·
  have n:k<abr l:=by omega
  refine (eP∘aM 2∘aL∘bg 3) ?_
  obtain ⟨gA,z,rfl,_⟩:=hr.sat k
  refine (iF k 8∘qM Tk.cells qm hr fH k Tk.zero) λa Z b=>?_
  refine fo Z 5 rfl rfl ?_
  refine zl Z (f:=204) (vs:=[.agg ((l.getD k Tk.zero).cells)]) (fst:=[]) (caps:=[vP g 0]) rfl rfl rfl kr rfl de (q80 (l.getD k Tk.zero) t g _ (b.lU q)) ?_
  rintro _ u ⟨rfl,o⟩
  refine ⟨_,rfl,?_⟩
  replace b:=b.call o
  clear Z;intro a Z
  refine Jb Z b ((kV∘Jj) (Ji (λd=>?_) λd=>?_))
  ·
   exact (JT∘aM 2∘aL∘aQ∘aW) λb=>q2z n e om b.below
  refine (aP∘JR∘dx 1∘Jp 1∘aL∘Jq) λa Z b=>?_
  exact ⟨_,om,k+1,by omega,q21 e om,rfl,Z.sub kr,b.pk []⟩
 exact (JF∘JX∘JG∘bB 1∘aW) λb=>q20 (λj B=>e j om) b.below
def qt7 (W w:ajg) (A:ajq) (n c i:Nat) (l:List Tk) (t:Tk) (y:Nat) (fs:List ajr) (F:abr l=n) (G:n<=1000000) (hi:i<=n) (H:n<=c) (b:Mem W w (fT A n c l:: .blk y t.cells 232::fs)):
    Calls abt 205 #[.slice A n c,vI i,.slice (some ⟨y,0,none⟩) 1 1] w (qzn W n (jr l i t) y t fs):=by
 refine (zY b Tryz.func205 95) ?_
 refine (aM 1∘bg 2∘Jy (h:=by exact aaf dL (j:=i) rfl rfl rfl om)∘oK∘bg 1∘Jl∘Jp 1∘bU∘Jj∘JQ∘JP∘Jv 2 [(16,.bool false)]∘Jj∘aP∘aM 1∘Jl∘Jp 1∘bU∘Jj∘bM 3∘bU∘Jj) (Je (λs=>?_) λs=>?_)
 ·
  refine (JT∘aM 2∘JD (bZ t) 0 (λ_ _=>aN) dL (hr:=by exact λb=>b.bE (i:=1) (n:=1) (size:=8) rfl rfl) (h1:=by exact Td t)) λI J K z=>(JC (h:=by exact λb=>b.dw (i:=0) (ys:=((l++[t]).flatMap bZ)) rfl (q8g l t))∘Jp 1∘eO∘aQ) λa Z b=>?_
  have o:=b.pt 2 [0,1]
  exact l8 rfl Z rfl (Ub rfl (o.dw (i:=0) rfl (by rw [zez (l:=l) (t:=t) (i:=i) om])))
 refine (aP∘bM 2∘dx 1∘Jp 1∘Jy (h:=by exact Yl.cap rfl rfl kr)∘Jp 1∘kV∘Jj) (Ji (λu=>?_) λu=>?_)
 ·
  repeat (first|clear Z|clear b)
  intro a Z b
  obtain ⟨gA,rfl⟩:=b.rat 0 i (hk:=(by omega:i<n))
  refine Jb Z b ((JT∘aM 2∘Jy (h:=by exact aah dL (j:=i) rfl rfl rfl om)∘Jp 2∘dx 1∘Jp 1∘Js) λa Z b=>?_)
  refine fo Z 8 rfl rfl ?_
  refine qnq Z b (kn:= .i64) (xs:=(l.take i).flatMap bZ) (m:=n+1-i) rfl dL kr rfl rfl ⟨by rw [nV,abA];omega,b.mY (j:=0) (a:=0) (l:=l) (ys:=[]) (by rw [abN];rfl) ⟨i,rfl⟩ (abC _)⟩ om om om om rfl de ?_
  clear Z;intro a L e g Z p B
  replace b:=p
  have d:i+(n+1-i)=n+1:=om
  replace b:=b.bq (i:=0) (ys:=((l.take i).flatMap bZ++zT (n+1-i))) rfl d (rfl)
  replace Z:=Z.sp 40 (vS e (n+1) g) rfl (iZ d)
  refine Jb Z b ((Jp 1∘aI∘bg 2∘Jy (v:= .slice (if g=i then some ⟨e,0,none⟩ else (some ⟨e,0,none⟩:ajq).map (·.add (i*8))) ((n+1)-i) (g-i)) (h:=by exact aaf dL (j:=i) rfl rfl rfl om)∘Jo (.slice (some ⟨e,i*8,none⟩) (n+1-i) (g-i)) (by rw [if_neg om,add0])∘Jp 1) λa Z b=>?_)
  refine fo Z 4 rfl rfl ?_
  refine NA Z b (i:=0) (bZ t) rfl dL rfl rfl rfl (by rw [qm,show agA 1 (n+1-i)=1 from ac9 om]) (λk v q=>by rw [acL,ab9];exact b.cell (i:=2) rfl (by rw [<-aeQ];exact q)) (Td t) (by rw [qm];simp only [abu,nV,Oe,abA];omega) rfl de ?_
  clear Z b;intro a M Z b
  refine Jb Z b ((qL∘Jj) λa Z b=>?_)
  refine wp_seq ?_
  refine Jb Z b ((Vs (.f .n) []) λC=>(Vp [0,1,2,5,6]∘zI 3 1∘Vy 4 (v:= .slice (if g=(i+1) then some ⟨e,0,none⟩ else (some ⟨e,0,none⟩:ajq).map (·.add ((i+1)*8))) ((n+1)- (i+1)) (g- (i+1))) (h:=by exact aaf dL (j:=(i+1)) rfl rfl rfl om)∘Vo (.slice (some ⟨e,(i+1)*8,none⟩) (n+1- (i+1)) (g- (i+1))) (by rw [if_neg om,add0])∘Vy 7 (v:= .slice (if c=i then some ⟨gA,0,none⟩ else (some ⟨gA,0,none⟩:ajq).map (·.add (i*8))) (n-i) (c-i)) (h:=by exact aaf dL (j:=i) rfl rfl rfl om)∘Vo (.slice (some ⟨gA,i*8,none⟩) (n-i) (c-i)) (by rw [if_neg om,add0])) λa Z b x=>?_)
  refine s_on Z 8 rfl ?_
  refine NA Z b (i:=0) ((l.drop i).flatMap bZ) rfl dL rfl rfl rfl (by rw [nV,abE,show agA (n-i) (n+1- (i+1))=n-i from ac9 om];omega) (b.mY (j:=1) (a:=i) (ys:=[]) (by rw [abN];rfl) ⟨abr l,abM (by rw [abE];omega)⟩ om) (λv q=>I8 _ v q) (by rw [MP (by rw [qm];simp only [abu,nV,Oe,abA];omega),nV,abE];simp only [abu,nV,Oe,abA];omega) rfl de ?_
  clear Z b;intro a N Z b
  refine av (b.pt 3 [1,2]) (λx=>?_)
  refine Vb Z b x ((Vd∘jh∘aM 2∘fK∘aQ) λa Z b=>?_)
  have o:=b.pt 3 [0,2]
  exact l8 rfl Z rfl (Ub rfl (o.dw (i:=0) rfl (by rw [<-F];exact ze0 om)))
 repeat (first|clear Z|clear b)
 intro a Z b
 obtain ⟨gA,rfl⟩:=b.rat 0 i (hk:=(by omega:i<n))
 refine Jb Z b ((aP∘aM 3∘dx 1∘Jy (h:=by exact aah dL (j:=n+1) rfl rfl rfl om)∘Jp 1∘kV∘Jq) λa Z b=>?_)
 obtain ⟨D,r,p⟩:=b.pG (i:=0) (m':=n+1) rfl om om
 replace b:=p;clear p
 replace r:abr D=8:=by rw [r];omega
 refine Jb Z b ((JG∘bM 4∘dx 1∘Jy (v:= .slice (if c=(i+1) then some ⟨gA,0,none⟩ else (some ⟨gA,0,none⟩:ajq).map (·.add ((i+1)*8))) ((n+1)- (i+1)) (c- (i+1))) (h:=by exact aaf dL (j:=(i+1)) rfl rfl rfl om)∘Jo (.slice (some ⟨gA,(i+1)*8,none⟩) (n+1- (i+1)) (c- (i+1))) (by rw [if_neg om,add0])) λa Z b=>?_)
 refine fo Z 6 rfl rfl ?_
 refine zd9 Z b rfl rfl (q8y b (i:=1) (j:=0) rfl rfl de om) rfl de ?_
 clear Z;intro a Z
 refine Jb Z b ((Jp 1∘aI∘Jj∘JT) λa Z b=>?_)
 refine wp_seq ?_
 refine Jb Z b ((Vs (.f .n) []) λE=>(Vp [0,1,2,5,6]∘zI 3 1∘Vy 4 (v:= .slice (if c=(i+1) then some ⟨gA,0,none⟩ else (some ⟨gA,0,none⟩:ajq).map (·.add ((i+1)*8))) ((n+1)- (i+1)) (c- (i+1))) (h:=by exact aaf dL (j:=(i+1)) rfl rfl rfl om)∘Vo (.slice (some ⟨gA,(i+1)*8,none⟩) (n+1- (i+1)) (c- (i+1))) (by rw [if_neg om,add0])∘Vy 7 (v:= .slice (if c=i then some ⟨gA,0,none⟩ else (some ⟨gA,0,none⟩:ajq).map (·.add (i*8))) ((n+1)-i) (c-i)) (h:=by exact aaf dL (j:=i) rfl rfl rfl om)∘Vo (.slice (some ⟨gA,i*8,none⟩) (n+1-i) (c-i)) (by rw [if_neg om,add0])) λa Z b x=>?_)
 refine s_on Z 8 rfl ?_
 refine NA Z b (i:=0) ((l.drop i).flatMap bZ) rfl dL rfl rfl rfl (by rw [nV,abE,show agA (n+1-i) (n+1- (i+1))=n+1- (i+1) from ahb om];omega) (b.mY (j:=0) (a:=i) (ys:=D) rfl ⟨abr l,abM (by rw [abE];omega)⟩ om) (λv q=>I8 _ v q) (by rw [nV,abE,abu,nV];omega) rfl de ?_
 clear Z b;intro a O Z b
 refine av (b.pt 2 [1]) (λx=>?_)
 refine Vb Z b x ((Vd∘jh∘aM 2∘Jy (v:= .slice (if c=i then some ⟨gA,0,none⟩ else (some ⟨gA,0,none⟩:ajq).map (·.add (i*8))) ((n+1)-i) (c-i)) (h:=by exact aaf dL (j:=i) rfl rfl rfl om)∘Jo (.slice (some ⟨gA,i*8,none⟩) (n+1-i) (c-i)) (by rw [if_neg om,add0])∘Jp 1) λa Z b=>?_)
 refine fo Z 4 rfl rfl ?_
 refine NA Z b (i:=0) (bZ t) rfl dL rfl rfl rfl (by rw [qm,show agA 1 (n+1-i)=1 from ac9 om]) (λk v q=>by rw [acL,ab9];exact b.cell (i:=1) rfl (by rw [<-aeQ];exact q)) (Td t) (by rw [qm,MP (by rw [nV,abE,abu,nV];omega),abu,nV];omega) rfl de ?_
 clear Z b;intro a P Z b
 refine Jb Z b ((jh∘bg 2∘eO∘aQ) λa Z b=>?_)
 have o:=b.pt 2 [0,1]
 exact l8 rfl Z rfl (Ub rfl (o.dw (i:=0) rfl (q8h om r)))
def qt8 (W w:ajg) (g n c i:Nat) (l:List Tk) (fs:List ajr) (D:abr l=n) (u:n<=1000000) (hi:i<n) (x:n<=c) (d:Mem W w (fT (some ⟨g,0,none⟩) n c l::fs)):
    Calls abt 209 #[.slice (some ⟨g,0,none⟩) n c,vI i,vI ((i+1:Nat):Int)] w (λr y=>r= .returned (.slice (some ⟨g,0,none⟩) (n-1) c)/\Mem W y (fT (some ⟨g,0,none⟩) (n-1) c (l.eraseIdx i)::fs)):=by
 refine (zY d Tryz.func209 33) ?_
 refine (aM 1∘bg 4∘Jl∘Jy (v:= .slice (if n=i then some ⟨g,0,none⟩ else (some ⟨g,0,none⟩:ajq).map (·.add (i*8))) ((i+1)-i) (n-i)) (h:=by exact aa4 dL (i:=i) (j:=i+1) (q:=n) rfl rfl rfl rfl rfl om om om)∘jh∘Jj∘bM 3∘bU∘Jj) (Je (λe=>?_) λe=>?_)
 ·
  intro a Z d
  exact absurd e om
 refine (aP∘aM 1∘Jl∘Jp 1∘bU∘Jj) λa Z d=>?_
 refine wp_seq ?_
 refine Jb Z d ((Vs (.f .n) []) λz=>(Vp [0,1,3,4]∘Vy 2 (h:=by exact aah dL (j:=i) rfl rfl rfl om)∘Vy 5 (h:=by exact aaf dL (j:=(i+1)) rfl rfl rfl om)) λa Z d s=>?_)
 refine s_on Z 6 rfl ?_
 obtain ⟨A,o,k⟩:=zpt d (j:=0) (i:=i) rfl (by omega:i<abr l) (by omega:abr l<=c)
 replace Z:=Z.sp 25 (.slice (some A) (n- (i+1)) (c- (i+1))) rfl (by rw [o])
 replace d:=d.Ik (i:=0) (m':=i) (ys:=(l.take i).flatMap bZ) rfl om (q8z l i)
 refine qv8 Z d (i:=0) (news:=(l.drop (i+1)).flatMap bZ) rfl dL rfl rfl rfl (by rw [nV,abE];omega) k om (λv B=>I8 _ v B) rfl de ?_
 clear Z d;intro a C Z d
 refine av (d.pt 1 []) (λs=>?_)
 refine Vb Z d s ((Vp [7]∘Vd∘aI) ?_)
 have b:i+(n- (i+1))=n-1:=om
 intro a Z d
 replace d:=d.bq (i:=0) (ys:=(l.eraseIdx i).flatMap bZ) rfl b (ze1 om)
 replace Z:=Z.sp 0 (vS g (n-1) c) rfl (iZ b)
 refine Jb Z d ((aM 2∘Jl∘Jp 1∘Jy (v:= .slice (if c=n-1 then some ⟨g,0,none⟩ else (some ⟨g,0,none⟩:ajq).map (·.add ((n-1)*8))) (n- (n-1)) (c- (n-1))) (h:=by exact aan dL (i:=n-1) (j:=n) rfl rfl rfl rfl om om)∘Jo (.slice (some ⟨g,(n-1)*8,none⟩) (n- (n-1)) (c- (n-1))) (by rw [if_neg om,add0])) λa Z d=>?_)
 refine fo Z 5 rfl rfl ?_
 obtain ⟨E,p,m⟩:=d.pG (i:=0) (m':=n) rfl om om
 replace d:=m;clear m
 refine zk3 Z d (i:=0) rfl dL rfl rfl om (zpr _) (by rw [abu,p,nV,aeW,if_pos om];omega) rfl λt d=>?_
 replace d:=d.Ik (i:=0) (m':=n-1) (ys:=(l.eraseIdx i).flatMap bZ) rfl om (zl3 (by rw [nV,aeW,if_pos om];omega))
 refine Jb Z d ((qL∘bg 2∘aL∘aQ) λa Z d=>?_)
 exact l8 rfl Z rfl ⟨rfl,d⟩
def q81 {g n c i:Nat} {l:List Tk} {K:List ajr} (O:l9 (fT (some ⟨g,0,none⟩) n c l) (fT (some ⟨g,0,none⟩) (n-1) c (l.eraseIdx i)) F K) (e:Mem W w F) (f:abr l=n) (a:n<=1000000) (hi:i<n):
  Calls abt 209 #[.slice (some ⟨g,0,none⟩) n c,vI i,vI ((i+1:Nat):Int)] w (λr b=>r= .returned (.slice (some ⟨g,0,none⟩) (n-1) c)/\Mem W b K):=by
 obtain ⟨p,q,rfl,rfl⟩:=O.split
 have d:=e.perm ade
 obtain ⟨o,s,j,k⟩:=Cq (d.own (i:=0) rfl)
 injection j with _ _ m
 subst m
 exact (qt8 W w g n c i l (p++q) f a hi k d).mono λr b h=>⟨h.1,h.2.perm List.perm_middle.symm⟩
theorem At.mem {α:Type} {a:α} {l:List α} (h:At l a):a∈l:=by
 induction h with
 |z=>exact aci ..
 |s _ b=>exact ab5 _ b
def qt9 {n c i m:Nat} {l:List Tk} {k:ajq->Nat->List ajr} (t:Tk) (j:Nat) (O:∀e d,l9 (fT A n c l) (fT e (n+1) d (jr l i t)) F (k e d)) (V:At F (.blk m t.cells 232)) (G:Mem W w F) (H:l.length=n) (o:n<=1000000) (hi:i<=n) (y:F[j]?=some (fT A n c l):=by exact rfl) (I:(λe d=>F.set j (fT e (n+1) d (jr l i t)))=k:=by kernel_rfl):
  Calls abt 205 #[.slice A n c,vI i,.slice (some ⟨m,0,none⟩) 1 1] w (λr z=>∃e d,r= .returned (.slice e (n+1) d)/\n+1<=d/\Mem W z (k e d)):=by
 have f:=(abF.1 y).1
 obtain ⟨p,q,B,g⟩:∃p q,F=p++fT A n c l::q/\∀b,F.set j b=p++b::q:=⟨F.take j,F.drop (j+1),by rw [<-(abF.1 y).2,<-acv f,ab1],λb=>by rw [List.set_eq_take_append_cons_drop,if_pos f]⟩
 have v:=(B▸G).perm (ade (l₁:=p) (a:=fT A n c l) (l₂:=q))
 obtain ⟨e,d,J,K⟩:=Cq (v.own (i:=0) rfl)
 injection J with _ _ L
 subst L
 have C:=V.mem
 rw [B] at C
 have x:ahl m t.cells 232∈p++q:=by
  rcases acg.1 C with h|h
  ·exact adS _ h
  ·rcases abX.1 h with h|h
   ·cases h
   ·exact List.mem_append_right _ h
 obtain ⟨s,u,hs⟩:=List.append_of_mem x
 rw [hs] at v
 have M:=v.perm (agG _ (ade (l₁:=s) (a:=ahl m t.cells 232) (l₂:=u)))
 refine (qt7 W w A n c i l t m (s++u) H o hi K M).mono λr z ⟨e,d,e1,e2,e3⟩=>⟨e,d,e1,e2,?_⟩
 have D:=e3.perm (agG _ (ade (l₁:=s) (a:=ahl m t.cells 232) (l₂:=u)).symm)
 rw [<-hs] at D
 have E:=D.perm (ade (l₁:=p) (l₂:=q)).symm
 rw [<-g] at E
 have N:=congrFun (congrFun I e) d
 rw [<-N]
 exact E
def zl4 {K:List ajr} (t t1:Tk) (x:En) (h1:t.put x=t1) (O:l9 (.blk g t.cells 232) (.blk g t1.cells 232) F K) (a:Mem W w F) (b:x.Ok):
  Calls abt 202 #[vP g 0,.agg x.cells] w (λr c=>r= .returned (.tuple #[])/\Mem W c K):=by
 subst h1
 exact zlr t x O a b
def q82 {c n g:Nat} {l:List Tk} (a:abr l=n) (hr:Rd w w.heap.size 8 A n (l.flatMap bZ)) (b:abr l<=1000000) (d:w.heap[g]?=some (.cells t.cells 232 (0,0))):Calls abt 203 #[.slice A n c,.func (.func 204) #[] #[vP g 0]] w (tL w l t.id):=by
 subst a
 exact q3h A c l t g w hr b d
def Ox {c m k b a z8 Kk:Nat} {Kl:ajq} {ts':List Tk} (h:tJ x c m k b a) (ht:abr ts'=z8):tJ {x with tA:=Kl,tc:=Kk,ts:=ts'} c m k z8 a:=⟨h.g,h.l,h.u,ht,h.s⟩
def Oy {cp:Int} (hc:cp=(c:Int)) (h:1<=o.weight/\o.weight<=65536/\o.mask≠0/\¬2^c<=o.mask):¬(mK o.weight=false\/o.mask=0\/yN o.mask cp=true):=by
 subst hc
 rintro (a|a|a)
 ·exact of_decide_eq_false a ⟨h.1,h.2.1⟩
 ·exact h.2.2.1 a
 ·exact h.2.2.2 (of_decide_eq_true a)
def zfj {cp:Int} (hc:cp=(c:Int)) (h:¬(1<=o.weight/\o.weight<=65536/\o.mask≠0/\¬2^c<=o.mask)):mK o.weight=false\/o.mask=0\/yN o.mask cp=true:=by
 subst hc
 by_cases a:1<=o.weight/\o.weight<=65536
 ·by_cases b:o.mask=0
  ·exact .inr (.inl b)
  ·exact .inr (.inr (decide_eq_true (afF λd=>h ⟨a.1,a.2,b,d⟩)))
 ·exact .inl (decide_eq_false a)
def qmx (W w:ajg) (x:aF) (gm:Nat) (J K I D L:Nat) (p:dY x J K I D L) (o:bQ) (E:o.Ok) (T:List ajr) (b:Mem W w (jS gm x J K I D L++T)) (M:∀c,c<abr x.cu->fB x.ay c=true):
    Calls abt 150 #[vP gm 0,.agg o.cells] w (kR W gm T (tC x.ay o)):=by
 obtain ⟨cp,cr,gA,gc,gs,lA,lc,cl,uA,uc,cu,tA,tc,ts,sA,sc,rs⟩:=x
 replace b:Mem W w (fM gm cp cr gA J gc lA K lc uA I uc tA D tc sA L sc::ai2 gA J gc gs lA K lc cl uA I uc cu tA D tc ts sA L sc rs (fR rs++(T))):=b
 obtain ⟨N,O,A,B,P⟩:=p.ln
 replace N:abr gs=J:=N;replace O:abr cl=K:=O;replace A:abr cu=I:=A;replace B:abr ts=D:=B;replace P:abr rs=L:=P
 have d:=p.ln
 have hsp:fJ gs cp rs:=p.spots
 have hrg:abr rs=abr gs:=p.sh.rs
 have hcr:cr<18446744073709551616:=p.ok.aj
 obtain ⟨F,G,_,C⟩:=mX p.sh.cfg
 replace F:1<=cp:=F;replace G:cp<=64:=G;replace C:dO gs=true:=C
 have ou:=(qt C).1;have ow:=(qt C).2.1
 have qZ:(abr cl:Int)=cp:=p.sh.cl;have pK:(abr cu:Int)=cp:=p.sh.cu
 have oz:abr ts<=1000000:=p.few.t
 have hoc:=E.cpu;have hot:=E.task;have hog:=E.group;have how:=E.weight;have Q:=E.to;have R:=E.ticks;have Ad:=E.mask;have ru:=E.kind;unfold aX at hoc hot hog how Q R
 have S:=p.ok.cu
 obtain ⟨j,rfl⟩:=zo (b.own (i:=3) rfl) om
 refine (mM b Tryz.func150 60) ?_
 refine (JP∘JE) λw3 g3=>(bO 2∘bM 1∘Jg 1 O0∘JI (h:=by exact λb=>FB 1 b rfl p o.cpu)) λvD hbw=>(Jp 1∘eO∘Jj) (nQ (λe=>?_) λe=>?_)
 ·
  exact (JT∘bB 2∘bW) λb=>by exact qw (y:=(⟨cp,cr,gA,gc,gs,lA,lc,cl,some ⟨j,0,none⟩,uc,cu,tA,tc,ts,sA,sc,rs⟩:aF)) 1 b rfl d (if_pos (decide_eq_false e))
 replace e:0<=o.cpu/\o.cpu<cp:=e
 obtain ⟨c,q⟩:∃n:Nat,o.cpu=(n:Int):=⟨o.cpu.toNat,by omega⟩
 have sK:((c:Nat):Int)<cp:=by omega
 obtain ⟨id,m⟩:∃z,cu.getD c 0=z:=⟨_,rfl⟩
 have U:aX id:=by rw [<-m];exact S _ (qf 0 (by show c<abr cu;omega))
 intro a Z b
 unfold aX at U
 refine Jb Z b ((aP) λa Z b=>?_)
 refine wp_seq ?_
 refine Jb Z b ((Vs .n []) λwd3=>(Vp [0]∘Vf 5 1∘Vn 1∘Vf 2 0∘Vf 3 4∘Vc 4 O1∘Vc 6 O0∘Vo (vI c) (by rw [q])∘Vy 7 (h:=by exact Yl.iM j c 1 rfl rfl rfl)∘Vy 8 (v:=vI (cu.getD c 0)) (h:=by exact aae 4 c 0 om rfl rfl rfl)∘Vo (vI id) (by rw [m])∘Vp [9]∘Vd∘aI∘bM 2∘aL∘Jj) (Je (λV=>?_) λV=>?_))
 ·
  exact (JT∘bB 2∘bW) λb=>by exact qw (y:=(⟨cp,cr,gA,gc,gs,lA,lc,cl,some ⟨j,0,none⟩,uc,cu,tA,tc,ts,sA,sc,rs⟩:aF)) 1 b rfl d ((if_neg (nf (decide_eq_true e))).trans (if_pos (by show cu.getD o.cpu.toNat 0=0;rw [q,abI,m];omega)))
 have r:id≠0:=by omega
 have H:=qt5 (x:=(⟨cp,cr,gA,gc,gs,lA,lc,cl,some ⟨j,0,none⟩,uc,cu,tA,tc,ts,sA,sc,rs⟩:aF)) (M c (by show c<abr cu;omega)) (by show cu.getD c 0≠0;rw [m];exact r)
 rw [show (aF.cu (⟨cp,cr,gA,gc,gs,lA,lc,cl,some ⟨j,0,none⟩,uc,cu,tA,tc,ts,sA,sc,rs⟩:aF)).getD c 0=id from m] at H
 obtain ⟨k,t,X,ht,Y,Ae⟩:=H
 replace X:fidx ts id=(k:Int):=X;replace ht:ts[k]?=some t:=ht;replace Y:k<abr ts:=Y
 repeat (first|clear Z|clear b)
 intro a Z b
 obtain ⟨u,rfl⟩:=b.rat 5 k (hk:=(by omega:k<D))
 refine Jb Z b ((aP∘aM 2∘JI (h:=by exact λb=>qzm 1 b rfl p id k X)) λJ4 hbw=>(Jp 1∘eO∘Jj) λa Z b=>?_)
 refine wp_seq ?_
 refine Jb Z b ((Vs (.t (.t (.t (.t (.f .n))))) [17]) λYM=>(Vp [0]∘Vf 5 1∘Vp [7,12]∘Vn 1∘Vf 2 0∘Vf 3 4∘Vc 4 O1∘Vc 6 O0∘Vo (vI c) (by rw [q])∘Vn 8∘Vf 9 0∘Vf 10 5∘Vc 11 O1∘Vy 13 (h:=by exact Yl.iM j c 1 rfl rfl rfl)) λa Z b HS=>?_)
 refine s_on Z 14 rfl ?_
 refine zj Z b (i:=4) rfl rfl rfl rfl kr rfl rfl (by rw [abz];omega) λacp b=>?_
 replace b:=b.dw (i:=4) (ys:=(cu.set c 0).map aZ) rfl (Gq aZ cu c 0 om)
 refine av (b.pt 7 [0,1,2,3,5,6]) (λHS=>?_)
 refine Vb Z b HS ((Vu 15 (h:=by exact λ_=>Yl.iM u k 8 rfl rfl rfl)∘Vf 16 5) λa Z b HS=>?_)
 refine s_on Z 17 rfl ?_
 refine zj Z b (i:=5) rfl rfl rfl rfl kr rfl rfl (by rw [rZ bZ 8 qm];omega) λacr b=>?_
 replace b:=b.dw (i:=5) (ys:=(ts.set k {t with ready:=false}).flatMap bZ) rfl (vV bZ 8 qm ts k t {t with ready:=false} ht 5 de _ rfl)
 refine dR kr ?_
 refine qe kr ?_
 refine Jb Z b ((JQ∘JP∘Jg 0 O0∘Jp 1∘aI∘Jj) (Je (λwE=>?_) λwE=>?_))
 ·
  exact (JT∘JR∘Jp 2∘Jn∘Jf 0∘Jg 5 O1∘Jp 2∘dx 1∘JO (h:=by exact λb=>q81 rR b (by rw [abL];exact B) om om)) λw55=>(Jn∘Jf 0∘Jf 5∘JW gu rR) λacs=>(jh∘bg 3∘aQ∘bW) λb=>by exact qw (y:=(⟨cp,cr,gA,gc,gs,lA,lc,cl,some ⟨j,0,none⟩,uc,(cu.set c 0),some ⟨u,0,none⟩,tc,((ts.set k {t with ready:=false}).eraseIdx k),sA,sc,rs⟩:aF)) 1 b rfl ⟨d.g,d.l,by show abr (cu.set _ _)=I;rw [abL];exact A,by show abr ((ts.set k _).eraseIdx k)=D-1;rw [aeW,abL,if_pos om];omega,d.s⟩ (ze2 (x:=(⟨cp,cr,gA,gc,gs,lA,lc,cl,some ⟨j,0,none⟩,uc,cu,some ⟨u,0,none⟩,tc,ts,sA,sc,rs⟩:aF)) (decide_eq_true e) q m r X ht om)
 exact (aP∘bB 3∘bW) λb=>by exact qw (y:=(⟨cp,cr,gA,gc,gs,lA,lc,cl,some ⟨j,0,none⟩,uc,(cu.set c 0),some ⟨u,0,none⟩,tc,(ts.set k {t with ready:=false}),sA,sc,rs⟩:aF)) 1 b rfl ⟨d.g,d.l,by show abr (cu.set _ _)=I;rw [abL];exact A,by show abr (ts.set k _)=D;rw [abL];exact B,d.s⟩ (q22 (x:=(⟨cp,cr,gA,gc,gs,lA,lc,cl,some ⟨j,0,none⟩,uc,cu,some ⟨u,0,none⟩,tc,ts,sA,sc,rs⟩:aF)) (decide_eq_true e) q m r X ht om)
def qw1 (W w:ajg) (x:aF) (H:Nat) (M N O E J:Nat) (R:dY x M N O E J) (o:bQ) (ho:o.Ok) (T:List ajr) (b:Mem W w (jS H x M N O E J++T)):
    Calls abt 148 #[vP H 0,.agg o.cells] w (kR W H T (zS x.ay o)):=by
 obtain ⟨cp,cr,gA,gc,gs,lA,lc,cl,uA,uc,cu,tA,tc,ts,sA,sc,rs⟩:=x
 replace b:Mem W w (fM H cp cr gA M gc lA N lc uA O uc tA E tc sA J sc::ai2 gA M gc gs lA N lc cl uA O uc cu tA E tc ts sA J sc rs (fR rs++(T))):=b
 obtain ⟨mZ,hll,oq,hlt,hls⟩:=R.ln
 replace mZ:abr gs=M:=mZ;replace hll:abr cl=N:=hll;replace oq:abr cu=O:=oq;replace hlt:abr ts=E:=hlt;replace hls:abr rs=J:=hls
 have u:=R.ln
 have hsp:fJ gs cp rs:=R.spots
 have hrg:abr rs=abr gs:=R.sh.rs
 have hcr:cr<18446744073709551616:=R.ok.aj
 obtain ⟨hcp1,S,_,V⟩:=mX R.sh.cfg
 replace hcp1:1<=cp:=hcp1;replace S:cp<=64:=S;replace V:dO gs=true:=V
 have ou:=(qt V).1;have ow:=(qt V).2.1
 have qZ:(abr cl:Int)=cp:=R.sh.cl;have pK:(abr cu:Int)=cp:=R.sh.cu
 have oz:abr ts<=1000000:=R.few.t
 have hoc:=ho.cpu;have hot:=ho.task;have hog:=ho.group;have how:=ho.weight;have pO:=ho.to;have pQ:=ho.ticks;have Ad:=ho.mask;have ru:=ho.kind;unfold aX at hoc hot hog how pO pQ
 obtain ⟨cn,X⟩:∃n:Nat,cp=(n:Int):=⟨cp.toNat,by omega⟩
 obtain ⟨d,rfl⟩:=zo (b.own (i:=5) rfl) om
 refine (mM b Tryz.func148 139) ?_
 refine (JP∘JE) λw3 g3=>(Jp 2∘bg 1∘Jn∘Jf 0∘Jp 1∘eO∘Jj∘JQ∘JB∘aM 1∘Jg 1 O0∘JI (h:=by exact λb=>FB 1 b rfl R o.cpu)) λOw I=>(Jp 2∘fK∘Jj) (nQ (λk=>?_) λk=>?_)
 ·
  exact (JT∘bB 2∘bW) λb=>by exact qw (y:=(⟨cp,cr,gA,gc,gs,lA,lc,cl,uA,uc,cu,tA,tc,ts,some ⟨d,0,none⟩,sc,rs⟩:aF)) 1 b rfl u (if_pos (decide_eq_false k))
 replace k:0<=o.cpu/\o.cpu<cp:=k
 obtain ⟨c,F⟩:∃n:Nat,o.cpu=(n:Int):=⟨o.cpu.toNat,by omega⟩
 have sK:((c:Nat):Int)<cp:=by omega
 refine (JF∘JP∘Jg 2 O0∘JI (h:=by exact λb=>Oc o.task _)) λw24 I=>(Jp 2∘eO∘Jj) (nQ (λB=>?_) λB=>?_)
 ·
  exact (JT∘bB 2∘bW) λb=>by exact qw (y:=(⟨cp,cr,gA,gc,gs,lA,lc,cl,uA,uc,cu,tA,tc,ts,some ⟨d,0,none⟩,sc,rs⟩:aF)) 1 b rfl u ((if_neg (nf (decide_eq_true k))).trans (if_pos (decide_eq_false B)))
 refine (JF) λa Z b=>?_
 refine qz (λaS wS=>Fr aS 139 [] ((26,.bool (!(decide (0<=o.group/\o.group<abr rs))))::(21,.bool false)::(15,.bool false)::(6,vP H 0)::aix g3 H [])/\Mem W wS (.blk g3 o.cells 214::fM H cp cr gA M gc lA N lc uA O uc tA E tc (some ⟨d,0,none⟩) J sc::ai2 gA M gc gs lA N lc cl uA O uc cu tA E tc ts (some ⟨d,0,none⟩) J sc rs (fR rs++(T)))) ?_ ?_
 ·
  refine Jb Z b ((Vs .n []) λHY=>(Vf 0 3∘Vc 1 O0∘Vp [2,3]) λa Z b e=>?_)
  rcases Z.tf 30 rfl with ⟨D6,Z⟩|⟨D6,Z⟩
  ·
   have Uc:=of_decide_eq_true D6
   refine Vb Z b e ((Vq [4,5,6,7,8,9,10,11,12,13] [(26,.bool true)]∘Vd∘kV) λa Z b=>?_)
   have Z:=Z.sp 26 (.bool (!(decide (0<=o.group/\o.group<abr rs)))) rfl (congrArg abP (by rw [decide_eq_false om];rfl))
   exact ⟨Z.sub kr,b.pt 7 [0,1,2,3,4,5,6]⟩
  have Uc:=of_decide_eq_false D6
  refine ap Z (λ_=>e) [4,6] (bf 14 [0,1,2,3,4,6]) [(33,vP H 0),(31,vP g3 3)] λa Z=>?_
  refine dJ Z e 5 0 (v:=vI o.group) λa Z=>?_
  refine pE Z e 7 λa Z=>?_
  refine ap Z (λ_=>e) [8] (bt 14 [9,10,11,12,13]) [(35,vP H 6)] λa Z=>?_
  refine dJ Z e 9 1 λa Z=>?_
  refine uE Z e 10 λa Z=>?_
  refine ap Z (λ_=>e) [11,12,13] (bt 14 []) [(26,.bool (decide ((o.group:Int)>=(J:Int))))] λa Z=>?_
  refine qe kr ?_
  have Z:=Z.sp 26 (.bool (!(decide (0<=o.group/\o.group<abr rs)))) rfl (congrArg abP (by rw [<-decide_not];exact decide_eq_decide.2 om))
  exact ⟨Z.sub kr,b.pt 7 [0,1,2,3,4,5,6]⟩
 clear Z b;rintro a w6 ⟨Z,b⟩
 refine Jb Z b (nQ (λD=>?_) λD=>?_)
 ·
  exact (JT∘bB 2∘bW) λb=>by exact qw (y:=(⟨cp,cr,gA,gc,gs,lA,lc,cl,uA,uc,cu,tA,tc,ts,some ⟨d,0,none⟩,sc,rs⟩:aF)) 1 b rfl u ((if_neg (nf (decide_eq_true k))).trans ((if_neg (nf (decide_eq_true B))).trans (if_pos (by show ¬(0<=o.group/\o.group<(abr (rs.map ael):Nat));rw [abz];exact D))))
 obtain ⟨g,hgg⟩:∃n:Nat,o.group=(n:Int):=⟨o.group.toNat,by omega⟩
 refine (JF) λa Z b=>?_
 refine qz (λaS wS=>Fr aS 139 [] ((40,.bool (!(decide (1<=o.weight/\o.weight<=65536/\o.mask≠0/\¬2^cn<=o.mask))))::(26,.bool false)::(21,.bool false)::(15,.bool false)::(6,vP H 0)::aix g3 H [])/\Mem W wS (.blk g3 o.cells 214::fM H cp cr gA M gc lA N lc uA O uc tA E tc (some ⟨d,0,none⟩) J sc::ai2 gA M gc gs lA N lc cl uA O uc cu tA E tc ts (some ⟨d,0,none⟩) J sc rs (fR rs++(T)))) ?_ ?_
 ·
  refine Jb Z b ((Vs .n []) λOq=>(Vf 0 4∘Vc 1 O0) λa Z b e=>?_)
  refine s_on Z 2 rfl ?_
  refine lT Z [vI o.weight] rfl rfl (NR o.weight _) ?_
  rintro _ Sl ⟨rfl,I⟩
  refine ⟨_,rfl,?_⟩
  replace b:=b.call I
  clear Z;intro a Z
  refine av (b.pt 7 [0,1,2,3,4,5,6]) (λe=>?_)
  refine Vb Z b e ((Vp [3,4]) λa Z b e=>?_)
  rcases Z.tf 45 rfl with ⟨D7,Z⟩|⟨D7,Z⟩
  ·
   have wE:=of_decide_eq_false ((Bool.not_eq_true' _).mp D7)
   refine Vb Z b e ((Vq [5,6,7,8,9,10,11,12,13,14,15,16,17,18,19] [(40,.bool true)]∘Vd∘aI) λa Z b=>?_)
   have Z:=Z.sp 40 (.bool (!(decide (1<=o.weight/\o.weight<=65536/\o.mask≠0/\¬2^cn<=o.mask)))) rfl (congrArg abP (by rw [decide_eq_false (λh=>by omega)];rfl))
   exact ⟨Z.sub kr,b.pt 7 [0,1,2,3,4,5,6]⟩
  have wE:=of_decide_eq_true ((Bool.not_eq_false' _).mp D7)
  refine ap Z (λ_=>e) [5] (bf 20 [0,1,2,3,4,5]) [(46,vP g3 7)] λa Z=>?_
  refine dJ Z e 6 0 (v:=vQ o.mask) λa Z=>?_
  refine ap Z (λ_=>e) [7,8,9] (bf 20 [0,1,2,3,4,5,6,7,8,9]) [(50,.bool ((o.mask:Int)==(0:Int)))] λa Z=>?_
  refine Jb Z b (Je (λUd=>?_) λUd=>?_)
  ·
   intro a Z b
   refine ap Z (λ_=>e) [10,11,12,13,14,15,16,17,18,19] (bt 20 []) [(40,.bool true)] λa Z=>?_
   refine qe kr ?_
   have Z:=Z.sp 40 (.bool (!(decide (1<=o.weight/\o.weight<=65536/\o.mask≠0/\¬2^cn<=o.mask)))) rfl (congrArg abP (by rw [decide_eq_false (λh=>by omega)];rfl))
   exact ⟨Z.sub kr,b.pt 7 [0,1,2,3,4,5,6]⟩
  intro a Z b
  refine ap Z (λ_=>e) [10,12] (bt 20 [11,13,14,15,16,17,18,19]) [(53,vP H 0),(51,vP g3 7)] λa Z=>?_
  refine dJ Z e 11 0 (v:=vQ o.mask) λa Z=>?_
  refine pE Z e 13 λa Z=>?_
  refine ap Z (λ_=>e) [14,15] (bt 20 [16,17,18,19]) [(56,vP H 0)] λa Z=>?_
  refine dJ Z e 16 1 λa Z=>?_
  replace Z:=Z.sp 57 (vI cn) rfl (by rw [X];try rfl)
  refine s_on Z 17 rfl (jB Z b [vQ o.mask,vI cn] (.bool (decide (2^cn<=o.mask))) rfl rfl (qy4 o.mask cn Ad ⟨by omega,by omega⟩ _) λHZ I b a Z=>?_)
  refine av (b.pt 7 [0,1,2,3,4,5,6]) (λe=>?_)
  refine ap Z (λ_=>e) [18,19] (bt 20 []) [(40,.bool (decide (2^cn<=o.mask)))] λa Z=>?_
  refine qe kr ?_
  have Z:=Z.sp 40 (.bool (!(decide (1<=o.weight/\o.weight<=65536/\o.mask≠0/\¬2^cn<=o.mask)))) rfl (congrArg abP (by rw [<-decide_not];exact decide_eq_decide.2 ⟨λh1 h2=>h2.2.2.2 h1,λh1=>afF λh2=>h1 ⟨by omega,by omega,by omega,h2⟩⟩))
  exact ⟨Z.sub kr,b.pt 7 [0,1,2,3,4,5,6]⟩
 clear Z b;rintro a w8 ⟨Z,b⟩
 refine Jb Z b (nQ (λG=>?_) λG=>?_)
 ·
  exact (JT∘bB 2∘bW) λb=>by exact qw (y:=(⟨cp,cr,gA,gc,gs,lA,lc,cl,uA,uc,cu,tA,tc,ts,some ⟨d,0,none⟩,sc,rs⟩:aF)) 1 b rfl u ((if_neg (nf (decide_eq_true k))).trans ((if_neg (nf (decide_eq_true B))).trans ((if_neg (by show ¬¬(0<=o.group/\o.group<(abr (rs.map ael):Nat));rw [abz];exact not_not_intro D)).trans (if_pos (zfj X G)))))
 obtain ⟨z,yX⟩:∃n:Nat,o.weight=(n:Int):=⟨o.weight.toNat,by omega⟩
 have hz:1<=z/\z<=65536:=by omega
 have hmb:=ae7 o.mask (2^c)
 refine (JF∘aM 1∘Jg 2 O0∘JI (h:=by exact λb=>Jt 1 b rfl R o.task)) λw64 I=>(Jp 2∘fK∘Jj) (Ji (λK=>?_) λK=>?_)
 ·
  replace K:fidx ts o.task>=0:=K
  exact (JT∘bB 2∘bW) λb=>by exact qw (y:=(⟨cp,cr,gA,gc,gs,lA,lc,cl,uA,uc,cu,tA,tc,ts,some ⟨d,0,none⟩,sc,rs⟩:aF)) 1 b rfl u ((if_neg (nf (decide_eq_true k))).trans ((if_neg (nf (decide_eq_true B))).trans ((if_neg (by show ¬¬(0<=o.group/\o.group<(abr (rs.map ael):Nat));rw [abz];exact not_not_intro D)).trans ((if_neg (Oy X G)).trans (if_pos (by show 0<=fidx ts o.task;omega))))))
 replace K:¬(fidx ts o.task>=0):=K
 refine (JF∘JP∘Jg 7 O0∘Jf 1∘Jc O0∘Jo (vI c) (by rw [F])∘Jy (v:=vQ (o.mask/2^c:Nat)) (h:=by exact aat (m:=o.mask) (n:=c) rfl rfl rfl (by show _<=64;omega))∘Jp 1∘Jo (vQ ((o.mask/2^c)%2:Nat)) (by exact MU (n:=1) (j:=1) rfl de om)∘Jp 2∘aI∘Jj) (Je (λUe=>?_) λUe=>?_)
 ·
  exact (JT∘bB 2∘bW) λb=>by exact qw (y:=(⟨cp,cr,gA,gc,gs,lA,lc,cl,uA,uc,cu,tA,tc,ts,some ⟨d,0,none⟩,sc,rs⟩:aF)) 1 b rfl u ((if_neg (nf (decide_eq_true k))).trans ((if_neg (nf (decide_eq_true B))).trans ((if_neg (by show ¬¬(0<=o.group/\o.group<(abr (rs.map ael):Nat));rw [abz];exact not_not_intro D)).trans ((if_neg (Oy X G)).trans ((if_neg (by show ¬0<=fidx ts o.task;omega)).trans (if_pos (zis rfl F om)))))))
 obtain ⟨em,hem⟩:∃l,lN (⟨cp,cr,gA,gc,gs,lA,lc,cl,uA,uc,cu,tA,tc,ts,some ⟨d,0,none⟩,sc,rs⟩:aF).ay g c=l:=⟨_,rfl⟩
 have uV:=λh hh=>Tx (x:=(⟨cp,cr,gA,gc,gs,lA,lc,cl,uA,uc,cu,tA,tc,ts,some ⟨d,0,none⟩,sc,rs⟩:aF)) R (by omega:g<J) hem h hh
 have uW:=Tz (x:=(⟨cp,cr,gA,gc,gs,lA,lc,cl,uA,uc,cu,tA,tc,ts,some ⟨d,0,none⟩,sc,rs⟩:aF)) R (by omega:g<J) hem
 obtain ⟨⟨yA,yc,yl⟩,hy⟩:∃y,rs.getD g Rw.zero=y:=⟨_,rfl⟩
 have hys:=hsp g om;rw [hy] at hys
 have hyl:(abr yl:Int)=cp:=hys.1
 repeat (first|clear Z|clear b)
 intro a Z b
 obtain ⟨gy,rfl⟩:=b.jW 7 rfl om hy om
 obtain ⟨Y,hyz⟩:∃z,yl[c]?=some z:=⟨_,abv om⟩
 have nU:=hys.2 Y (abK hyz)
 have hyv:=nU.1.v;have tH:=nU.1.r;have tN:=nU.1.floor
 obtain ⟨C,ht1⟩:∃t,(⟨o.task,o.group,0,o.cpu,o.mask,true,0,0⟩:Tk).put (⟨Y.floor,0,z⟩:En)=t:=⟨_,rfl⟩
 have Km:C.id=o.task:=by rw [<-ht1];rfl
 refine Jb Z b ((aP∘aM 1∘Jf 3∘Jc O0∘Jo (vI g) (by rw [hgg])∘Jf 1∘Jc O0∘Jo (vI c) (by rw [F])∘JK (h:=by exact λb=>Tw 1 b rfl R (by show ((c:Nat):Int)<cp;omega) om hem)) λKn Ko w79 Uf=>(Jp 1∘aI∘Jr∘Jg 2 O1∘Jg 3 O1∘Jg 1 O1∘Jg 7 O1∘fu #[vI o.task,vI o.group,vI 0,vI o.cpu,vQ o.mask,.bool true,vQ 0,vW 0]∘JA ajb) λw8 g8=>(JV fH aN) λUg=>(kV∘Jj) λa Z b=>?_)
 refine qz (λaS wS=>∃(g9:Nat),Fr aS 139 [] ((9,vP g9 0)::(8,vP g8 0)::(7,abo Kn em Ko)::(66,.bool false)::(60,.bool false)::(40,.bool false)::(26,.bool false)::(21,.bool false)::(15,.bool false)::(6,vP H 0)::aix g3 H [])/\Mem W wS (.blk g9 ((⟨Y.floor,0,z⟩:En).cells) 333::.blk g8 #[vI o.task,vI o.group,vI 0,vI o.cpu,vQ o.mask,.bool true,vQ 0,vW 0] 232::abp Kn em Ko bL 3 1::.blk g3 o.cells 214::fM H cp cr gA M gc lA N lc uA O uc tA E tc (some ⟨d,0,none⟩) J sc::ai2 gA M gc gs lA N lc cl uA O uc cu tA E tc ts (some ⟨d,0,none⟩) J sc rs (fR rs++(T)))) ?_ ?_
 ·
  refine Jb Z b ((Vs .n [20]) λIW=>(Vp [0]∘Vf 4 3∘Vf 8 1∘Vf 13 4∘Vn 1∘Vf 2 6∘Vc 3 O3∘Vc 5 O2∘Vo (vI g) (by rw [hgg])∘Vy 6 (h:=by exact Yl.iM d g 1 rfl rfl rfl)∘Vy 7 (v:= .slice ((rs.getD g Rw.zero).A) ((rs.getD g Rw.zero).l.length) ((rs.getD g Rw.zero).c)) (h:=by exact aae 8 g Rw.zero om rfl rfl rfl)∘Vo (vS gy (abr yl) yc) (by rw [hy])∘Vc 9 O2∘Vo (vI c) (by rw [F])∘Vy 10 (h:=by exact Yl.iM gy c 3 rfl rfl rfl)∘Vf 11 2∘Vy 12 (v:=vQ Y.floor) (h:=by exact Pd rfl rfl kr (λ_ h=>h.vJ 9 (j:=2) rfl om hy (hyz) rfl))∘Vc 14 O2∘Vo (vI z) (by rw [yX])) λa Z b e=>?_)
  refine zh [15,19] kr rfl ?_
  refine all_cons ?_ ?_
  ·refine qu Z (i:=15) rfl rfl ?_
   refine jB Z b [vQ Y.floor,vI z] (.tuple #[.agg ((⟨Y.floor,0,z⟩:En).cells),vI 0]) rfl rfl (qze Y.floor z tN hz _) λKq I b a Z=>?_
   refine av (b.pt 9 [0,1,2,3,4,5,6,7,8]) (λe=>?_)
   refine Vb Z b e ((Vp [16]∘Vx 17∘Vx 18∘VA 19 .n #[vQ 0,vW 0,vW 0]) λw9 g9=>λa Z b e=>?_)
   refine s_on Z 20 rfl (bV Z b 0 rfl rfl rfl rfl rfl qp rfl rfl (mO (⟨Y.floor,0,z⟩:En)) λD8 b=>?_)
   refine dR kr ?_
   refine ap Z (cK kr) [21] (bt 22 []) [] λa Z=>?_
   refine qe kr ?_
   exact ⟨g9,Z.sub kr,b.pt 10 [0,1,2,3,4,5,6,7,8,9]⟩
  refine all_cons ?_ all_nil
  refine qu Z (i:=19) rfl rfl ?_
  refine iq Z b #[vQ 0,vW 0,vW 0] ?_
  clear Z b;intro a w9 g9 Z b
  refine av (b.pt 10 [1,2,3,4,5,6,7,8,9]) (λe=>?_)
  refine Vb Z b e ((VI 15 (.f .n) (h:=by exact λb=>qze Y.floor z tN hz _)) λKq I=>(Vp [16]∘Vx 17∘Vx 18) λa Z b e=>?_)
  refine s_on Z 20 rfl (bV Z b 0 rfl rfl rfl rfl rfl qp rfl rfl (mO (⟨Y.floor,0,z⟩:En)) λD8 b=>?_)
  refine dR kr ?_
  refine ap Z (cK kr) [21] (bt 22 []) [] λa Z=>?_
  refine qe kr ?_
  exact ⟨g9,Z.sub kr,b.pt 10 [0,1,2,3,4,5,6,7,8,9]⟩
 clear Z b;rintro a w16 ⟨g9,Z,b⟩
 refine Jb Z b ((JP∘eF qp O0∘JO (h:=by exact λb=>zl4 (⟨o.task,o.group,0,o.cpu,o.mask,true,0,0⟩:Tk) C (⟨Y.floor,0,z⟩:En) ht1 gu b (S9 tN hz))) λUh=>(nO∘bg 1∘Jn∘Jg 5 O4∘Jy (h:=by exact Yl.makeFunc (fst:=[]) (caps:=[vP g8 0]) rfl rfl rfl)∘JL (h:=by exact λb=>q82 hlt (b.rd (i:=8) rfl) oz (b.blk (i:=1) rfl))) ?_)
 rintro b _ Ui ⟨⟨ii,rfl,U,hi1,hi2⟩,I⟩
 refine ⟨_,rfl,_,b.call I,?_⟩
 refine (Jp 1∘kV∘Jj∘bM 2∘aL∘Jj) (Ji (λKr=>?_) λKr=>?_)
 ·
  obtain ⟨ix,hix⟩:∃n,wX ts C.id=n:=⟨_,rfl⟩
  have D9:=qtv ts C.id
  rw [hix] at U D9
  rw [if_pos om] at U
  refine (JT∘JR∘Jp 1∘Jn∘Jg 5 O4∘Jl∘Jo (vI ix) (by rw [show E=ix by omega])∘Jp 1∘fK∘Jj) λa Z b=>?_
  refine wp_seq ?_
  refine Jb Z b ((Vs (.t (.t (.t (.t (.t (.t (.t (.t (.f .n))))))))) [11]) λUj=>(Vp [0,1,5]∘Vn 2∘Vf 3 5∘Vc 4 O4∘nR 6 fH O1) λa Z b e=>?_)
  refine s_on Z 7 rfl (jG Z b dL [(0,.agg C.cells)] C.cells ?_)
  clear Z b;intro a Uk L Z b
  refine av (b.pt 11 [1,2,3,4,5,6,7,8,10]) (λe=>?_)
  refine s_on Z 8 rfl ?_
  refine lT Z [.slice tA E tc,vI ix,vS L 1 1] rfl rfl (qt9 (i:=ix) (l:=ts) C 9 (λ_ _=>QA) O0 b hlt om om) ?_
  rintro _ Ul ⟨p,q,rfl,Kt,P⟩
  refine ⟨_,rfl,?_⟩
  replace b:=P
  clear Z;intro a Z
  refine av (b.pt 11 [1,2,3,4,5,6,7,8,10]) (λe=>?_)
  refine Vb Z b e ((Vn 9∘Vf 10 5) λa Z b e=>?_)
  refine s_on Z 11 rfl (eU Z b 5 λEa b=>?_)
  refine dR kr ?_
  refine qe kr ?_
  refine Jb Z b ((aM 2∘Jf 1∘Jc O4∘Jo (vI c) (by rw [F])∘JL (h:=by exact λb=>Ou 5 b rfl (j:=3) rfl de (Ox (Kl:=p) (Kk:=q) (ts':=jr ts ix C) (z8:=E+1) u (by rw [Og om];omega)) (uV) (uW) V hrg hsp hcr S (by show ((c:Nat):Int)<cp;omega))) ?_)
  rintro b _ Eb ⟨Q,rfl,hl2,hsp2,oD,P⟩
  refine ⟨_,rfl,_,(show Mem W Eb (.blk L C.cells 232::.blk g9 ((⟨Y.floor,0,z⟩:En).cells) 333::.blk g8 C.cells 232::abp Kn em Ko bL 3 1::.blk g3 o.cells 214::fM H cp cr gA M gc lA N lc uA O uc p (E+1) q (some ⟨d,0,none⟩) J sc::ai2 gA M gc gs lA N lc cl uA O uc cu p (E+1) q (jr ts ix C) (some ⟨d,0,none⟩) J sc Q (fR Q++(T))) from P),?_⟩
  exact (jh∘bg 2∘aQ∘bW) λb=>by exact qw (y:=(⟨cp,cr,gA,gc,gs,lA,lc,cl,uA,uc,cu,p,q,(jr ts ix C),some ⟨d,0,none⟩,sc,Q⟩:aF)) 5 b rfl (Od (Ox (Kl:=p) (Kk:=q) (ts':=jr ts ix C) (z8:=E+1) u (by rw [Og om];omega)) hl2) ((qty (x:=(⟨cp,cr,gA,gc,gs,lA,lc,cl,uA,uc,cu,tA,tc,ts,some ⟨d,0,none⟩,sc,rs⟩:aF)) (t1:=C) (decide_eq_true k) (decide_eq_true B) D (Oy X G) (by show fidx ts o.task<0;omega) (TM F om) hgg F (congrArg Sp.floor (yS (x:=(⟨cp,cr,gA,gc,gs,lA,lc,cl,uA,uc,cu,tA,tc,ts,some ⟨d,0,none⟩,sc,rs⟩:aF)) (by show g<abr rs;omega) hy hyz)) (by rw [<-ht1,yX];rfl) hem).trans (by rw [show wX ts o.task=ix by rw [<-Km];exact hix];exact congrArg (λs=>(s,(0:Int),0)) oD.symm))
 obtain ⟨ix,hix⟩:∃n,wX ts C.id=n:=⟨_,rfl⟩
 have D9:=qtv ts C.id
 rw [hix] at U D9
 rw [if_neg om] at U
 refine (Jk 11 (vI ix) (h:=by rw [show ii=(ix:Int) by omega])∘aP) λa Z b=>?_
 refine wp_seq ?_
 refine Jb Z b ((Vs (.t (.t (.t (.t (.t (.t (.t (.t (.f .n))))))))) [11]) λUj=>(Vp [0,1,5]∘Vn 2∘Vf 3 5∘Vc 4 O4∘nR 6 fH O1) λa Z b e=>?_)
 refine s_on Z 7 rfl (jG Z b dL [(0,.agg C.cells)] C.cells ?_)
 clear Z b;intro a Uk L Z b
 refine av (b.pt 11 [1,2,3,4,5,6,7,8,10]) (λe=>?_)
 refine s_on Z 8 rfl ?_
 refine lT Z [.slice tA E tc,vI ix,vS L 1 1] rfl rfl (qt9 (i:=ix) (l:=ts) C 9 (λ_ _=>QA) O0 b hlt om om) ?_
 rintro _ Ul ⟨p,q,rfl,Kt,P⟩
 refine ⟨_,rfl,?_⟩
 replace b:=P
 clear Z;intro a Z
 refine av (b.pt 11 [1,2,3,4,5,6,7,8,10]) (λe=>?_)
 refine Vb Z b e ((Vn 9∘Vf 10 5) λa Z b e=>?_)
 refine s_on Z 11 rfl (eU Z b 5 λEa b=>?_)
 refine dR kr ?_
 refine qe kr ?_
 refine Jb Z b ((aM 2∘Jf 1∘Jc O4∘Jo (vI c) (by rw [F])∘JL (h:=by exact λb=>Ou 5 b rfl (j:=3) rfl de (Ox (Kl:=p) (Kk:=q) (ts':=jr ts ix C) (z8:=E+1) u (by rw [Og om];omega)) (uV) (uW) V hrg hsp hcr S (by show ((c:Nat):Int)<cp;omega))) ?_)
 rintro b _ Eb ⟨Q,rfl,hl2,hsp2,oD,P⟩
 refine ⟨_,rfl,_,(show Mem W Eb (.blk L C.cells 232::.blk g9 ((⟨Y.floor,0,z⟩:En).cells) 333::.blk g8 C.cells 232::abp Kn em Ko bL 3 1::.blk g3 o.cells 214::fM H cp cr gA M gc lA N lc uA O uc p (E+1) q (some ⟨d,0,none⟩) J sc::ai2 gA M gc gs lA N lc cl uA O uc cu p (E+1) q (jr ts ix C) (some ⟨d,0,none⟩) J sc Q (fR Q++(T))) from P),?_⟩
 exact (jh∘bg 2∘aQ∘bW) λb=>by exact qw (y:=(⟨cp,cr,gA,gc,gs,lA,lc,cl,uA,uc,cu,p,q,(jr ts ix C),some ⟨d,0,none⟩,sc,Q⟩:aF)) 5 b rfl (Od (Ox (Kl:=p) (Kk:=q) (ts':=jr ts ix C) (z8:=E+1) u (by rw [Og om];omega)) hl2) ((qty (x:=(⟨cp,cr,gA,gc,gs,lA,lc,cl,uA,uc,cu,tA,tc,ts,some ⟨d,0,none⟩,sc,rs⟩:aF)) (t1:=C) (decide_eq_true k) (decide_eq_true B) D (Oy X G) (by show fidx ts o.task<0;omega) (TM F om) hgg F (congrArg Sp.floor (yS (x:=(⟨cp,cr,gA,gc,gs,lA,lc,cl,uA,uc,cu,tA,tc,ts,some ⟨d,0,none⟩,sc,rs⟩:aF)) (by show g<abr rs;omega) hy hyz)) (by rw [<-ht1,yX];rfl) hem).trans (by rw [show wX ts o.task=ix by rw [<-Km];exact hix];exact congrArg (λs=>(s,(0:Int),0)) oD.symm))
def Ku:EI abt 277 215 .nilFunc 1 8:=⟨by kernel_rfl,by kernel_rfl,rfl,by omega⟩
def rz (k:Nat):FuncId:=[148,149,150,150,151,152,153,154,155,156].getD k 0
def fewer (h:k<10):k=0\/k=1\/k=2\/k=3\/k=4\/k=5\/k=6\/k=7\/k=8\/k=9:=by omega
def q3i (h:k<10):callable abt (rz k)=true:=by
 rcases fewer h with rfl|rfl|rfl|rfl|rfl|rfl|rfl|rfl|rfl|rfl<;>kernel_rfl
def zl5 (gm:Nat) {k:Nat} (h:k<10):(#[.func (.func 148) #[vP gm 0] #[],.func (.func 149) #[vP gm 0] #[],.func (.func 150) #[vP gm 0] #[],.func (.func 150) #[vP gm 0] #[],.func (.func 151) #[vP gm 0] #[],.func (.func 152) #[vP gm 0] #[],.func (.func 153) #[vP gm 0] #[],.func (.func 154) #[vP gm 0] #[],.func (.func 155) #[vP gm 0] #[],.func (.func 156) #[vP gm 0] #[]]:Array ajh)[k]?=some (.func (.func (rz k)) #[vP gm 0] #[]):=by
 rcases fewer h with rfl|rfl|rfl|rfl|rfl|rfl|rfl|rfl|rfl|rfl<;>rfl
section
variable {W w:ajg} {F T:List ajr} {x y:aF} {ng nl nu nt ns gm:Nat} {o:bQ}
def q3j (n:Nat) (f:Mem W w F) (g:F.drop n=jS gm x ng nl nu nt ns++T) (c:dY x ng nl nu nt ns) (e:GoodS x.ay) (d:o.Ok) (h:k<10) (hk:o.kind=k+1):Calls abt (rz k) #[vP gm 0,.agg o.cells] w (kR W gm (F.take n++T) (dM x.ay o)):=by
 have a:=f.front n g
 have b:=(Oi e.sh.sort).2 e.cur
 unfold dM
 rcases fewer h with rfl|rfl|rfl|rfl|rfl|rfl|rfl|rfl|rfl|rfl<;>rw [hk]
 ·exact qw1 W w x gm ng nl nu nt ns c o d _ a
 ·exact qwy W w x gm ng nl nu nt ns c o d _ a
 ·exact qmx W w x gm ng nl nu nt ns c o d _ a b
 ·exact qmx W w x gm ng nl nu nt ns c o d _ a b
 ·exact q3c W w x gm ng nl nu nt ns c o d _ a b
 ·exact q3b W w x gm ng nl nu nt ns c o d _ a
 ·exact qns W w x gm ng nl nu nt ns c o d _ a
 ·exact qqs W w x gm ng nl nu nt ns c o d _ a
 ·exact qqu W w x gm ng nl nu nt ns c o d _ a
 ·exact qqv W w x gm ng nl nu nt ns c o d _ a
def zpu (c:Mem W w (nD gm y++T)) (hy:GoodS y.ay):Calls abt 157 #[vP gm 0] w (λr b=>∃z:aF,r= .returned (.tuple #[])/\z.ay=gF y.ay/\Mem W b (nD gm z++T)):=
 (q3a W w y gm _ _ _ _ _ (Oj hy.sh) T c).mono λr b ⟨a,e,d,_,hs,hm⟩=>⟨{y with rs:=a},e,hs,Mem.toB hm ⟨rfl,rfl,rfl,rfl,d⟩⟩
def xu (s:bI) (out:iX):Prop:=out.2.2≠0->out.1=s/\out.2.1=0
def q3k (s:bI) (o:bQ):xu s (dM s o):=by
 have key:∀e:Nat,xu s (s,0,e):=λe _=>⟨rfl,rfl⟩
 have a:∀(t:bI) (g:Int),xu s (t,g,0):=λt g h=>absurd rfl h
 unfold dM
 split
 ·unfold zS;repeat' split
  all_goals first|exact key _|exact a _ _
 ·unfold zU;repeat' split
  all_goals first|exact key _|exact a _ _
 ·unfold tC;repeat' split
  all_goals first|exact key _|exact a _ _
 ·unfold tC;repeat' split
  all_goals first|exact key _|exact a _ _
 ·unfold jU;repeat' split
  all_goals first|exact key _|exact a _ _|(dsimp only;split<;>exact a _ _)
 ·unfold kZ;repeat' split
  all_goals first|exact key _|exact a _ _
 ·unfold zV;repeat' split
  all_goals first|exact key _|exact a _ _
 ·unfold zW;repeat' split
  all_goals first|exact key _|exact a _ _
 ·unfold zX;repeat' split
  all_goals first|exact key _|exact a _ _
 ·unfold wP;repeat' split
  all_goals first|exact key _|exact a _ _
 ·exact key _
def q83 (h:(dM s o).2.2≠0):(dM s o).1=s/\(dM s o).2.1=0:=q3k s o h
def q84 {s:bI} (h:o.kind<1\/10<o.kind):tF s o=(s,0,2):=by
 have e:dM s o=(s,0,2):=by
  unfold dM
  split<;>first|rfl|omega
 unfold tF
 rw [e]
 rfl
theorem Um (h:(dM s o).2.2≠0):tF s o=(s,0,(dM s o).2.2):=by unfold tF;rw [if_pos h]
theorem Un (h:(dM s o).2.2=0):tF s o=(gF (dM s o).1,(dM s o).2.1,0):=by unfold tF;rw [if_neg om]
end
abbrev aiF:=λa b=>(.blk a #[.func (.func 148) #[vP b 0] #[],.func (.func 149) #[vP b 0] #[],.func (.func 150) #[vP b 0] #[],.func (.func 150) #[vP b 0] #[],.func (.func 151) #[vP b 0] #[],.func (.func 152) #[vP b 0] #[],.func (.func 153) #[vP b 0] #[],.func (.func 154) #[vP b 0] #[],.func (.func 155) #[vP b 0] #[],.func (.func 156) #[vP b 0] #[]] 215:ajr)
def zfk (W w:ajg) (x:aF) (gm:Nat) (ng nl nu nt ns:Nat) (B:dY x ng nl nu nt ns) (J:GoodS x.ay) (o:bQ) (C:o.Ok) (T:List ajr) (b:Mem W w (jS gm x ng nl nu nt ns++T)):
    Calls abt 102 #[vP gm 0,.agg o.cells] w (kR W gm T (tF x.ay o)):=by
 obtain ⟨cp,cr,gA,gc,gs,lA,lc,cl,uA,uc,cu,tA,tc,ts,sA,sc,rs⟩:=x
 replace b:Mem W w (fM gm cp cr gA ng gc lA nl lc uA nu uc tA nt tc sA ns sc::ai2 gA ng gc gs lA nl lc cl uA nu uc cu tA nt tc ts sA ns sc rs (fR rs++(T))):=b
 obtain ⟨n,p,q,r,s⟩:=B.ln
 replace n:abr gs=ng:=n;replace p:abr cl=nl:=p;replace q:abr cu=nu:=q;replace r:abr ts=nt:=r;replace s:abr rs=ns:=s
 have K:=C.kind
 refine (mM b Tryz.func102 67) ?_
 refine (JP∘JE) λN D=>(bO 2∘bM 1∘Jy (v:= .bool false) (h:=by exact aaI rfl rfl rfl)∘Jp 2∘Jn∘Jg 7 O1∘Jp 2∘aI∘Jj∘aP∘aM 1∘Jy (h:=by exact Yl.makeFunc (fst:=[vP gm 0]) (caps:=[]) rfl rfl rfl)∘Jp 1∘Jy (h:=by exact Yl.makeFunc (fst:=[vP gm 0]) (caps:=[]) rfl rfl rfl)∘Jp 1∘Jy (h:=by exact Yl.makeFunc (fst:=[vP gm 0]) (caps:=[]) rfl rfl rfl)∘Jp 1∘Jy (h:=by exact Yl.makeFunc (fst:=[vP gm 0]) (caps:=[]) rfl rfl rfl)∘Jp 1∘Jy (h:=by exact Yl.makeFunc (fst:=[vP gm 0]) (caps:=[]) rfl rfl rfl)∘Jp 1∘Jy (h:=by exact Yl.makeFunc (fst:=[vP gm 0]) (caps:=[]) rfl rfl rfl)∘Jp 1∘Jy (h:=by exact Yl.makeFunc (fst:=[vP gm 0]) (caps:=[]) rfl rfl rfl)∘Jp 1∘Jy (h:=by exact Yl.makeFunc (fst:=[vP gm 0]) (caps:=[]) rfl rfl rfl)∘Jp 1∘Jy (h:=by exact Yl.makeFunc (fst:=[vP gm 0]) (caps:=[]) rfl rfl rfl)∘Jp 1∘Jy (h:=by exact Yl.makeFunc (fst:=[vP gm 0]) (caps:=[]) rfl rfl rfl)∘JU Ku #[.func (.func 148) #[vP gm 0] #[],.func (.func 149) #[vP gm 0] #[],.func (.func 150) #[vP gm 0] #[],.func (.func 150) #[vP gm 0] #[],.func (.func 151) #[vP gm 0] #[],.func (.func 152) #[vP gm 0] #[],.func (.func 153) #[vP gm 0] #[],.func (.func 154) #[vP gm 0] #[],.func (.func 155) #[vP gm 0] #[],.func (.func 156) #[vP gm 0] #[]]) λL e=>(Jp 1∘aI∘Jj∘JQ∘JP∘Jg 0 O1∘Jp 2) (Ji (λt=>?_) λt=>?_)
 ·
  exact (Jp 7∘aI∘Jj∘JT∘bB 2∘bW) λb=>by exact qw (y:=(⟨cp,cr,gA,gc,gs,lA,lc,cl,uA,uc,cu,tA,tc,ts,sA,sc,rs⟩:aF)) 2 b rfl B.ln (q84 om)
 refine (Jg 0 O1∘Jw .i64∘Jp 1∘Jl∘Jp 2∘aI∘Jj) (Ji (λu=>?_) λu=>?_)
 ·
  exact (JT∘bB 2∘bW) λb=>by exact qw (y:=(⟨cp,cr,gA,gc,gs,lA,lc,cl,uA,uc,cu,tA,tc,ts,sA,sc,rs⟩:aF)) 2 b rfl B.ln (q84 om)
 obtain ⟨k,E⟩:∃k:Nat,o.kind=k+1:=⟨o.kind-1,by omega⟩
 have g:k<10:=by omega
 refine (aP) λa Z b=>?_
 refine wp_seq ?_
 refine Gl b [aiF e gm,.blk D o.cells 214] [0,1] [] λb j=>?_
 refine ap Z (λ_=>j) [0,1] (bf 13 [0,1]) [(52,vP D 0),(51,vS e 10 10)] λa Z=>?_
 refine dJ Z j 2 1 (v:=vB o.kind) λa Z=>?_
 refine qH Z (λ_=>j) (i:=3) rfl rfl (d:=54) rfl de kr (λ_ _ _ h=>h) (v:=vB (IntKind.u8.wrap ((o.kind:Int)-1))) (λ_=>Yl.pure kr) λa Z=>?_
 replace Z:=Z.sp 54 (vB k) rfl (by rw [IntKind.wrap_u8];congr 1;omega)
 refine iN Z j 4 rfl (v:=vP e (k*1)) (Yl.iM e k 1 rfl rfl rfl) λa Z=>?_
 refine iN Z j 5 rfl (v:= .func (.func (rz k)) #[vP gm 0] #[]) (Pd rfl rfl kr (λ_ h=>h.cell (i:=0) rfl (by rw [ac5];exact zl5 gm g))) λa Z=>?_
 refine iN Z j 6 rfl (v:= .agg o.cells) (Pe rfl rfl nC rfl (λ_ h=>qj (h.blk (i:=1) rfl))) λa Z=>?_
 refine s_on Z 7 rfl ?_
 refine zl Z (f:=(rz k)) (vs:=[.agg o.cells]) (fst:=[vP gm 0]) (caps:=[]) rfl rfl rfl (q3i g) rfl de (q3j 2 b rfl B J C g E) ?_
 rintro _ G ⟨y,rfl,l,m⟩
 refine ⟨_,rfl,?_⟩
 replace b:=(show Mem W G (aiF e gm::.blk D o.cells 214::(nD gm y++(T))) from m.back)
 clear Z;intro a Z
 refine av (b.pk [0,1]) (λj=>?_)
 refine ap Z (λ_=>j) [8,9,10,11,12] (bt 13 []) (ah8 8 ((dM (⟨cp,cr,gA,gc,gs,lA,lc,cl,uA,uc,cu,tA,tc,ts,sA,sc,rs⟩:aF).ay o).2.2) 7 ((dM (⟨cp,cr,gA,gc,gs,lA,lc,cl,uA,uc,cu,tA,tc,ts,sA,sc,rs⟩:aF).ay o).2.1) []) λa Z=>?_
 refine qe kr ?_
 refine Jb Z b ((bM 2∘aL∘Jj) (Jh (λc=>?_) λc=>?_))
 ·
  replace c:(dM (⟨cp,cr,gA,gc,gs,lA,lc,cl,uA,uc,cu,tA,tc,ts,sA,sc,rs⟩:aF).ay o).2.2≠0:=by omega
  exact (JT∘bB 3∘bW) λb=>by rw [Um c];exact ⟨y,rfl,l.trans (q83 c).1,b.jg 2 rfl⟩
 replace c:(dM (⟨cp,cr,gA,gc,gs,lA,lc,cl,uA,uc,cu,tA,tc,ts,sA,sc,rs⟩:aF).ay o).2.2=0:=by omega
 have A:=c
 have H:GoodS y.ay:=by rw [l];exact Tt C J A
 refine (aP∘aM 1∘JL (h:=by exact λb=>zpu (b.jg 2 rfl) H)) ?_
 rintro b _ M ⟨z,rfl,I,m⟩
 refine ⟨_,rfl,_,m,?_⟩
 exact (nO∘bg 3∘aQ∘bW) λb=>by rw [Un A];exact ⟨z,rfl,I.trans (by rw [l]),b⟩
def Ec (w:ajg) (e:ajj) (sz n:Nat) (xs:List ajh) (r:ajk) (a:ajg):Prop:=
 (∃A c,r= .returned (.slice A n c)/\a.ownsRow w.heap.size e sz (.slice A n c) n xs/\n<=c)/\Below w.heap.size w a
def Oz {e:ajj} {sz:Nat} {xs:List ajh} (hr:Rd w w.heap.size sz A n xs) (h:A.isNone=true) (hb:Below w.heap.size w W):Ec w e sz n xs (.returned (.slice none 0 0)) W:=by
 have b:n=0:=by
  rcases ach n with a|a
  ·exact a
  ·obtain ⟨d,rfl,_⟩:=hr.row a
   cases h
 subst b
 have c:xs=[]:=agh.1 (by rw [hr.len];omega)
 subst c
 exact ⟨⟨none,0,rfl,acK _ _ _ _,abx _⟩,hb⟩
def ku (z:List Rw) (m:Nat):List Rw:=z++abG m Rw.zero
def qzp (z:List Rw) (m:Nat):abr (ku z m)=abr z+m:=by unfold ku;rw [abu,ab8]
def qzq {α:Type} (F:α->ajh) (z:α) (m:Nat):(madeCells #[F z] (m*1)).toList=(abG m z).map F:=by
 rw [ac5]
 unfold madeCells
 refine aeh (by simp) λi a b=>?_
 simp [Nat.mod_one]
def q85 (m:Nat):(madeCells #[.slice none 0 0] (m*1)).toList=(ku [] m).map aac:=qzq aac Rw.zero m
def q3l (m:Nat):(madeCells (afV none 0 0).cells (m*1)).toList=(ku [] m).map aac:=q85 m
def zfl {z:List Rw} (y:Rw) (h:0<m):(ku z m).set (abr z) y=ku (z++[y]) (m-1):=by
 obtain ⟨k,rfl⟩:∃k,m=k+1:=⟨m-1,by omega⟩
 unfold ku
 rw [aeY,if_neg om,ad5,List.replicate_succ,aeS,aby]
 rfl
def q86 (z:List Rw):ku z 0=z:=by unfold ku;rw [List.replicate_zero,abN]
def q87 {i gc lc uc tc:Nat} {lA uA tA:ajq} (hz:abr z=i) (hi:i=n) (h1:abr x.gs<=gc) (a:abr x.cl<=lc) (b:abr x.cu<=uc) (d:abr x.ts<=tc) (e:∀q∈z,abr q.l<=q.c) (f:x.rs.map ael=z.map ael)
  (hm:Mem w W (.row (.slice gA (abr x.gs) gc) (abr x.gs) (x.gs.flatMap fU) 198 2:: .row (.slice lA (abr x.cl) lc) (abr x.cl) (x.cl.map aZ) 3 1:: .row (.slice uA (abr x.cu) uc) (abr x.cu) (x.cu.map aZ) 3 1:: .row (.slice tA (abr x.ts) tc) (abr x.ts) (x.ts.flatMap bZ) 232 8:: .row (.slice (some ⟨g,0,none⟩) n n) n ((ku z (n-i)).map aac) 176 1::lQ 200 z)):
  zij w x (.returned (.agg #[.int .i64 x.au,.int .u64 (x.aj:Int),.slice gA (abr x.gs) gc,.slice lA (abr x.cl) lc,.slice uA (abr x.cu) uc,.slice tA (abr x.ts) tc,.slice (some ⟨g,0,none⟩) n n])) W:=by
 subst hz
 subst hi
 rw [ad5,q86] at hm
 exact ⟨⟨x.au,x.aj,gA,gc,x.gs,lA,lc,x.cl,uA,uc,x.cu,tA,tc,x.ts,some ⟨g,0,none⟩,abr z,z⟩,rfl,⟨⟨rfl,rfl,rfl⟩,rfl,rfl,rfl,f⟩,⟨h1,a,b,d,abx _,e⟩,hm⟩
def qw4 (A:ajq) (c:Nat) (l:List Gr) (w:ajg) (hr:Rd w w.heap.size 2 A (abr l) (l.flatMap fU)) (k:abr l<=1000000):
    Calls abt 192 #[abo A l c] w (Ec w 198 2 (abr l) (l.flatMap fU)):=by
 refine (fE Tryz.func192 8) ?_
 refine (cB 1∘bM 1∘Jy (v:= .bool A.isNone) (h:=by exact aaz rfl rfl rfl)∘aL∘Jj) (Ju (λe=>?_) λe=>?_)
 ·
  exact (JT∘bB 1∘aW) λb=>Oz hr (by simpa using e) b.below
 refine (aP∘JP) λa Z b=>?_
 refine fo Z 0 rfl rfl ?_
 refine MO Z b rfl jE rfl de ?_
 clear Z b;intro a m n Z b
 refine Jb Z b ((Jp 1∘JD (l.flatMap fU) 0 (λ_ _=>aN) jE (hr:=by exact λb=>b.old hr) (h1:=by exact I7 _)) λo g j f=>?_)
 have d:0+abr l=abr l:=ab9 _
 rw [d] at f
 exact (JC (h:=by exact λb=>b.bq (i:=0) (ys:=l.flatMap fU) rfl d (rfl))∘Jk 7 (.slice g (abr l) j) (h:=by exact iZ d)∘Jp 1∘fK∘aQ∘aW) λb=>by exact ⟨⟨_,_,rfl,b.own (i:=0) rfl,f⟩,b.below⟩
def qkr (A:ajq) (c:Nat) (l:List Int) (w:ajg) (hr:Rd w w.heap.size 1 A (abr l) (l.map aZ)) (k:abr l<=1000000):
    Calls abt 193 #[abo A l c] w (Ec w 3 1 (abr l) (l.map aZ)):=by
 refine (fE Tryz.func193 8) ?_
 refine (cB 1∘bM 1∘Jy (v:= .bool A.isNone) (h:=by exact aaz rfl rfl rfl)∘aL∘Jj) (Ju (λe=>?_) λe=>?_)
 ·
  exact (JT∘bB 1∘aW) λb=>Oz hr (by simpa using e) b.below
 refine (aP∘JP) λa Z b=>?_
 refine fo Z 0 rfl rfl ?_
 refine MO Z b rfl kD rfl de ?_
 clear Z b;intro a m n Z b
 refine Jb Z b ((Jp 1∘JD (l.map aZ) 0 (λ_ _=>aN) kD (hr:=by exact λb=>b.old hr) (h1:=by exact SF _)) λo g j f=>?_)
 have d:0+abr l=abr l:=ab9 _
 rw [d] at f
 exact (JC (h:=by exact λb=>b.bq (i:=0) (ys:=l.map aZ) rfl d (rfl))∘Jk 7 (.slice g (abr l) j) (h:=by exact iZ d)∘Jp 1∘fK∘aQ∘aW) λb=>by exact ⟨⟨_,_,rfl,b.own (i:=0) rfl,f⟩,b.below⟩
def qw5 (A:ajq) (c:Nat) (l:List Tk) (w:ajg) (hr:Rd w w.heap.size 8 A (abr l) (l.flatMap bZ)) (k:abr l<=1000000):
    Calls abt 194 #[abo A l c] w (Ec w 232 8 (abr l) (l.flatMap bZ)):=by
 refine (fE Tryz.func194 8) ?_
 refine (cB 1∘bM 1∘Jy (v:= .bool A.isNone) (h:=by exact aaz rfl rfl rfl)∘aL∘Jj) (Ju (λe=>?_) λe=>?_)
 ·
  exact (JT∘bB 1∘aW) λb=>Oz hr (by simpa using e) b.below
 refine (aP∘JP) λa Z b=>?_
 refine fo Z 0 rfl rfl ?_
 refine MO Z b rfl dL rfl de ?_
 clear Z b;intro a m n Z b
 refine Jb Z b ((Jp 1∘JD (l.flatMap bZ) 0 (λ_ _=>aN) dL (hr:=by exact λb=>b.old hr) (h1:=by exact I8 _)) λo g j f=>?_)
 have d:0+abr l=abr l:=ab9 _
 rw [d] at f
 exact (JC (h:=by exact λb=>b.bq (i:=0) (ys:=l.flatMap bZ) rfl d (rfl))∘Jk 7 (.slice g (abr l) j) (h:=by exact iZ d)∘Jp 1∘fK∘aQ∘aW) λb=>by exact ⟨⟨_,_,rfl,b.own (i:=0) rfl,f⟩,b.below⟩
def qw6 (A:ajq) (c:Nat) (l:List Sp) (w:ajg) (hr:Rd w w.heap.size 3 A (abr l) (l.flatMap ji)) (k:abr l<=1000000):
    Calls abt 195 #[abo A l c] w (Ec w 200 3 (abr l) (l.flatMap ji)):=by
 refine (fE Tryz.func195 8) ?_
 refine (cB 1∘bM 1∘Jy (v:= .bool A.isNone) (h:=by exact aaz rfl rfl rfl)∘aL∘Jj) (Ju (λe=>?_) λe=>?_)
 ·
  exact (JT∘bB 1∘aW) λb=>Oz hr (by simpa using e) b.below
 refine (aP∘JP) λa Z b=>?_
 refine fo Z 0 rfl rfl ?_
 refine MO Z b rfl mo rfl de ?_
 clear Z b;intro a m n Z b
 refine Jb Z b ((Jp 1∘JD (l.flatMap ji) 0 (λ_ _=>aN) mo (hr:=by exact λb=>b.old hr) (h1:=by exact SE _)) λo g j f=>?_)
 have d:0+abr l=abr l:=ab9 _
 rw [d] at f
 exact (JC (h:=by exact λb=>b.bq (i:=0) (ys:=l.flatMap ji) rfl d (rfl))∘Jk 7 (.slice g (abr l) j) (h:=by exact iZ d)∘Jp 1∘fK∘aQ∘aW) λb=>by exact ⟨⟨_,_,rfl,b.own (i:=0) rfl,f⟩,b.below⟩
abbrev ah4 {α:Type}:=λa (b:List α) c d e f g h i j k l m n o p q r s t u v=>(.row (vS a (abr b) (abr b)) (abr b) c 176 1::abq d e f bZ 232 8::abp g h i aZ 3 1::abp j k l aZ 3 1::abq m n o fU 198 2::.blk p #[vI 0,vQ 0,vN,vN,vN,vN,vN] 48::.blk q #[vI r,vQ s,abo m n o,abo j k l,abo g h i,abo d e f,abo t b u] 48::v:List ajr)
theorem qo3 (x:aF) (w:ajg) (J:fC w x) (H:cZ x):
    Calls abt 147 #[.agg x.cells] w (zij w x):=by
 have hfg:=H.g;have hfl:=H.l;have hfu:=H.u;have hft:=H.t;have hfs:=H.s
 refine (fE Tryz.func147 45) ?_
 refine (JP∘JE) λw1 g1=>(JA ai9) λw2 M=>(Jr∘Jf 0∘Jg 2 O1∘JK (h:=by exact λb=>qw4 x.gA x.gc x.gs _ (b.old J.g) (H.g))) λF G w9 U=>(Jf 0∘Jf 2) λa Z b=>?_
 refine fo Z 6 rfl rfl ?_
 refine rP Z b (i:=2) rfl rfl rfl rfl kr rfl rfl (by simp [aF.cells]) λapB b=>?_
 refine Jb Z b ((qL∘Jj) λa Z b=>?_)
 refine wp_seq ?_
 refine Jb Z b ((Vs .n [10,12,14]) λwd2=>(Vf 0 3∘Vf 3 4∘Vf 6 5∘Vc 1 O2∘Vc 4 O2∘Vc 7 O2∘VK 2 .n (h:=by exact λb=>qkr x.lA x.lc x.cl _ (b.old J.l) (H.l))) λd e Nb N=>(Vf 9 3∘VK 5 (.f .n) (h:=by exact λb=>qkr x.uA x.uc x.cu _ (b.old J.u) (H.u))) λj k w17 O=>(VK 8 (.f (.f .n)) (h:=by exact λb=>qw5 x.tA x.tc x.ts _ (b.old J.t) (H.t))) λo p EY P=>λa Z b HS=>?_)
 refine s_on Z 10 rfl ?_
 refine rP Z b (i:=5) rfl rfl rfl rfl kr rfl rfl (by simp [aF.cells]) λV b=>?_
 refine dR kr ?_
 refine ap Z (cK kr) [11] (bt 15 [12,13,14]) [(22,vP g1 4)] λa Z=>?_
 refine s_on Z 12 rfl ?_
 refine rP Z b (i:=5) rfl rfl rfl rfl kr rfl rfl (by simp [aF.cells]) λW b=>?_
 refine dR kr ?_
 refine ap Z (cK kr) [13] (bt 15 [14]) [(23,vP g1 5)] λa Z=>?_
 refine s_on Z 14 rfl ?_
 refine rP Z b (i:=5) rfl rfl rfl rfl kr rfl rfl (by simp [aF.cells]) λX b=>?_
 refine dR kr ?_
 refine qe kr ?_
 refine Jb Z b ((JP∘Jg 6 O5∘Jl) λa Z b=>?_)
 refine fo Z 3 rfl rfl ?_
 refine yD Z b (m:=abr x.rs) rfl oO rfl rfl om om rfl de ?_
 clear Z b;intro a Fx D Z b
 refine Jb Z b ((Jp 1∘aI∘Jq) λa Z b=>?_)
 rw [q3l] at b
 replace b:=b.pq 200 3
 replace b:Mem w _ (ah4 D x.rs ((ku [] (abr x.rs)).map aac) o x.ts p j x.cu k d x.cl e F x.gs G M g1 x.au x.aj x.sA x.sc (lQ 200 [])):=b
 refine Jb Z b ((JG∘JQ∘JP∘Jg 6 O6∘Jl∘bO 1∘JB) λa Z b=>?_)
 refine qg (λmS aS wS=>∃(i:Nat) (z:List Rw),(i<=abr x.rs)/\(abr z=i)/\(z.map ael=(x.rs.take i).map ael)/\(∀q∈z,abr q.l<=q.c)/\mS=abr x.rs-i/\Fr aS 45 [] (ah8 31 i 30 (abr x.rs) [(29,abo x.sA x.rs x.sc),(3,vS D (abr x.rs) (abr x.rs)),(2,vP M 0),(1,vP g1 0)])/\Mem w wS (ah4 D x.rs ((ku z (abr x.rs-i)).map aac) o x.ts p j x.cu k d x.cl e F x.gs G M g1 x.au x.aj x.sA x.sc (lQ 200 z))) (m:=abr x.rs-0) ⟨0,[],abC _,rfl,rfl,(λq h=>by cases h),rfl,Z.sub kr,b.pt 7 [0,1,2,3,4,5,6]⟩ ?_
 clear Z b;rintro mS a w_ ⟨i,z,hi,K,hz,Q,rfl,Z,b⟩
 refine Jb Z b ((cB 1∘JQ) (Ji (λR=>?_) λR=>?_))
 ·
  have E:i<abr x.rs:=by omega
  obtain ⟨y,T⟩:∃q,x.rs.getD i Rw.zero=q:=⟨_,rfl⟩
  have Y:Rd w w.heap.size 3 y.A (abr y.l) (y.l.flatMap ji):=by rw [<-T];exact J.row E
  have hyl:abr y.l<=1000000:=by rw [<-T];exact H.r _ (qf Rw.zero E)
  refine (eP∘aM 1) ?_
  obtain ⟨IG,II,L,_⟩:=Rd.sat J.s i
  have I:=J.s;rw [L] at I
  refine (Jk 29 (.slice (some ⟨IG,II,none⟩) (abr x.rs) x.sc) (h:=by rw [L];try rfl)∘iF i 1∘Jy (v:= .slice ((x.rs.getD i Rw.zero).A) ((x.rs.getD i Rw.zero).l.length) ((x.rs.getD i Rw.zero).c)) (h:=by exact aad I i Rw.zero E rfl rfl)∘Jo (.slice y.A (abr y.l) y.c) (by rw [T])∘bO 2∘JR∘Jp 3∘JK (h:=by exact λb=>qw6 y.A y.c y.l _ (b.old Y) (hyl))) λB C Ot S=>(nP i 1) λa Z b=>?_
  refine fo Z 5 rfl rfl ?_
  refine zj Z b (i:=1) rfl rfl rfl rfl kr rfl rfl (by rw [abz,qzp];omega) λapC b=>?_
  replace b:=b.dw (i:=1) (ys:=(ku (z++[(⟨B,C,y.l⟩:Rw)]) (abr x.rs- (i+1))).map aac) rfl ((Gq aac _ i (⟨B,C,y.l⟩:Rw) (by rw [qzp];omega)).trans (by rw [show i=abr z from K.symm,zfl (⟨B,C,y.l⟩:Rw) om];rfl))
  refine Jb Z b ((qL∘Jq∘JC (h:=by exact λb=>b.pt (fs':=(abq B y.l C ji 200 3::ah4 D x.rs ((ku (z++[(⟨B,C,y.l⟩:Rw)]) (abr x.rs- (i+1))).map aac) o x.ts p j x.cu k d x.cl e F x.gs G M g1 x.au x.aj x.sA x.sc (lQ 200 z))) 8 [0,1,2,3,4,5,6,7])∘JC (h:=by exact λb=>aaF (fs:=(ah4 D x.rs ((ku (z++[(⟨B,C,y.l⟩:Rw)]) (abr x.rs- (i+1))).map aac) o x.ts p j x.cu k d x.cl e F x.gs G M g1 x.au x.aj x.sA x.sc [])) b)∘JC (h:=by exact λb=>(show Mem w _ (ah4 D x.rs ((ku (z++[(⟨B,C,y.l⟩:Rw)]) (abr x.rs- (i+1))).map aac) o x.ts p j x.cu k d x.cl e F x.gs G M g1 x.au x.aj x.sA x.sc (lQ 200 (z++[(⟨B,C,y.l⟩:Rw)]))) from b))∘JG∘JR∘dx 1∘Jp 1∘aL∘Jq) λa Z b=>?_)
  replace Z:=Z.sp 29 (abo x.sA x.rs x.sc) rfl (by rw [L])
  exact ⟨_,om,i+1,(z++[(⟨B,C,y.l⟩:Rw)]),by omega,by rw [abu,K];rfl,by rw [abW,hz,zeq E,T];rfl,λq h=>(acg.1 h).elim (Q q) (λh=>by rw [afL] at h;subst h;exact S),rfl,Z.sub kr,b.pt 7 [0,1,2,3,4,5,6]⟩
 have hzt:x.rs.take i=x.rs:=abM om
 have hil:i=abr x.rs:=by omega
 refine (JF∘JX∘JG∘aM 1∘Jf 6∘JW vw vw) λapE=>(nO∘Jr∘Jy (v:= .agg #[vI x.au,vQ x.aj,abo F x.gs G,abo d x.cl e,abo j x.cu k,abo o x.ts p,vS D (abr x.rs) (abr x.rs)]) (h:=by exact Pe rfl rfl eX rfl (λ_ h=>qj (h.blk (i:=6) rfl)))∘JV eX rR) λBb=>(mW∘aQ) λa Z b=>?_
 exact jc rfl Z (.cellS (i:=5) Z b rfl rfl eX rfl) (q87 (x:=x) (n:=abr x.rs) (i:=i) K hil U N O P Q (by rw [hzt] at hz;exact hz.symm) (b.pt 7 [4,3,2,1,0]))
def q88 (w:ajg) (x:aF) (r:ajk) (w':ajg):Prop:=∃y:aF,r= .returned (.tuple #[.agg y.cells,.int .i64 0])/\jl x y/\gD y/\Mem w w' (jV y)
def zit (w:ajg) (s:bI) (r:ajk) (w':ajg):Prop:=∃(gm:Nat) (y:aF),r= .returned (.tuple #[.pointer (some ⟨gm,0,none⟩),.int .i64 0])/\y.ay=s/\Mem w w' (nD gm y)
def Kv (w:ajg) (r:ajk) (w':ajg):Prop:=r= .returned (.tuple #[.pointer none,.int .i64 2])/\Below w.heap.size w w'
def oU (w:ajg) (b:Bool) (s:bI) (r:ajk) (w':ajg):Prop:=if b=true then zit w s r w' else Kv w r w'
def zfm {w':ajg} {b:Bool} {s:bI} (h:b=false) (hb:Below w.heap.size w w'):oU w b s (.returned (.tuple #[.pointer none,.int .i64 2])) w':=by
 unfold oU
 rw [if_neg (by rw [h];decide)]
 exact ⟨rfl,hb⟩
def q89 {w':ajg} {b:Bool} {gm:Nat} {y:aF} (h:b=true) (hs:y.ay=s) (hm:Mem w w' (nD gm y)):oU w b s (.returned (.tuple #[.pointer (some ⟨gm,0,none⟩),.int .i64 0])) w':=by
 unfold oU
 rw [if_pos h]
 exact ⟨gm,y,rfl,hs,hm⟩
section
variable {W w w':ajg} {F T fs gs:List ajr} {x y:aF} {gm:Nat}
theorem Mem.Kw (n:Nat) (h:Mem W w F) (a:F.drop n=nD gm x++T):fC w x:=h.uU n a ⟨rfl,rfl,rfl,rfl,rfl⟩
theorem Mem.Ed (n:Nat) (h:Mem W w F) (a:F.drop n=nD gm x++T):w.heap[gm]?=some (.cells #[.int .i64 x.au,.int .u64 (x.aj:Int),.slice x.gA (abr x.gs) x.gc,.slice x.lA (abr x.cl) x.lc,.slice x.uA (abr x.cu) x.uc,.slice x.tA (abr x.ts) x.tc,.slice x.sA (abr x.rs) x.sc,.bool true] 273 (0,0)):=h.oQ n a ⟨rfl,rfl,rfl,rfl,rfl⟩
theorem Mem.zoc (h:Mem W w fs) {g:Nat} {C ds:Array ajh} {t:ajj} (hb:W.heap[g]?=some (.cells C t (0,0))) (b:C.toList.take ds.size=ds.toList):w.rangeAt g 0 ds.toList:=λj u a=>by
 have c:=h.zq1 hb
 refine c j u ?_
 rw [<-b,List.getElem?_take] at a
 split at a
 ·exact a
 ·cases a
def aaV (h:Mem W w fs) (k:Mem w w' gs):Mem W w' gs:=(h.qX k).jg (abr fs) (by rw [afP])
end
def q9a {α:Type} (f:α->List ajh) (sz:Nat) (a:∀x,abr (f x)=sz) (g:0<sz) (z:α) (m:Nat):(madeCells (f z).toArray (m*sz)).toList=(abG m z).flatMap f:=by
 unfold madeCells
 have d:abr ((abG m z).flatMap f)=m*sz:=by rw [rZ f sz a,ab8]
 refine aeh (by rw [d];simp) λi k e=>?_
 have h:i<m*sz:=by rw [<-d];exact e
 have j:i/sz<abr (abG m z):=by rw [ab8];exact Nat.div_lt_of_lt_mul (by rw [af2];exact h)
 have c:=adJ i g
 have b:=EB f sz a (abG m z) (i/sz) (i%sz) j c
 rw [show i/sz*sz+i%sz=i by rw [af2];exact Nat.div_add_mod i sz,abv e,List.getElem_replicate] at b
 rw [abv (by rw [a];exact c)] at b
 injection b with b
 rw [b]
 simp [a]
 rw [abv (by rw [a];exact c)]
 rfl
def zl6 (m:Nat):(madeCells (Value.agg #[.int .u64 0,.int .u32 0,.int .u64 0]).cells (m*3)).toList=(abG m Sp.zero).flatMap ji:=q9a ji 3 (λ_=>rfl) de Sp.zero m
def q9b (m:Nat):(madeCells #[.int .i64 0] (m*1)).toList=(abG m (0:Int)).map aZ:=qzq aZ 0 m
def q9c (x:aF) (d:Nat) (w:ajg) (f:cZ x) (g:fC w x) (hm:w.heap[d]?=some (.cells #[vI x.au,vQ x.aj,abo x.gA x.gs x.gc,abo x.lA x.cl x.lc,abo x.uA x.cu x.uc,abo x.tA x.ts x.tc,abo x.sA x.rs x.sc,.bool true] 273 (0,0))):
    Calls abt 103 #[vP d 0] w (q88 w x):=by
 refine (fE Tryz.func103 19) ?_
 refine (JP∘JA ai9) λl j=>(bO 1∘bM 1∘Jy (v:= .bool false) (h:=by exact aaI rfl rfl rfl)∘Jp 2∘Jn∘Jf 7∘Jy (v:= .bool true) (h:=by exact Pd rfl rfl kr (λ_ h=>h.mV hm rfl))∘Jp 2∘aI∘Jj∘aP∘aM 1∘Jn∘Jf 0∘Jy (v:= .agg x.cells) (h:=by exact Pe rfl rfl eX rfl (λ_ h=>h.zoc hm rfl))∘JL (h:=by exact λb=>qo3 x _ (g.old b) (f))) ?_
 rintro b _ k ⟨y,rfl,heq,c,hm⟩
 refine ⟨_,rfl,_,(show Mem w _ (.blk j ai9 48::jV y) from b.qX hm),?_⟩
 refine (JV eX aN (h1:=by exact Fg y)) λe=>(Jp 1∘kV∘aQ) λa Z b=>?_
 exact dS rfl Z (.cellS (i:=0) Z b rfl rfl eX rfl) (.tmp Z rfl) (⟨y,rfl,heq,c,b.pt 1 []⟩)
def zl7 {cp:Int} {cr gc:Nat} {gA:ajq} {gs:List Gr} (a:abr gs<=1000000):cZ (⟨cp,cr,gA,gc,gs,none,0,[],none,0,[],none,0,[],none,0,[]⟩:aF):=⟨a,abC _,abC _,abC _,abC _,λy b=>by cases b⟩
def zpv {cp:Int} {cr gc:Nat} {gs:List Gr} (hr:Rd w w.heap.size 2 gA (abr gs) (gs.flatMap fU)):fC w (⟨cp,cr,gA,gc,gs,none,0,[],none,0,[],none,0,[],none,0,[]⟩:aF):=⟨hr,Rd.nil,Rd.nil,Rd.nil,Rd.nil,λy a=>by cases a⟩
theorem zpw {a:List Sp} {cr gc c m g:Nat} {gs:List Gr} (b:Mem W w F) (hr:Rd W W.heap.size 2 gA (abr gs) (gs.flatMap fU)) {q:Nat} (d:abr z=q) (i j k n:Nat) (h1:F[i]?=some (.row (.slice (some ⟨m,0,none⟩) (abr a) (abr a)) (abr a) ((abG (abr a) (0:Int)).map aZ) 3 1)) (e:F[j]?=some (.row (.slice (some ⟨g,0,none⟩) (abr a) (abr a)) (abr a) ((abG (abr a) (0:Int)).map aZ) 3 1)) (f:F[k]?=some (.row (.slice A q c) q (z.map aac) 176 1)) (h:F.drop n=lQ 200 z):fC w (⟨(abr a:Int),cr,gA,gc,gs,some ⟨m,0,none⟩,abr a,(abG (abr a) (0:Int)),some ⟨g,0,none⟩,abr a,(abG (abr a) (0:Int)),none,0,[],A,c,z⟩:aF):=
 ⟨b.old hr,by show Rd w _ 1 _ (acY _) _;rw [ab8];exact b.rd h1,by show Rd w _ 1 _ (acY _) _;rw [ab8];exact b.rd e,Rd.nil,by show Rd w _ 1 _ (abr z) _;rw [d];exact b.rd f,λy l=>b.kE (List.mem_of_mem_drop (h▸q7w l))⟩
def zl8 {a:List Sp} {cr gc c m g:Nat} {gA A:ajq} {gs:List Gr} (hr:abG (abr a) Sp.zero=a) (hk:abr z=abr gs) (hz:∀q∈z,q.l=a):(⟨(abr a:Int),cr,gA,gc,gs,some ⟨m,0,none⟩,abr a,(abG (abr a) (0:Int)),some ⟨g,0,none⟩,abr a,(abG (abr a) (0:Int)),none,0,[],A,c,z⟩:aF).ay=newS (abr a:Int) cr gs:=by
 have d:z.map ael=abG (abr gs) a:=by
  rw [List.eq_replicate_iff]
  refine ⟨by rw [abz];exact hk,λb e=>?_⟩
  obtain ⟨q,f,rfl⟩:=ab7.1 e
  exact hz q f
 unfold aF.ay newS
 dsimp only
 rw [d,abI,hr]
abbrev ah1 {α:Type}:=λa (b:Nat) c d e f g (h:List α) i j=>(.row (vS a b b) b c 3 1::.row (vS d b b) b c 3 1::.blk e #[vI b,vQ f,abo g h i] 44::j:List ajr)
abbrev aiG {α:Type}:=λa b c (d:List α) e f g=>((8,.agg #[vI a,vQ b,abo c d e])::(7,.bool false)::(3,vI 0)::(2,.pointer none)::(1,vP f 0)::(0,.agg #[vI a,vQ b,abo c d e])::g:List (Nat×ajh))
abbrev ai1 {α:Type}:=λa (b:Nat) c d (e:List α) f g h i j k=>(.blk a #[vI b,vQ c,abo d e f,vS g b b,vS h b b,vN,.slice i j k] 48:ajr)
abbrev ai4 {α:Type}:=λa b (c:Nat) d e f g (h:List α) i j=>(.blk a #[vI 0,vQ 0,vN,vN,vN,vN,vN] 48::.row (vS b c c) c d 3 1::.blk e #[vI c,vQ f,abo g h i] 44::j:List ajr)
def zl9 (cp:Int) (cr:Nat) (gA:ajq) (gc:Nat) (gs:List Gr) (w:ajg) (N:(⟨cp,cr,gA,gc,gs,none,0,[],none,0,[],none,0,[],none,0,[]⟩:aF).ay.Ok) (X:abr gs<=1000000) (hr:Rd w w.heap.size 2 gA (abr gs) (gs.flatMap fU)):
    Calls abt 99 #[.agg #[vI cp,vQ cr,.slice gA (abr gs) gc]] w (oU w (gL (⟨cp,cr,gA,gc,gs,none,0,[],none,0,[],none,0,[],none,0,[]⟩:aF).ay) (newS cp cr gs)):=by
 have Y:=N.aj
 refine (fE Tryz.func99 34) ?_
 refine (JP∘JE) λw1 g1=>(bO 2∘JQ∘JP∘eF zQ O0∘JI (h:=by exact λc=>qf7 (⟨cp,cr,gA,gc,gs,none,0,[],none,0,[],none,0,[],none,0,[]⟩:aF) N (zl7 X) _ (zpv (c.old hr)))) λw6 hbw=>(Jp 1∘bU∘Jj) (Ju (λu=>?_) λu=>?_)
 ·
  exact (JT∘bB 2∘bW) λc=>zfm (by simpa using u) c.below
 obtain ⟨A,B,_,I⟩:=mX (x:=(⟨cp,cr,gA,gc,gs,none,0,[],none,0,[],none,0,[],none,0,[]⟩:aF)) (by simpa using u)
 replace A:1<=cp:=A;replace B:cp<=64:=B;replace I:dO gs=true:=I
 have hgl:=(qt I).2.1
 have O:gL (⟨cp,cr,gA,gc,gs,none,0,[],none,0,[],none,0,[],none,0,[]⟩:aF).ay=true:=by simpa using u
 obtain ⟨b,C⟩:∃l:List Sp,abG cp.toNat Sp.zero=l:=⟨_,rfl⟩
 obtain rfl:cp=(abr b:Int):=by rw [<-C,ab8];omega
 have P:abG (abr b) Sp.zero=b:=C
 refine (aP) λa Z c=>?_
 refine wp_seq ?_
 refine Jb Z c ((Vs .n [9]) λwd3=>λa Z c j=>?_)
 refine Gm (f:=0) (l:=(bt 10 [])) (λs t=>∃(d:Nat) (e:Nat) (g:Nat),Fr s 34 [] [(4,vP g 0),(7,.bool false),(3,vI 0),(2,.pointer none),(1,vP g1 0),(0,.agg #[vI (abr b),vQ cr,abo gA gs gc])]/\Mem w t (.blk g #[vI (abr b),vQ cr,abo gA gs gc,vS d (abr b) (abr b),vS e (abr b) (abr b),vN,vN] 48::ah1 e (abr b) ((madeCells #[vI 0] (abr b*1)).toList) d g1 cr gA gs gc [])) ?_ λD=>?_
 ·
  clear Z c j;rintro a U ⟨d,e,g,Z,c⟩
  refine qe kr ?_
  rw [q9b] at c
  replace c:=c.nil 176 1
  replace c:=c.pq 200 3
  replace c:Mem w _ (.row (vN) 0 [] 176 1::.blk g #[vI (abr b),vQ cr,abo gA gs gc,vS d (abr b) (abr b),vS e (abr b) (abr b),vN,vN] 48::ah1 e (abr b) ((abG (abr b) (0:Int)).map aZ) d g1 cr gA gs gc (lQ 200 [])):=c
  refine Jb Z c ((JQ∘JP∘Jg 2 O4∘Jl∘bO 1∘JB) λa Z c=>?_)
  refine qg (λmS s t=>∃(k:Nat) (z:List Rw) (Q:ajq) (M:Nat),(k<=abr gs)/\(abr z=k)/\(∀q∈z,q.l=b)/\(k<=M)/\mS=abr gs-k/\Fr s 34 [] (ah8 19 k 18 (abr gs) [(4,vP g 0),(7,.bool false),(3,vI 0),(2,.pointer none),(1,vP g1 0)])/\Mem w t (.row (.slice Q k M) k (z.map aac) 176 1::ai1 g (abr b) cr gA gs gc d e Q k M::ah1 e (abr b) ((abG (abr b) (0:Int)).map aZ) d g1 cr gA gs gc (lQ 200 z))) (m:=abr gs-0) ⟨0,[],none,0,abC _,rfl,(λq h=>by cases h),abx _,rfl,Z.sub kr,c.pt 5 [0,1,2,3,4]⟩ ?_
  clear Z c;rintro mS a w_ ⟨k,z,Q,M,hk,J,hz,hcs,rfl,Z,c⟩
  refine Jb Z c ((cB 1∘JQ) (Ji (λR=>?_) λR=>?_))
  ·
   refine (eP∘Vs (.f .n) [8]) λHY=>(Vf 0 6∘Vf 2 0∘Vc 1 O0∘Vc 3 O3) λa Z c j=>?_
   refine s_on Z 4 rfl ?_
   refine yD Z c (m:=abr b) rfl mo rfl rfl om om rfl de ?_
   clear Z c;intro a w25 o Z c
   refine av (c.pt 6 [2,3,4,5]) (λj=>?_)
   refine s_on Z 5 rfl (jG Z c oO [(0,vS o (abr b) (abr b))] #[vS o (abr b) (abr b)] ?_)
   clear Z c;intro a J4 g26 Z c
   refine av (c.pt 7 [3,4,5,6]) (λj=>?_)
   refine s_on Z 6 rfl (su Z c (i:=2) rfl oO rfl rfl rfl (news:=([(⟨some ⟨o,0,none⟩,abr b,b⟩:Rw)].map aac)) (c.bE (i:=0) (n:=1) (size:=1) rfl rfl) (zik _) om om rfl de ?_)
   clear Z c;intro a Fx p r Z c S
   refine av (c.pt 7 [3,4,5,6]) (λj=>?_)
   refine Vb Z c j ((Vf 7 6) λa Z c j=>?_)
   refine s_on Z 8 rfl (eU Z c 3 λDN c=>?_)
   refine dR kr ?_
   refine qe kr ?_
   replace c:=c.dw (i:=1) (ys:=b.flatMap ji) rfl ((zl6 _).trans (by rw [P]))
   replace c:=c.dw (i:=2) (ys:=(z++[(⟨some ⟨o,0,none⟩,abr b,b⟩:Rw)]).map aac) rfl (by rw [abW])
   replace c:=c.pt (fs':=(.row (vS o (abr b) (abr b)) (abr b) (b.flatMap ji) 200 3::.row (.slice p (k+1) r) (k+1) ((z++[(⟨some ⟨o,0,none⟩,abr b,b⟩:Rw)]).map aac) 176 1::ai1 g (abr b) cr gA gs gc d e p (k+1) r::ah1 e (abr b) ((abG (abr b) (0:Int)).map aZ) d g1 cr gA gs gc (lQ 200 z))) 7 [1,2,3,4,5,6]
   replace c:=aaF (fs:=(.row (.slice p (k+1) r) (k+1) ((z++[(⟨some ⟨o,0,none⟩,abr b,b⟩:Rw)]).map aac) 176 1::ai1 g (abr b) cr gA gs gc d e p (k+1) r::ah1 e (abr b) ((abG (abr b) (0:Int)).map aZ) d g1 cr gA gs gc [])) c
   replace c:Mem w _ (.row (.slice p (k+1) r) (k+1) ((z++[(⟨some ⟨o,0,none⟩,abr b,b⟩:Rw)]).map aac) 176 1::ai1 g (abr b) cr gA gs gc d e p (k+1) r::ah1 e (abr b) ((abG (abr b) (0:Int)).map aZ) d g1 cr gA gs gc (lQ 200 (z++[(⟨some ⟨o,0,none⟩,abr b,b⟩:Rw)]))):=c
   refine Jb Z c ((JG∘JR∘dx 1∘Jp 1∘aI∘Jq) λa Z c=>?_)
   exact ⟨_,om,k+1,(z++[(⟨some ⟨o,0,none⟩,abr b,b⟩:Rw)]),p,r,by omega,by rw [abu,J];rfl,λq h=>(acg.1 h).elim (hz q) (λh=>by rw [afL] at h;subst h;rfl),S,rfl,Z.sub kr,c.pt 5 [0,1,2,3,4]⟩
  have V:abr z=abr gs:=by omega
  refine (JF∘JX∘JG∘JP∘eF eX O1∘Jo (.agg ((⟨(abr b:Int),cr,gA,gc,gs,some ⟨d,0,none⟩,abr b,(abG (abr b) (0:Int)),some ⟨e,0,none⟩,abr b,(abG (abr b) (0:Int)),none,0,[],Q,M,z⟩:aF).cells)) (by unfold aF.cells;rw [ab8,J];try rfl)∘JL (h:=by exact λc=>qo3 (⟨(abr b:Int),cr,gA,gc,gs,some ⟨d,0,none⟩,abr b,(abG (abr b) (0:Int)),some ⟨e,0,none⟩,abr b,(abG (abr b) (0:Int)),none,0,[],Q,M,z⟩:aF) _ (zpw c hr J 3 2 0 5 rfl rfl rfl rfl) (⟨X,by rw [ab8];omega,by rw [ab8];omega,abC _,by show abr z<=1000000;omega,λq hq=>by rw [hz q hq];omega⟩))) ?_
  rintro c _ Fa ⟨y,rfl,heq,hcap,hm⟩
  refine ⟨_,rfl,_,(aaV c hm),?_⟩
  exact (fu #[vI y.au,vQ y.aj,abo y.gA y.gs y.gc,abo y.lA y.cl y.lc,abo y.uA y.cu y.uc,abo y.tA y.ts y.tc,abo y.sA y.rs y.sc,.bool true]∘JE) λGL g33=>(bO 2∘JZ∘bW) λc=>q89 (y:=y) O ((NV heq).trans (zl8 P V hz)) (c.pt 1 [0])
 refine Gm (f:=2) (l:=(bt 10 [7,9])) (λs t=>∃(d:Nat) (g:Nat) (e:Nat),Fr s 34 [] ((14,vS e (abr b) (abr b))::(4,vP g 0)::(11,vS d (abr b) (abr b))::aiG (abr b) cr gA gs gc g1 [])/\Mem w t (.row (vS e (abr b) (abr b)) (abr b) ((madeCells #[vI 0] (abr b*1)).toList) 3 1::ai4 g d (abr b) ((madeCells #[vI 0] (abr b*1)).toList) g1 cr gA gs gc [])) ?_ λE=>?_
 ·
  clear Z c j;rintro a U ⟨d,g,e,Z,c⟩
  have j:=c.pk (fs':=[.blk g1 #[vI (abr b),vQ cr,abo gA gs gc] 44]) [3]
  refine Vb Z c j ((Vy 7 (v:= .agg #[vI (abr b),vQ cr,abo gA gs gc,vS d (abr b) (abr b),vS e (abr b) (abr b),vN,vN]) (h:=by exact Yl.build (vs:=[(0,.agg #[vI (abr b),vQ cr,abo gA gs gc]),(1,vS d (abr b) (abr b)),(2,vS e (abr b) (abr b))]) rfl kr kr)) λa Z c j=>?_)
  refine s_on Z 9 rfl (bV Z c 1 rfl rfl rfl rfl rfl eX rfl rfl (by simp [abV]) λT c=>?_)
  refine dR kr ?_
  exact D _ _ ⟨d,e,g,Z.sub kr,c.pk [1,0,2,3]⟩
 refine Gm (f:=3) (l:=(bt 10 [7,8,9])) (λs t=>∃(d:Nat) (e:Nat),Fr s 34 [] ((14,vS e (abr b) (abr b))::(11,vS d (abr b) (abr b))::aiG (abr b) cr gA gs gc g1 [])/\Mem w t (ah1 e (abr b) ((madeCells #[vI 0] (abr b*1)).toList) d g1 cr gA gs gc [])) ?_ λF=>?_
 ·
  clear Z c j;rintro a U ⟨d,e,Z,c⟩
  have j:=c.pk (fs':=[.blk g1 #[vI (abr b),vQ cr,abo gA gs gc] 44]) [2]
  refine Vb Z c j ((Vy 7 (v:= .agg #[vI (abr b),vQ cr,abo gA gs gc,vS d (abr b) (abr b),vS e (abr b) (abr b),vN,vN]) (h:=by exact Yl.build (vs:=[(0,.agg #[vI (abr b),vQ cr,abo gA gs gc]),(1,vS d (abr b) (abr b)),(2,vS e (abr b) (abr b))]) rfl kr kr)∘VA 8 (.f (.f .n)) ai9) λW g=>λa Z c j=>?_)
  refine s_on Z 9 rfl (bV Z c 0 rfl rfl rfl rfl rfl eX rfl rfl (by simp [abV]) λT c=>?_)
  refine dR kr ?_
  exact D _ _ ⟨d,e,g,Z.sub kr,c.pk [0,1,2,3]⟩
 refine Gm (f:=3) (l:=(bt 10 [6,7,9])) (λs t=>∃(d:Nat) (g:Nat),Fr s 34 [] ((4,vP g 0)::(11,vS d (abr b) (abr b))::(13,vI (abr b))::aiG (abr b) cr gA gs gc g1 [])/\Mem w t (ai4 g d (abr b) ((madeCells #[vI 0] (abr b*1)).toList) g1 cr gA gs gc [])) ?_ λG=>?_
 ·
  clear Z c j;rintro a U ⟨d,g,Z,c⟩
  have j:=c.pk (fs':=[.blk g1 #[vI (abr b),vQ cr,abo gA gs gc] 44]) [2]
  refine s_on Z 6 rfl ?_
  refine yD Z c (m:=abr b) rfl kD rfl rfl om om rfl de ?_
  clear Z c;intro a K e Z c
  refine av (c.pk [3]) (λj=>?_)
  exact E _ _ ⟨d,g,e,Z.sub kr,c.pk [0,1,2,3]⟩
 refine Gm (f:=3) (l:=(bt 10 [3,7,9])) (λs t=>∃(e:Nat) (g:Nat),Fr s 34 [] ((4,vP g 0)::(14,vS e (abr b) (abr b))::(10,vI (abr b))::aiG (abr b) cr gA gs gc g1 [])/\Mem w t (ai4 g e (abr b) ((madeCells #[vI 0] (abr b*1)).toList) g1 cr gA gs gc [])) ?_ λH=>?_
 ·
  clear Z c j;rintro a U ⟨e,g,Z,c⟩
  have j:=c.pk (fs':=[.blk g1 #[vI (abr b),vQ cr,abo gA gs gc] 44]) [2]
  refine s_on Z 3 rfl ?_
  refine yD Z c (m:=abr b) rfl kD rfl rfl om om rfl de ?_
  clear Z c;intro a L d Z c
  refine av (c.pk [3]) (λj=>?_)
  exact E _ _ ⟨d,g,e,Z.sub kr,c.pk [2,1,0,3]⟩
 refine Vb Z c j ((Vf 1 0∘Vf 4 0∘nR 0 zQ O0∘Vc 2 O0∘Vc 5 O0) λa Z c j=>?_)
 refine zh [3,6,8] kr rfl ?_
 refine all_cons ?_ ?_
 ·refine qu Z (i:=3) rfl rfl ?_
  refine yD Z c (m:=abr b) rfl kD rfl rfl om om rfl de ?_
  clear Z c;intro a L d Z c
  refine av (c.pk [1]) (λj=>?_)
  refine zh [6,8] kr rfl ?_
  refine all_cons ?_ ?_
  ·refine qu Z (i:=6) rfl rfl ?_
   refine yD Z c (m:=abr b) rfl kD rfl rfl om om rfl de ?_
   clear Z c;intro a K e Z c
   refine av (c.pk [2]) (λj=>?_)
   exact F _ _ ⟨d,e,Z.sub kr,c.pk [0,1,2]⟩
  refine all_cons ?_ all_nil
  refine qu Z (i:=8) rfl rfl ?_
  refine iq Z c ai9 ?_
  clear Z c;intro a W g Z c
  refine av (c.pk [2]) (λj=>?_)
  exact G _ _ ⟨d,g,Z.sub kr,c.pk [0,1,2]⟩
 refine all_cons ?_ ?_
 ·refine qu Z (i:=6) rfl rfl ?_
  refine yD Z c (m:=abr b) rfl kD rfl rfl om om rfl de ?_
  clear Z c;intro a K e Z c
  refine av (c.pk [1]) (λj=>?_)
  refine zh [3,8] kr rfl ?_
  refine all_cons ?_ ?_
  ·refine qu Z (i:=3) rfl rfl ?_
   refine yD Z c (m:=abr b) rfl kD rfl rfl om om rfl de ?_
   clear Z c;intro a L d Z c
   refine av (c.pk [2]) (λj=>?_)
   exact F _ _ ⟨d,e,Z.sub kr,c.pk [1,0,2]⟩
  refine all_cons ?_ all_nil
  refine qu Z (i:=8) rfl rfl ?_
  refine iq Z c ai9 ?_
  clear Z c;intro a W g Z c
  refine av (c.pk [2]) (λj=>?_)
  exact H _ _ ⟨e,g,Z.sub kr,c.pk [0,1,2]⟩
 refine all_cons ?_ all_nil
 refine qu Z (i:=8) rfl rfl ?_
 refine iq Z c ai9 ?_
 clear Z c;intro a W g Z c
 refine av (c.pk [1]) (λj=>?_)
 refine zh [3,6] kr rfl ?_
 refine all_cons ?_ ?_
 ·refine qu Z (i:=3) rfl rfl ?_
  refine yD Z c (m:=abr b) rfl kD rfl rfl om om rfl de ?_
  clear Z c;intro a L d Z c
  refine av (c.pk [2]) (λj=>?_)
  exact G _ _ ⟨d,g,Z.sub kr,c.pk [1,0,2]⟩
 refine all_cons ?_ all_nil
 refine qu Z (i:=6) rfl rfl ?_
 refine yD Z c (m:=abr b) rfl kD rfl rfl om om rfl de ?_
 clear Z c;intro a K e Z c
 refine av (c.pk [2]) (λj=>?_)
 exact H _ _ ⟨e,g,Z.sub kr,c.pk [1,0,2]⟩
structure dQ where
 au:Nat
 groups:Nat
 aj:Nat
 ps:List Nat
 ws:List Nat
def dQ.cells (n:dQ):Array ajh:=(.int .u8 (n.au:Int):: .int .u8 (n.groups:Int):: .int .u32 (n.aj:Int)::(n.ps.map (λz:Nat=>abT .u8 (z:Int))++n.ws.map (λz:Nat=>abT .u16 (z:Int)))).toArray
structure dQ.Ok (n:dQ):Prop where
 au:n.au<256
 groups:n.groups<256
 aj:n.aj<4294967296
 pl:abr n.ps=5
 wl:abr n.ws=5
 ps:∀z∈n.ps,z<256
 ws:∀z∈n.ws,z<65536
section
variable {n:dQ} {i g:Nat} {gs:List Gr} {ds:List Nat} {x:Gr}
theorem dQ.Ky (h:n.Ok) (hi:i<5):n.cells[3+i*1]?=some (.int .u8 (n.ps.getD i 0:Int))/\n.ps.getD i 0<256:=by
 have a:i<abr n.ps:=by rw [h.pl];exact hi
 refine ⟨?_,h.ps _ (qf 0 a)⟩
 grind [dQ.cells,getD_at]
theorem dQ.Ee (h:n.Ok) (hi:i<5):n.cells[8+i*1]?=some (.int .u16 (n.ws.getD i 0:Int))/\n.ws.getD i 0<65536:=by
 have a:i<abr n.ws:=by rw [h.wl];exact hi
 refine ⟨?_,h.ws _ (qf 0 a)⟩
 rw [ac5,show 8+i=(5+i)+3 by omega]
 rw [<-aeQ]
 unfold dQ.cells
 dsimp only
 rw [ad1,ad1,ad1,adR (by rw [abz,h.pl];omega),abz,h.pl,Nat.add_sub_cancel_left,acQ,getD_at 0 a]
 rfl
def gG (ps ws:List Nat):Nat->List Gr×List Nat
 |0=>([⟨0,1⟩],[0])
 |i+1=>
  let q:=gG ps ws i
  let u:=ps.getD i 0%abr q.1
  let up:=if q.2.getD u 0=4 then 0 else u
  (q.1++[⟨(up:Int),((1+ws.getD i 0:Nat):Int)⟩],q.2++[q.2.getD up 0+1])
def qzr:∀(f g:Nat),g<abr gs->(∀i,0<i->i<=g->fA gs i)->jO (gs++[x]) f g=jO gs f g
 |0,_,_,_=>rfl
 | f + 1, g, b, a => by
  rw [jO,jO]
  split
  ·rfl
  ·rename_i d
   have c:=a g om (abx _)
   unfold fA at c
   rw [abw,adU b,<-abw]
   rw [qzr f _ om (λi hi e=>a i hi om)]
theorem OA {α:Type} {l:List α} {x d:α} {g:Nat} (a:g<abr l):(l++[x]).getD g d=l.getD g d:=by grind
theorem qua {α:Type} {l:List α} {x d:α}:(l++[x]).getD (abr l) d=x:=by grind
structure jH (gs:List Gr) (ds:List Nat):Prop where
 len:abr ds=abr gs
 ok:dO gs=true
 dep:∀g,g<abr gs->ds.getD g 0=jq gs g
def qzs:jH [⟨0,1⟩] [0]:=⟨rfl,by decide,λg a=>by
 obtain rfl:g=0:=by simp at a;omega
 rfl⟩
theorem jH.le (h:jH gs ds) (b:g<abr gs):ds.getD g 0<=4:=by
 rw [h.dep g b]
 have a:=(qt h.ok).2.2.2 g b
 unfold qQ at a
 rw [Bool.or_eq_true,beq_iff_eq,decide_eq_true_eq] at a
 rcases a with rfl|a
 ·exact abC _
 ·exact a.2.2.2
theorem jH.snoc {up w:Nat} (h:jH gs ds) (k:up<abr gs) (p:ds.getD up 0<4) (q:w<65536) (r:abr gs<256):jH (gs++[⟨(up:Int),((1+w:Nat):Int)⟩]) (ds++[ds.getD up 0+1]):=by
 obtain ⟨s,t,l,u⟩:=qt h.ok
 have a:abr (gs++[(⟨(up:Int),((1+w:Nat):Int)⟩:Gr)])=abr gs+1:=by rw [abu];rfl
 have m:∀g,g<abr gs->∀i,0<i->i<=g->fA gs i:=λg c=>zR h.ok c
 have b:∀g,g<abr gs->jq (gs++[⟨(up:Int),((1+w:Nat):Int)⟩]) g=jq gs g:=λg c=>qzr g g c (m g c)
 have d:(gs++[(⟨(up:Int),((1+w:Nat):Int)⟩:Gr)]).getD (abr gs) Gr.zero=⟨(up:Int),((1+w:Nat):Int)⟩:=qua
 have j:∀i,0<i->i<=abr gs->fA (gs++[⟨(up:Int),((1+w:Nat):Int)⟩]) i:=λi hi o=>by
  grind [fA,OA]
 have e:jq (gs++[⟨(up:Int),((1+w:Nat):Int)⟩]) (abr gs)=ds.getD up 0+1:=by
  rw [RY j om,d]
  show jq (gs++[⟨(up:Int),((1+w:Nat):Int)⟩]) ((up:Int)).toNat+1=_
  rw [abI,b up k,h.dep up k]
 refine ⟨by rw [abu,a,h.len];rfl,?_,λg c=>?_⟩
 ·unfold dO
  rw [a,OA om,decide_eq_true ⟨by omega,by omega,l⟩,acj]
  refine wI λg c=>?_
  grind [qQ,OA,mK]
 ·rw [a] at c
  rcases ab0 g (abr gs) with f|f
  ·rw [OA (by rw [h.len];exact f),b g f,h.dep g f]
  ·obtain rfl:g=abr gs:=by omega
   rw [e,<-h.len,qua]
theorem q9d {ps ws:List Nat} (e:∀z∈ws,z<65536):∀i,i<=5->jH (gG ps ws i).1 (gG ps ws i).2/\(gG ps ws i).1.length=i+1
 |0,_=>⟨qzs,rfl⟩
 | i + 1, hi => by
  obtain ⟨a,f⟩:=q9d (ps:=ps) e i om
  have d:ps.getD i 0% (gG ps ws i).1.length<(gG ps ws i).1.length:=adJ _ om
  have b:ws.getD i 0<65536:=by
   grind [qf]
  have j:(gG ps ws i).2.getD 0 0=0:=by rw [a.dep 0 om];rfl
  have key:∀up,up<(gG ps ws i).1.length->(gG ps ws i).2.getD up 0<4->jH ((gG ps ws i).1++[⟨(up:Int),((1+ws.getD i 0:Nat):Int)⟩]) ((gG ps ws i).2++[(gG ps ws i).2.getD up 0+1]):=λup h c=>a.snoc h c b om
  rw [gG]
  dsimp only
  refine ⟨?_,by rw [abu,f];rfl⟩
  by_cases c:(gG ps ws i).2.getD (ps.getD i 0% (gG ps ws i).1.length) 0=4
  ·grind
  ·rw [if_neg c];exact key _ d (by have:=a.le d;omega)
def qo4 {ps ws:List Nat} {u up:Nat} (b:gG ps ws i=(gs,ds)) (c:ps.getD i 0%abr gs=u) (a:(if ds.getD u 0=4 then 0 else u)=up):gG ps ws (i+1)=(gs++[⟨(up:Int),((1+ws.getD i 0:Nat):Int)⟩],ds++[ds.getD up 0+1]):=by
 rw [gG,b]
 dsimp only
 rw [c,a]
end
def dQ.gs (n:dQ):List Gr:=(gG n.ps n.ws (n.groups%6)).1
def dQ.cp (n:dQ):Nat:=1+n.au%4
theorem dQ.right {n:dQ} (h:n.Ok):dO n.gs=true/\abr n.gs=n.groups%6+1:=by
 have:=q9d (ps:=n.ps) h.ws (n.groups%6) om
 exact ⟨this.1.ok,this.2⟩
def bQ.zero:bQ:=⟨0,0,0,0,0,0,0,0⟩
def sM (x:bQ):List ajh:=x.cells.toList
def zma (x:bQ):abr (sM x)=8:=rfl
theorem q9e (l:List bQ):∀u∈l.flatMap sM,u.oneCell'=true:=by
 intro u a
 obtain ⟨x,_,b⟩:=acT.1 a
 exact zin x u b
structure jw where
 kind:Nat
 cpu:Nat
 task:Nat
 group:Nat
 to:Nat
 weight:Nat
 ticks:Nat
 mask:Nat
structure jw.Ok (x:jw):Prop where
 kind:x.kind<256
 cpu:x.cpu<256
 task:x.task<256
 group:x.group<256
 to:x.to<256
 weight:x.weight<65536
 ticks:x.ticks<4294967296
 mask:x.mask<256
def jw.zero:jw:=⟨0,0,0,0,0,0,0,0⟩
def jw.cells (x:jw):Array ajh:= #[.int .u8 (x.kind:Int),.int .u8 (x.cpu:Int),.int .u8 (x.task:Int),.int .u8 (x.group:Int),.int .u8 (x.to:Int),.int .u16 (x.weight:Int),.int .u32 (x.ticks:Int),.int .u8 (x.mask:Int)]
def Ah (x:jw):List ajh:=x.cells.toList
def Uo (x:jw):abr (Ah x)=8:=rfl
def zmb (x:jw):∀v∈x.cells.toList,v.oneCell'=true:=by simp [jw.cells,abV]
def jX:List Nat:=[1,1,1,2,2,3,3,4,5,5,5,5,6,6,6,6,7,8,9,10]
def jw.BH (x:jw):Nat:=if 0<x.mask%4 then (1*2^ (1+x.to%4)-1)|||1*2^ (x.cpu%4) else x.mask
def jw.op (x:jw):bQ:=⟨jX.getD (x.kind%20) 0,((x.cpu%4:Nat):Int),((1+x.task%12:Nat):Int),((x.group%6:Nat):Int),((1+x.weight:Nat):Int),((x.to%4:Nat):Int),((1+x.ticks%16777216:Nat):Int),x.BH⟩
def qzt (h:k<20):(#[.int .u8 1,.int .u8 1,.int .u8 1,.int .u8 2,.int .u8 2,.int .u8 3,.int .u8 3,.int .u8 4,.int .u8 5,.int .u8 5,.int .u8 5,.int .u8 5,.int .u8 6,.int .u8 6,.int .u8 6,.int .u8 6,.int .u8 7,.int .u8 8,.int .u8 9,.int .u8 10]:Array ajh)[k]?=some (.int .u8 (jX.getD k 0:Int)):=by
 have:∀k,k<20->(#[.int .u8 1,.int .u8 1,.int .u8 1,.int .u8 2,.int .u8 2,.int .u8 3,.int .u8 3,.int .u8 4,.int .u8 5,.int .u8 5,.int .u8 5,.int .u8 5,.int .u8 6,.int .u8 6,.int .u8 6,.int .u8 6,.int .u8 7,.int .u8 8,.int .u8 9,.int .u8 10]:Array ajh)[k]?=some (.int .u8 (jX.getD k 0:Int)):=by
  intro k a
  match k,a with
  |0,_|1,_|2,_|3,_|4,_|5,_|6,_|7,_|8,_|9,_|10,_|11,_|12,_|13,_|14,_|15,_|16,_|17,_|18,_|19,_=>rfl
  |k+20,h=>omega
 exact this k h
def zfn (k:Nat):jX.getD k 0<=10:=by
 rcases ab0 k 20 with h|h
 ·have:∀k,k<20->jX.getD k 0<=10:=by decide
  exact this k h
 ·rw [abw,adp h];decide
def zpx {x:jw} (h:x.Ok):x.BH<256:=by
 unfold jw.BH
 split
 ·have a:2^ (1+x.to%4)<=2^4:=ads de om
  have b:2^ (x.cpu%4)<=2^3:=ads de om
  exact Nat.or_lt_two_pow (n:=8) om om
 ·exact h.mask
theorem jw.zra {x:jw} (h:x.Ok):x.op.Ok:=by
 have a:=zfn (x.kind%20)
 have b:=zpx h
 have c:=h.weight
 refine ⟨?_,?_,?_,?_,?_,?_,?_,?_⟩
 ·show jX.getD (x.kind%20) 0<256;omega
 ·show aX ((x.cpu%4:Nat):Int);unfold aX;omega
 ·show aX ((1+x.task%12:Nat):Int);unfold aX;omega
 ·show aX ((x.group%6:Nat):Int);unfold aX;omega
 ·show aX ((1+x.weight:Nat):Int);unfold aX;omega
 ·show aX ((x.to%4:Nat):Int);unfold aX;omega
 ·show aX ((1+x.ticks%16777216:Nat):Int);unfold aX;omega
 ·show x.BH<_;omega
def ni (l:List jw) (most:Nat):List bQ:=(l.take most).map jw.op
def q9f {l:List jw} {most:Nat} (h:∀x∈l,x.Ok):∀o∈ni l most,o.Ok:=λo a=>by
 obtain ⟨x,b,rfl⟩:=ab7.1 a
 exact jw.zra (h x (aco b))
def q9g:SI abt 100 13:=⟨by kernel_rfl,by kernel_rfl⟩
def zpy:EI abt 101 275 (.agg #[.int .u8 0,.int .u8 0,.int .u8 0,.int .u8 0,.int .u8 0,.int .u16 0,.int .u32 0,.int .u8 0]) 8 16:=⟨by kernel_rfl,by kernel_rfl,rfl,by omega⟩
def ziv:SI abt 275 8:=⟨by kernel_rfl,by kernel_rfl⟩
def zfo (l:List jw) (m:Nat):abT .i64 (if ((m:Int)<(abr l:Int)) then (m:Int) else (abr l:Int))= .int .i64 ((abr (l.take m):Nat):Int):=by
 rw [abA]
 congr 1
 split<;>omega
def q9h {z:Nat} (h:z<=4):1*2^z<=18446744073709551615:=by
 have a:2^z<=2^4:=ads de h
 omega
def BI (w:ajg) (cp:Int) (cr:Nat) (gs:List Gr) (r:ajk) (a:ajg):Prop:=(∃A c,r= .returned (.agg #[vI cp,vQ cr,.slice A (abr gs) c])/\a.ownsRow w.heap.size 198 2 (.slice A (abr gs) c) (abr gs) (gs.flatMap fU)/\abr gs<=c)/\Below w.heap.size w a
def zfp {cp:Int} {cr k c:Nat} {gs a:List Gr} (b:gs=a) (d:abr gs=k) (e:W.ownsRow w.heap.size 198 2 (.slice A k c) k (gs.flatMap fU)) (hc:k<=c) (hb:Below w.heap.size w W):BI w cp cr a (.returned (.agg #[vI cp,vQ cr,.slice A k c])) W:=by
 subst b
 subst d
 exact ⟨⟨A,c,rfl,e,hc⟩,hb⟩
abbrev aiT:=λa b c d e f g h i j k l m n=>(.blk a #[vI b,vQ c,.slice d e f] 44::.row g e h 198 2::.blk i #[vI 0,vQ 0,vN] j::.blk k l m::n:List ajr)
def q3m (n:dQ) (E:n.Ok) (w:ajg):
    Calls abt 100 #[.agg n.cells] w (BI w (n.cp:Int) n.aj n.gs):=by
 have ap3:=E.aj;have ap4:=E.au;have ap5:=E.groups
 refine (fE Tryz.func100 63) ?_
 refine (JP∘JE) λw1 g1=>(JA #[vI 0,vQ 0,vN]) λw2 G=>(Jr∘Jg 0 O1∘Jw .i64∘Jp 1∘Jo (vI (n.au%4:Nat)) (by exact zi .i64 _ 4)∘Jp 1∘Jo (vI (1+(n.au%4):Nat)) (by exact q7 om om)∘Jg 2 O1∘Jw .u64∘fu #[vI 0,vI 1]∘JU jE #[vI 0,vI 1]) λw16 s=>(fu #[vI (1+(n.au%4):Nat),vQ n.aj,vS s 1 1]∘JA #[vI 0,vQ 0,vN]) λw3 H=>(JV zQ aN) λS=>(aI∘Jr∘JU kD #[vI 0]) λzJ J=>(Jp 1∘aL∘Jq∘JC (h:=by exact λb=>b.fV (i:=2) (n:=1) (size:=2) rfl rfl de)∘JC (h:=by exact λb=>b.fV (i:=0) (n:=1) (size:=1) rfl rfl de)∘JC (h:=by exact λb=>(show Mem w _ [.row (vS J 1 1) 1 ([0].map bL) 3 1,.blk H #[vI (1+(n.au%4):Nat),vQ n.aj,vS s 1 1] 44,.row (vS s 1 1) 1 ([(⟨0,1⟩:Gr)].flatMap fU) 198 2,.blk G #[vI 0,vQ 0,vN] 44,.blk g1 n.cells 100] from b))∘JG∘JQ∘JP∘Jg 1 O4∘Jw .i64∘Jp 1∘Jo (vI (n.groups%6:Nat)) (by exact zi .i64 _ 6)∘bO 1∘JB) λa Z b=>?_
 refine qg (λmS aS wS=>∃(i:Nat) (gs:List Gr) (c:List Nat) (X:ajq) (F:Nat) (Y:ajq) (Q:Nat),(i<=n.groups%6)/\(gG n.ps n.ws i=(gs,c))/\(jH gs c)/\(abr gs=i+1)/\(abr c=i+1)/\(i+1<=F)/\(i+1<=Q)/\mS=n.groups%6-i/\Fr aS 63 [] (ah8 23 i 22 (n.groups%6:Nat) [(4,.slice Y (i+1) Q),(3,vP H 0),(2,vP G 0),(1,vP g1 0)])/\Mem w wS (.row (.slice Y (i+1) Q) (i+1) (c.map bL) 3 1::aiT H (1+(n.au%4):Nat) n.aj X (i+1) F (.slice X (i+1) F) (gs.flatMap fU) G 44 g1 n.cells 100 [])) (m:=n.groups%6-0) ⟨0,[⟨0,1⟩],[0],(some ⟨s,0,none⟩),1,(some ⟨J,0,none⟩),1,abC _,rfl,qzs,rfl,rfl,abx _,abx _,rfl,Z.sub kr,b.pk [0,1,2,3,4]⟩ ?_
 clear Z b;rintro mS a w_ ⟨i,gs,c,X,F,Y,Q,hi,T,x,A,K,U,hyc,rfl,Z,b⟩
 refine Jb Z b ((cB 1∘JQ) (Ji (λL=>?_) λL=>?_))
 ·
  have M:i<5:=by omega
  have hpv:=(dQ.Ky E M).2
  have N:=(dQ.Ee E M).2
  obtain ⟨u,R⟩:∃u,n.ps.getD i 0%abr gs=u:=⟨_,rfl⟩
  have V:u<abr gs:=by rw [<-R];exact adJ _ om
  have hdu:=x.le V
  obtain ⟨up,B⟩:∃z,(if c.getD u 0=4 then 0 else u)=z:=⟨_,rfl⟩
  refine (eP∘aM 2∘aL∘Jj) λa Z b=>?_
  refine wp_seq ?_
  refine Jb Z b ((Vs .n []) λHY=>(Vp [0]∘Vf 1 3∘Vf 5 2∘Vy 2 (v:=vP g1 (3+i*1)) (h:=by exact (Yl.uy (ad:=⟨g1,3,none⟩) (m:=5) (y:=i) (sz:=1) rfl rfl rfl kr om).as (by rw [acL]))∘Vy 3 (v:=vB (n.ps.getD i 0)) (h:=by exact Pd rfl rfl kr (λ_ h=>h.cell (i:=4) rfl (dQ.Ky E om).1))∘Vw 4 .i64∘Vc 6 O1∘Vl 7∘Vy 8 (v:=vI ((n.ps.getD i 0)% (i+1):Nat)) (h:=by exact aap (m:=(n.ps.getD i 0)) (n:=(i+1)) rfl rfl rfl om)∘Vo (vI u) (by rw [<-R,A])∘Vp [9]∘Vd∘aI∘bM 2) ?_)
  repeat (first|clear Z|clear b)
  intro a Z b
  obtain ⟨gY,rfl⟩:=b.rat 0 u
  refine Jb Z b ((nP u 1∘Jy (h:=by exact aae 0 u 0 om rfl rfl rfl)∘Jp 1∘fK∘Jj) (Je (λO=>?_) λO=>?_))
  ·
   have d:up=0:=by rw [<-B,if_pos om]
   have W:c.getD 0 0=0:=by rw [x.dep 0 om];rfl
   have l:up<abr gs:=by omega
   have o:c.getD up 0<4:=by rw [d,W];decide
   refine (JT∘JR∘Jp 1∘Jq∘Jk 6 (vI up) (h:=by rw [d];try rfl)∘JG∘aM 3∘nP up 1∘Jy (h:=by exact aae 0 up 0 om rfl rfl rfl)∘dx 1∘JU kD #[vI ((c.getD up 0)+1:Nat)]) λGN p=>(JD ([c.getD up 0+1].map bL) 1 (λ_ _=>gu) kD (hr:=by exact λb=>b.bE (i:=0) (n:=1) (size:=1) rfl rfl) (h1:=by simp [abV,bL])) λw47 e g q=>(Jp 1∘aI∘Jq∘JC (h:=by exact λb=>b.dw (i:=1) (ys:=(c++[c.getD up 0+1]).map bL) rfl (by rw [abW]))∘JC (h:=by exact λb=>(show Mem w _ (ah9 p ((c.getD up 0)+1:Nat)::.row (.slice e ((i+1)+1) g) ((i+1)+1) ((c++[c.getD up 0+1]).map bL) 3 1::aiT H (1+(n.au%4):Nat) n.aj X (i+1) F (.slice X (i+1) F) (gs.flatMap fU) G 44 g1 n.cells 100 []) from b))∘JG∘Vs (.t (.t (.t (.f .n)))) [13]) λP=>(Vf 0 2∘Vp [2,3]∘Vf 4 8∘Vc 1 O2∘Vy 5 (v:=vP g1 (8+i*1)) (h:=by exact (Yl.uy (ad:=⟨g1,8,none⟩) (m:=5) (y:=i) (sz:=1) rfl rfl rfl kr om).as (by rw [acL]))∘Vy 6 (v:= .int .u16 (n.ws.getD i 0)) (h:=by exact Pd rfl rfl kr (λ_ h=>h.cell (i:=4) rfl (dQ.Ee E om).1))∘Vw 7 .i64∘Vp [8]∘Vo (vI (1+(n.ws.getD i 0):Nat)) (by exact q7 om om)∘Vy 9 (v:= .agg #[vI up,vI (1+(n.ws.getD i 0):Nat)]) (h:=by exact Yl.build (vs:=(ah8 0 up 1 (1+(n.ws.getD i 0):Nat) [])) rfl kr kr)) λa Z b C=>?_
   refine s_on Z 10 rfl (jG Z b jE [(0,.agg #[vI up,vI (1+(n.ws.getD i 0):Nat)])] #[vI up,vI (1+(n.ws.getD i 0):Nat)] ?_)
   clear Z b;intro a HZ I Z b
   refine av (b.pk [1,2,3,5,6]) (λC=>?_)
   refine s_on Z 11 rfl (su Z b (i:=4) rfl jE rfl rfl rfl (news:=([(⟨(up:Int),((1+n.ws.getD i 0:Nat):Int)⟩:Gr)].flatMap fU)) (b.bE (i:=0) (n:=1) (size:=2) rfl rfl) (I7 _) om om rfl de ?_)
   clear Z b;intro a Uq j k Z b r
   refine av (b.pk [1,2,3,5,6]) (λC=>?_)
   refine Vb Z b C ((Vf 12 2) λa Z b C=>?_)
   refine s_on Z 13 rfl (eU Z b 3 λD b=>?_)
   refine dR kr ?_
   refine qe kr ?_
   replace b:=b.dw (i:=4) (ys:=(gs++[(⟨(up:Int),((1+n.ws.getD i 0:Nat):Int)⟩:Gr)]).flatMap fU) rfl (by rw [abZ])
   replace b:Mem w _ (.blk I #[vI up,vI (1+(n.ws.getD i 0):Nat)] 198::ah9 p ((c.getD up 0)+1:Nat)::.row (.slice e ((i+1)+1) g) ((i+1)+1) ((c++[c.getD up 0+1]).map bL) 3 1::aiT H (1+(n.au%4):Nat) n.aj j ((i+1)+1) k (.slice j ((i+1)+1) k) ((gs++[(⟨(up:Int),((1+n.ws.getD i 0:Nat):Int)⟩:Gr)]).flatMap fU) G 44 g1 n.cells 100 []):=b
   refine Jb Z b ((JG∘JR∘dx 1∘Jp 1∘aI∘Jq) λa Z b=>?_)
   exact ⟨_,om,i+1,(gs++[(⟨(up:Int),((1+n.ws.getD i 0:Nat):Int)⟩:Gr)]),(c++[c.getD up 0+1]),j,k,e,g,by omega,qo4 T R B,x.snoc l o N om,by rw [abu,A];rfl,by rw [abu,K];rfl,r,q,rfl,Z.sub kr,b.pk [2,3,4,5,6]⟩
  have d:up=u:=by rw [<-B,if_neg om]
  have l:up<abr gs:=by omega
  have o:c.getD up 0<4:=by rw [d];omega
  refine (Jk 6 (vI up) (h:=by rw [d])∘aP∘aM 3∘nP up 1∘Jy (h:=by exact aae 0 up 0 om rfl rfl rfl)∘dx 1∘JU kD #[vI ((c.getD up 0)+1:Nat)]) λGN p=>(JD ([c.getD up 0+1].map bL) 1 (λ_ _=>gu) kD (hr:=by exact λb=>b.bE (i:=0) (n:=1) (size:=1) rfl rfl) (h1:=by simp [abV,bL])) λw47 e g q=>(Jp 1∘aI∘Jq∘JC (h:=by exact λb=>b.dw (i:=1) (ys:=(c++[c.getD up 0+1]).map bL) rfl (by rw [abW]))∘JC (h:=by exact λb=>(show Mem w _ (ah9 p ((c.getD up 0)+1:Nat)::.row (.slice e ((i+1)+1) g) ((i+1)+1) ((c++[c.getD up 0+1]).map bL) 3 1::aiT H (1+(n.au%4):Nat) n.aj X (i+1) F (.slice X (i+1) F) (gs.flatMap fU) G 44 g1 n.cells 100 []) from b))∘JG∘Vs (.t (.t (.t (.f .n)))) [13]) λP=>(Vf 0 2∘Vp [2,3]∘Vf 4 8∘Vc 1 O2∘Vy 5 (v:=vP g1 (8+i*1)) (h:=by exact (Yl.uy (ad:=⟨g1,8,none⟩) (m:=5) (y:=i) (sz:=1) rfl rfl rfl kr om).as (by rw [acL]))∘Vy 6 (v:= .int .u16 (n.ws.getD i 0)) (h:=by exact Pd rfl rfl kr (λ_ h=>h.cell (i:=4) rfl (dQ.Ee E om).1))∘Vw 7 .i64∘Vp [8]∘Vo (vI (1+(n.ws.getD i 0):Nat)) (by exact q7 om om)∘Vy 9 (v:= .agg #[vI up,vI (1+(n.ws.getD i 0):Nat)]) (h:=by exact Yl.build (vs:=(ah8 0 up 1 (1+(n.ws.getD i 0):Nat) [])) rfl kr kr)) λa Z b C=>?_
  refine s_on Z 10 rfl (jG Z b jE [(0,.agg #[vI up,vI (1+(n.ws.getD i 0):Nat)])] #[vI up,vI (1+(n.ws.getD i 0):Nat)] ?_)
  clear Z b;intro a HZ I Z b
  refine av (b.pk [1,2,3,5,6]) (λC=>?_)
  refine s_on Z 11 rfl (su Z b (i:=4) rfl jE rfl rfl rfl (news:=([(⟨(up:Int),((1+n.ws.getD i 0:Nat):Int)⟩:Gr)].flatMap fU)) (b.bE (i:=0) (n:=1) (size:=2) rfl rfl) (I7 _) om om rfl de ?_)
  clear Z b;intro a Uq j k Z b r
  refine av (b.pk [1,2,3,5,6]) (λC=>?_)
  refine Vb Z b C ((Vf 12 2) λa Z b C=>?_)
  refine s_on Z 13 rfl (eU Z b 3 λD b=>?_)
  refine dR kr ?_
  refine qe kr ?_
  replace b:=b.dw (i:=4) (ys:=(gs++[(⟨(up:Int),((1+n.ws.getD i 0:Nat):Int)⟩:Gr)]).flatMap fU) rfl (by rw [abZ])
  replace b:Mem w _ (.blk I #[vI up,vI (1+(n.ws.getD i 0):Nat)] 198::ah9 p ((c.getD up 0)+1:Nat)::.row (.slice e ((i+1)+1) g) ((i+1)+1) ((c++[c.getD up 0+1]).map bL) 3 1::aiT H (1+(n.au%4):Nat) n.aj j ((i+1)+1) k (.slice j ((i+1)+1) k) ((gs++[(⟨(up:Int),((1+n.ws.getD i 0:Nat):Int)⟩:Gr)]).flatMap fU) G 44 g1 n.cells 100 []):=b
  refine Jb Z b ((JG∘JR∘dx 1∘Jp 1∘aI∘Jq) λa Z b=>?_)
  exact ⟨_,om,i+1,(gs++[(⟨(up:Int),((1+n.ws.getD i 0:Nat):Int)⟩:Gr)]),(c++[c.getD up 0+1]),j,k,e,g,by omega,qo4 T R B,x.snoc l o N om,by rw [abu,A];rfl,by rw [abu,K];rfl,r,q,rfl,Z.sub kr,b.pk [2,3,4,5,6]⟩
 have hie:i=n.groups%6:=by omega
 have hgs:gs=n.gs:=by unfold dQ.gs;rw [<-hie,T]
 refine (JF∘JX∘JG∘JP∘eF zQ O1∘JV zQ oI) λacO=>(mW∘aQ) λa Z b=>?_
 exact jc rfl Z (.cellS (i:=3) Z b rfl rfl zQ rfl) (zfp hgs A (b.own (i:=2) rfl) U b.below)
def aa8 {α:Type} {l:List α} {m:Nat}:l.take (min m (abr l))=l.take m:=by
 rcases Nat.le_total m (abr l) with h|h
 ·rw [ac9 h]
 ·rw [ahb h,adb,abM h]
def qo5 (l:List jw) (most:Nat):abr (ni l most)=abr (l.take most):=abz ..
def q9i {e:ajj} {q a:List bQ} (h:q=a) (b:abr q=n) (d:W.ownsRow w.heap.size e 8 (.slice A n c) n (q.flatMap sM)) (hc:n<=c) (hb:Below w.heap.size w W):Ec w e 8 (abr a) (a.flatMap sM) (.returned (.slice A n c)) W:=by
 subst h
 subst b
 exact ⟨⟨A,c,rfl,d,hc⟩,hb⟩
abbrev aiX:=λa=>((5,vB 3)::(6,vB 3)::(7,vB 4)::(8,vB 5)::(9,vB 5)::(10,vB 5)::(11,vB 5)::(12,vB 6)::(13,vB 6)::(14,vB 6)::(15,vB 6)::(16,vB 7)::(17,vB 8)::(18,vB 9)::(19,vB 10)::a:List (Nat×ajh))
abbrev ai6:=λa b c d e f g h i j k l m n o p=>(.blk a #[vB (jX.getD (b%20) 0),vI (c%4:Nat),vI (1+(d%12):Nat),vI (e%6:Nat),vI (1+f:Nat),vI (g%4:Nat),vI (1+(h%16777216):Nat),vQ i] 214::.blk j k 275::.row (.slice l (m+1) n) (m+1) o 214 8::p:List ajr)
abbrev ajd:Array ajh:=#[vB 1,vB 1,vB 1,vB 2,vB 2,vB 3,vB 3,vB 4,vB 5,vB 5,vB 5,vB 5,vB 6,vB 6,vB 6,vB 6,vB 7,vB 8,vB 9,vB 10]
def q3n (A:ajq) (c:Nat) (l:List jw) (most:Nat) (w:ajg) (Y:∀x∈l,x.Ok) (hr:Rd w w.heap.size 8 A (abr l) (l.flatMap Ah)) (hc:abr l<=c) (hn:abr l<=9223372036854775807) (hm:most<=1000):
    Calls abt 101 #[abo A l c,vI most] w (Ec w 214 8 (abr (ni l most)) ((ni l most).flatMap sM)):=by
 have J:abr (l.take most)<=most/\abr (l.take most)<=abr l:=by rw [abA];omega
 have r:Rd w w.heap.size 8 A (abr (l.take most)) ((l.take most).flatMap Ah):=by have h:=hr.upto (k:=abr (l.take most)) om;rw [ZU Ah 8 Uo,abA,aa8] at h;rw [abA];exact h
 have C:∀x∈l.take most,x.Ok:=λx B=>Y x (aco B)
 obtain ⟨e,p⟩:∃z,l.take most=z:=⟨_,rfl⟩
 rw [p] at r J C
 refine (iQ Tryz.func101 79) ?_
 refine (aM 1∘bg 1∘Jq∘JC (h:=by exact λb=>b.nil 214 8)∘JG∘bM 2∘Jl∘Jp 1∘Jy (v:=vI (if (most:Int)<(abr l:Int) then (most:Int) else (abr l:Int))) (h:=by exact Yl.min rfl rfl rfl)∘Jo (vI (abr e)) (by rw [<-p];exact zfo l most)∘Jy (h:=by exact aah zpy (j:=abr e) rfl rfl rfl om)∘Jl∘bO 1∘JB) λa Z b=>?_
 refine qg (λR aS wS=>∃(k:Nat) (q:List bQ) (X:ajq) (I:Nat),(k<=abr e)/\(q=(e.take k).map jw.op)/\(k<=I)/\R=abr e-k/\Fr aS 79 [] (ah8 16 k 15 (abr e) [(14,abo A e c),(5,.slice X k I),(4,vN)])/\Mem w wS [.row (.slice X k I) k (q.flatMap sM) 214 8]) (m:=abr e-0) ⟨0,[],none,0,abC _,rfl,abx _,rfl,Z.sub kr,b.pk [0]⟩ ?_
 clear Z b;rintro R a w_ ⟨k,q,X,I,hk,K,L,rfl,Z,b⟩
 refine Jb Z b ((cB 1∘JQ) (Ji (λD=>?_) λD=>?_))
 ·
  have s:k<abr e:=by omega
  obtain ⟨x,B⟩:∃z,e.getD k jw.zero=z:=⟨_,rfl⟩
  have d:x.Ok:=by rw [<-B];exact C _ (qf jw.zero s)
  have hx1:=d.kind;have hx2:=d.cpu;have hx3:=d.task;have hx4:=d.group;have hx5:=d.to;have hx6:=d.weight;have hx7:=d.ticks;have hx8:=d.mask
  have hp1:1<=2^ (1+x.to%4):=Nat.one_le_two_pow
  have M:=q9h (show 1+x.to%4<=4 by omega)
  have N:=q9h (show x.cpu%4<=4 by omega)
  refine (eP∘JP) ?_
  obtain ⟨gA,oA,rfl,_⟩:=r.sat k
  refine (iF k 8∘qM jw.cells Uo r ziv k jw.zero∘Jo (.agg x.cells) (by rw [B])∘JA #[vB 0,vB 0,vB 0,vB 0,vB 0,.int .u16 0,vW 0,vB 0]) λw7 S=>(JV ziv aN (h1:=by exact zmb x)) λT=>(bU∘Jr∘Jg 1 O0∘Jw .i64∘Jp 1∘Jo (vI (x.cpu%4:Nat)) (by exact zi .i64 _ 4)∘Jg 2 O0∘Jw .i64∘Jp 1∘Jo (vI (x.task%12:Nat)) (by exact zi .i64 _ 12)∘Jp 1∘Jo (vI (1+(x.task%12):Nat)) (by exact q7 om om)∘Jg 3 O0∘Jw .i64∘Jp 1∘Jo (vI (x.group%6:Nat)) (by exact zi .i64 _ 6)∘Jg 4 O0∘Jw .i64∘Jp 1∘Jo (vI (x.to%4:Nat)) (by exact zi .i64 _ 4)∘Jg 5 O0∘Jw .i64∘Jp 1∘Jo (vI (1+x.weight:Nat)) (by exact q7 om om)∘Jg 6 O0∘Jp 1∘Jo (vW (x.ticks%16777216:Nat)) (by exact zi .u32 _ 16777216)∘Jw .i64∘Jp 1∘Jo (vI (1+(x.ticks%16777216):Nat)) (by exact q7 om om)∘Jg 7 O0∘Jw .u64∘fu #[vB 0,vI (x.cpu%4:Nat),vI (1+(x.task%12):Nat),vI (x.group%6:Nat),vI (1+x.weight:Nat),vI (x.to%4:Nat),vI (1+(x.ticks%16777216):Nat),vQ x.mask]∘JA #[vB 0,vI 0,vI 0,vI 0,vI 0,vI 0,vI 0,vQ 0]) λw8 U=>(JV nC aN) λO=>(aI∘Jj∘JQ∘JP∘Jg 7 O1∘Jp 1∘Jo (vB (x.mask%4:Nat)) (by exact zi .u8 _ 4)∘Jp 1∘bU∘Jj) (Ji (λE=>?_) λE=>?_)
  ·
   have t:x.BH=(1*2^ (1+x.to%4)-1)|||1*2^ (x.cpu%4):=by unfold jw.BH;rw [if_pos om]
   refine (JT∘JP∘Jg 5 O0∘Jp 1∘Jo (vI (1+(x.to%4):Nat)) (by exact q7 om om)∘Jy (v:=vQ (1*2^ (1+(x.to%4)):Nat)) (h:=by exact aaC (m:=1) (n:=(1+(x.to%4))) rfl rfl rfl (by show _<=64;omega) (M))∘zG 1∘Jf 7∘JW aN wo) λV=>(qL∘Jj∘Vs .n [7]) λOq=>(Vf 0 7∘Vf 2 1∘Vc 1 O0∘Vc 3 O0∘Vy 4 (v:=vQ (1*2^ (x.cpu%4):Nat)) (h:=by exact aaC (m:=1) (n:=(x.cpu%4)) rfl rfl rfl (by show _<=64;omega) (N))∘Vp [5]∘Vo (vQ ((1*2^ (1+(x.to%4))-1)|||(1*2^ (x.cpu%4)):Nat)) (by exact X6 (m:=1*2^ (1+(x.to%4))-1) (n:=1*2^ (x.cpu%4)) om om)∘Vf 6 7) λa Z b HS=>?_
   refine s_on Z 7 rfl (eU Z b 0 λW b=>?_)
   refine dR kr ?_
   refine qe kr ?_
   refine Jb Z b ((JG∘JP∘Jy (v:= .agg ajd) (h:=by exact aay (n:=20) (sz:=1) (vs:=((0,vB 1)::(1,vB 1)::(2,vB 1)::(3,vB 2)::(4,vB 2)::aiX [])) rfl rfl kr kr)∘Jg 0 O1∘Jp 1∘Jo (vB (x.kind%20:Nat)) (by exact zi .u8 _ 20)∘Jy (v:=vB (jX.getD (x.kind%20) 0)) (h:=by exact Yl.zjr (m:=20) (y:=x.kind%20) rfl rfl rfl kr om (qzt om))∘Jf 0∘JW aN aN) λF=>(jh∘Jj∘JR∘Jp 1∘Jy (v:= .agg #[vB (jX.getD (x.kind%20) 0),vI (x.cpu%4:Nat),vI (1+(x.task%12):Nat),vI (x.group%6:Nat),vI (1+x.weight:Nat),vI (x.to%4:Nat),vI (1+(x.ticks%16777216):Nat),vQ ((1*2^ (1+(x.to%4))-1)|||(1*2^ (x.cpu%4)):Nat)]) (h:=by exact Pe rfl rfl nC rfl (λ_ h=>qj (h.blk (i:=0) rfl)))∘Jo (.agg x.op.cells) (by unfold bQ.cells jw.op;rw [t];try rfl)∘JU tK x.op.cells) λP u=>(JD ([x.op].flatMap sM) 3 (λ_ _=>oI) tK (hr:=by exact λb=>b.bE (i:=0) (n:=1) (size:=8) rfl rfl) (h1:=by exact q9e _)) λQ f g o=>(Jp 1∘aI∘Jq∘JC (h:=by exact λb=>b.dw (i:=3) (ys:=(q++[x.op]).flatMap sM) rfl (by rw [abZ]))∘JC (h:=by exact λb=>(show Mem w _ (.blk u x.op.cells 214::ai6 U x.kind x.cpu x.task x.group x.weight x.to x.ticks ((1*2^ (1+(x.to%4))-1)|||(1*2^ (x.cpu%4)):Nat) S x.cells f k g ((q++[x.op]).flatMap sM) []) from b))∘JG∘JR∘dx 1∘Jp 1∘aL∘Jq) λa Z b=>?_)
   exact ⟨_,om,k+1,(q++[x.op]),f,g,by omega,by rw [K,yM jw.zero s,B,abW];rfl,o,rfl,Z.sub kr,b.pk [3]⟩
  have t:x.BH=x.mask:=by unfold jw.BH;rw [if_neg om]
  refine (aP∘JP∘Jy (v:= .agg ajd) (h:=by exact aay (n:=20) (sz:=1) (vs:=((0,vB 1)::(1,vB 1)::(2,vB 1)::(3,vB 2)::(4,vB 2)::aiX [])) rfl rfl kr kr)∘Jg 0 O1∘Jp 1∘Jo (vB (x.kind%20:Nat)) (by exact zi .u8 _ 20)∘Jy (v:=vB (jX.getD (x.kind%20) 0)) (h:=by exact Yl.zjr (m:=20) (y:=x.kind%20) rfl rfl rfl kr om (qzt om))∘Jf 0∘JW aN aN) λF=>(qL∘Jj∘JR∘Jp 1∘eF nC O0∘Jo (.agg x.op.cells) (by unfold bQ.cells jw.op;rw [t];try rfl)∘JU tK x.op.cells) λP u=>(JD ([x.op].flatMap sM) 3 (λ_ _=>oI) tK (hr:=by exact λb=>b.bE (i:=0) (n:=1) (size:=8) rfl rfl) (h1:=by exact q9e _)) λQ f g o=>(Jp 1∘fK∘Jq∘JC (h:=by exact λb=>b.dw (i:=3) (ys:=(q++[x.op]).flatMap sM) rfl (by rw [abZ]))∘JC (h:=by exact λb=>(show Mem w _ (.blk u x.op.cells 214::ai6 U x.kind x.cpu x.task x.group x.weight x.to x.ticks x.mask S x.cells f k g ((q++[x.op]).flatMap sM) []) from b))∘JG∘JR∘dx 1∘Jp 1∘aL∘Jq) λa Z b=>?_
  exact ⟨_,om,k+1,(q++[x.op]),f,g,by omega,by rw [K,yM jw.zero s,B,abW];rfl,o,rfl,Z.sub kr,b.pk [3]⟩
 have G:k=abr e:=by omega
 have H:q=ni l most:=by rw [K,G,adb,<-p];rfl
 exact (JF∘JX∘JG∘aM 2∘aL∘aQ∘aW) λb=>q9i H (by rw [H,qo5,p,<-G]) (b.own (i:=0) rfl) L b.below
def zfq (b:o.Ok) (h:GoodS s):GoodS (tF s o).1:=by
 by_cases a:(dM s o).2.2=0
 ·rw [Un a];exact (Tt b h a).rise
 ·rw [Um a];exact h
theorem zfr (a:o.Ok) (h:GoodS s) (hr:lM s=true):lM (tF s o).1=true:=by grind [Um,Un,q23,dM,Tt]
def zfs {cp:Int} {gs:List Gr} (h1:1<=cp/\cp<=64) (u:cr<=1099511627776) (s:dO gs=true) (v:∀g∈gs,g.Ok):GoodS (newS cp cr gs)/\lM (newS cp cr gs)=true:=by
 obtain ⟨c,rfl⟩:∃c:Nat,cp=(c:Int):=⟨cp.toNat,by omega⟩
 have m:∀g,g<abr gs->(newS (c:Int) cr gs).sp.getD g []=abG c Sp.zero:=λg a=>by
  show (abG (abr gs) (abG ((c:Int)).toNat Sp.zero)).getD g []=_
  rw [abw,agj,if_pos a]
  rfl
 have k:∀g o,(newS (c:Int) cr gs).spot g o=Sp.zero:=λg o=>by
  unfold bI.spot
  rcases ab0 g (abr gs) with a|a
  ·rw [m g a,abw,agj]
   split<;>rfl
  ·rw [show (newS (c:Int) cr gs).sp.getD g []=[] by
    show (abG (abr gs) _).getD g []=_
    rw [abw,adp (by rw [ab8];exact a)];rfl]
   rfl
 have hz:(Sp.zero).Ok:=⟨by decide,by decide,by decide⟩
 have e:(newS (c:Int) cr gs).sp.length=abr gs:=ab8 ..
 have b:GoodS (newS (c:Int) cr gs):=by
  refine ⟨⟨⟨by show aX (c:Int);unfold aX;omega,by show cr<_;omega,v,λx f=>?_,λx f=>?_,λx f=>(by cases f),λl w x f=>?_⟩,h1,u,s,?_,?_,e,λo p=>?_,λg a=>?_,λg o a _=>?_,λi j _ y=>absurd y (Nat.not_lt_zero _),λt ht=>(by cases ht)⟩,λd q=>?_⟩
  ·rw [ac3 f];unfold aX;decide
  ·rw [ac3 f];unfold aX;decide
  ·rw [ac3 w] at f
   rw [ac3 f];exact hz
  ·show (abr (abG ((c:Int)).toNat (0:Int)):Int)=(c:Int);rw [ab8];rfl
  ·show (abr (abG ((c:Int)).toNat (0:Int)):Int)=(c:Int);rw [ab8];rfl
  ·have:(newS (c:Int) cr gs).cl.getD o 0=0:=ac3 (qf 0 p)
   rw [this];decide
  ·rw [e] at a;rw [m g a,ab8];rfl
  ·rw [k]
   rw [e] at a
   unfold fq
   have r:=qR s a
   rw [abH]
   refine ⟨?_,by simp [Sp.zero]⟩
   unfold cO
   rw [decide_eq_true_eq]
   exact ⟨r.1,r.2,by show ((0:Nat):Int)<_;have:=r.1;show (0:Int)<(gs.getD g Gr.zero).weight;omega,.inr rfl⟩
  ·exact .inl (ac3 (qf 0 q))
 refine ⟨b,?_⟩
 unfold lM
 rw [(Oh b.sh.ok).2 b.sh,acj]
 refine wI λd q=>?_
 rw [(Oi b.sh.sort).2 b.cur d q,acj]
 refine wI λg a=>?_
 have hm:aU (newS (c:Int) cr gs) g d=[]:=by
  have key:∀n g,abr gs-g<=n->aU (newS (c:Int) cr gs) g d=[]:=by
   intro n
   induction n with
   |zero=>
    intro g a
    rw [NH,e,acu (by rw [List.length_range];omega)]
    rfl
   |succ n z=>
    intro g a
    rw [NH,show (newS (c:Int) cr gs).ts=[] from rfl]
    rw [List.filterMap_nil,List.nil_append,List.filterMap_eq_nil_iff]
    intro h A
    obtain ⟨i,hi,rfl⟩:=acn A
    rw [List.getElem_drop,List.getElem_range]
    unfold lV
    rw [if_neg]
    rintro ⟨_,B⟩
    exact absurd (z (g+1+i) om) (by simpa using B)
  exact key _ g (abx _)
 unfold kY
 rw [decide_eq_true_eq]
 exact .inl hm
def zmc {cp:Int} {gc:Nat} {gs:List Gr} (h:(⟨cp,cr,gA,gc,gs,none,0,[],none,0,[],none,0,[],none,0,[]⟩:aF).ay.Ok/\abr gs<=1000000/\gL (⟨cp,cr,gA,gc,gs,none,0,[],none,0,[],none,0,[],none,0,[]⟩:aF).ay=true) (hr:Rd w w.heap.size 2 gA (abr gs) (gs.flatMap fU)):Calls abt 99 #[.agg #[vI cp,vQ cr,.slice gA (abr gs) gc]] w (zit w (newS cp cr gs)):=
 (zl9 cp cr gA gc gs w h.1 h.2.1 hr).mono λr a k=>by unfold oU at k;rwa [if_pos h.2.2] at k
def zmd {cp:Int} {gA:ajq} {gc:Nat} {gs:List Gr} (h1:1<=cp/\cp<=64) (c:cr<=1099511627776) (b:dO gs=true) (d:∀g∈gs,g.Ok):(⟨cp,cr,gA,gc,gs,none,0,[],none,0,[],none,0,[],none,0,[]⟩:aF).ay.Ok/\abr gs<=1000000/\gL (⟨cp,cr,gA,gc,gs,none,0,[],none,0,[],none,0,[],none,0,[]⟩:aF).ay=true:=by
 have f:=(qt b).2.1
 refine ⟨⟨by show aX cp;unfold aX;omega,by show cr<_;omega,d,λx a=>(by cases a),λx a=>(by cases a),λx a=>(by cases a),λl e=>(by cases e)⟩,by omega,?_⟩
 unfold gL
 rw [abH,decide_eq_true_eq]
 exact ⟨⟨h1.1,h1.2,c⟩,b⟩
section
variable {W w:ajg} {F T:List ajr} {x:aF} {gm:Nat}
def Ur (n:Nat) (b:Mem W w F) (c:F.drop n=nD gm x++T) (a:GoodS x.ay) {o:bQ} (d:o.Ok):Calls abt 102 #[vP gm 0,.agg o.cells] w (kR W gm (F.take n++T) (tF x.ay o)):=
 zfk W w x gm _ _ _ _ _ (Oj a.sh) a o d _ (b.front n c)
def zme (n:Nat) (a:Mem W w F) (b:F.drop n=nD gm x++T) (c:GoodS x.ay):Calls abt 103 #[vP gm 0] w (q88 w x):=
 q9c x gm w (Oj c.sh).few (a.Kw n b) (a.Ed n b)
end
section
variable {W w w':ajg} {F T A B G:List ajr} {x y:aF} {gm:Nat} {s:bI}
theorem Mem.xw (n:Nat) (h:Mem W w F) (k:Mem w w' G) (b:F.drop n=T):Mem W w' (F.take n++(G++T)):=by
 have a:=h.qX k
 rw [<-ab1 n F,b,aby] at a
 exact a.perm (List.Perm.append_left _ List.perm_append_comm)
def Us (n:Nat) (a:Mem W w F) (b:F.drop n=nD gm x++T) (hs:x.ay=s) (c:GoodS s) {o:bQ} (d:o.Ok):Calls abt 102 #[.pointer (some ⟨gm,0,none⟩),.agg o.cells] w (kR W gm (F.take n++T) (tF s o)):=by
 subst hs
 exact Ur n a b c d
def Kz (w:ajg) (s:bI) (r:ajk) (w':ajg):Prop:=∃y:aF,r= .returned (.tuple #[.agg y.cells,.int .i64 0])/\y.ay=s/\gD y/\Mem w w' (jV y)
def zmf (n:Nat) (a:Mem W w F) (b:F.drop n=nD gm x++T) (hs:x.ay=s) (c:GoodS s):Calls abt 103 #[.pointer (some ⟨gm,0,none⟩)] w (Kz w s):=by
 subst hs
 exact (zme n a b c).mono λr w' ⟨y,d,e,f,g⟩=>⟨y,d,NV e,f,g⟩
end
def dQ.new (n:dQ):bI:=newS (n.cp:Int) n.aj n.gs
theorem BJ {gs:List Gr} (h:dO gs=true):∀g∈gs,g.Ok:=λx b=>by
 obtain ⟨g,a,rfl⟩:=wY Gr.zero b
 have d:=qR h a
 have e:=(qt h).2.1
 refine ⟨?_,by unfold aX;omega⟩
 rcases ach g with rfl|c
 ·rw [(qt h).2.2.1];unfold aX;decide
 ·have:=ND ((qt h).2.2.2 g a) c
  unfold fA at this
  unfold aX;omega
theorem dQ.good {n:dQ} (h:n.Ok):GoodS n.new/\lM n.new=true:=by
 have a:=dQ.right h
 have b:=h.aj
 exact zfs (by unfold dQ.cp;omega) om a.1 (BJ a.1)
theorem dQ.cfg {n:dQ} {gA:ajq} {gc:Nat} (h:n.Ok):(⟨(n.cp:Int),n.aj,gA,gc,n.gs,none,0,[],none,0,[],none,0,[],none,0,[]⟩:aF).ay.Ok/\abr n.gs<=1000000/\gL (⟨(n.cp:Int),n.aj,gA,gc,n.gs,none,0,[],none,0,[],none,0,[],none,0,[]⟩:aF).ay=true:=by
 have a:=dQ.right h
 have b:=h.aj
 exact zmd (by unfold dQ.cp;omega) om a.1 (BJ a.1)
def q9j (l:List jw) (most:Nat):abr (ni l most)<=most:=by
 rw [qo5,abA]
 omega
def q9k {n:dQ} (h:n.Ok):n.cells.size=13:=by
 unfold dQ.cells
 rw [List.size_toArray]
 simp [h.pl,h.wl]
def fQ (m:Int) (l:List Tk):Prop:=∀t∈l,t.id<=m
section
variable {s:bI} {o:bQ} {m:Int} {l:List Tk} {t':Tk} {i:Nat}
theorem F3 (h:fQ m l) (ht:t'.id=(l.getD i Tk.zero).id):fQ m (l.set i t'):=λt hm=>by
 rcases ab0 i (abr l) with a|a
 ·rcases ab4 hm with b|rfl
  ·exact h t b
  ·rw [ht];exact h _ (qf Tk.zero a)
 ·rw [List.set_eq_of_length_le a] at hm
  exact h t hm
def q0l (h:fQ m s.ts) (to:Int):fQ m (jK s i to).ts:=by
 unfold jK
 dsimp only
 split
 ·rw [(DK _ _ _).ts];exact F3 h rfl
 ·exact F3 h rfl
theorem qus (h:fQ m s.ts):fQ m (tC s o).1.ts:=by grind [fQ,Tk.zero,fidx,F3,tC,List.eraseIdx,List.mem_of_mem_eraseIdx]
def zgr (b:o.task<=m) (h:fQ m s.ts):fQ m (dM s o).1.ts:=by
 unfold dM
 split
 ·unfold zS
  repeat' split
  all_goals first|exact h|skip
  show fQ m (iw _ _ _).ts
  rw [(DK _ _ _).ts]
  intro t ht
  rcases acg.1 ht with a|a
  ·exact h t ((List.takeWhile_sublist _).subset a)
  ·rcases abX.1 a with rfl|c
   ·exact b
   ·exact h t ((List.dropWhile_sublist _).subset c)
 ·unfold zU
  repeat' split
  all_goals first|exact h|skip
  show fQ m (iw _ _ _).ts
  rw [(DK _ _ _).ts]
  exact F3 h rfl
 ·exact qus h
 ·exact qus h
 ·unfold jU
  repeat' split
  all_goals first|exact h|skip
  show fQ m (qV _ _ _ _ _).ts
  rw [(Te _ _ _ _ _).ts]
  exact F3 h rfl
 ·unfold kZ
  split<;>exact h
 ·unfold zV
  repeat' split
  all_goals first|exact h|exact F3 h rfl
 ·unfold zW
  repeat' split
  all_goals exact h
 ·unfold zX
  repeat' split
  all_goals first|exact h|exact q0l h _
 ·unfold wP
  repeat' split
  all_goals first|exact h|exact q0l h _
 ·exact h
def zqk (a:o.task<=m) (h:fQ m s.ts):fQ m (tF s o).1.ts:=by
 unfold tF
 split
 ·exact h
 ·exact zgr a h
end
def qxr {l:List jw} {most:Nat}:∀o∈ni l most,o.task<=12:=λo a=>by
 obtain ⟨x,b,rfl⟩:=ab7.1 a
 show ((1+x.task%12:Nat):Int)<=12
 omega
structure dN (a:dG):Prop where
 rG:dP a=0
 ok:a.st.ay.Ok
 few:cZ a.st
 cap:gD a.st
def zm9 {q:aF} {nx:Int} (c:q.ay=s) (d:GoodS s) (e:lM s=true) (f:1<=nx/\nx<=281474976710657) (hc:gD q):dN ⟨nx,q⟩:=by
 subst c
 have h:=Oj d.sh
 exact ⟨qtk (by show ¬(nx<1\/281474976710657<nx);omega) e,h.ok,h.few,hc⟩
def zjg (w:ajg) (x:Int) (r:ajk) (c:ajg):Prop:=∃a:dG,r= .returned (.tuple #[.agg a.cells,.bool true])/\dN a/\GoodS a.st.ay/\fQ 12 a.st.ts/\(0<=x/\x<281474976710657->a.next=1+x)/\Mem w c (jV a.st)
def zna {q:aF} {nx x:Int} (c:q.ay=s) (d:GoodS s) (e:lM s=true) (f:fQ 12 s.ts) (g:1<=nx/\nx<=281474976710657) (hc:gD q) (h:0<=x/\x<281474976710657->nx=1+x) (hm:Mem w W (jV q)):zjg w x (.returned (.tuple #[.agg (dG.cells ⟨nx,q⟩),.bool true])) W:=
 ⟨⟨nx,q⟩,rfl,zm9 c d e g hc,by subst c;exact d,by subst c;exact f,h,hm⟩
section
variable {a b:dG} {w:ajg} {B:Nat}
def dN.sh (h:dN a):GoodS a.st.ay:=q24 h.ok (Bz h.rG).2
theorem znb:∀l:List Nat,abr l<=abr (l.flatMap ak):=by intro x;induction x<;>grind [HV]
def dN.len (h:dN a):15<=abr (aY (bS a))/\abr (aY (bS a))<=6000007:=by
 refine ⟨?_,SB (Fu h.rG)⟩
 have S:=h.sh.sh
 have c:1<=a.st.au:=S.au.1
 have d:(abr a.st.cl:Int)=a.st.au:=S.cl
 have e:(abr a.st.cu:Int)=a.st.au:=S.cu
 have f:1<=abr a.st.gs:=(qt S.gs).1
 have g:abr a.st.rs=abr a.st.gs:=by rw [<-wT];exact S.sp
 have j:((a.st.rs.getD 0 Rw.zero).l.length:Int)=a.st.au:=by rw [<-BA (show 0<abr a.st.rs by omega)];exact S.rows 0 (by show 0<abr (jF a.st);rw [wT];omega)
 have k:1<=abr (aJ a 6):=by
  show 1<=abr (dV (abr a.st.rs) _)
  refine adg ?_ (Sz (i:=1) om)
  rw [qy,Dq]
  show 1<=abr (lu 0 (a.st.rs.getD 0 Rw.zero).l)
  unfold lu
  refine adg ?_ (Sz (i:=1) om)
  rw [qy,Dq,Dt de]
  exact abx _
 have m:=znb (eY a)
 have n:8<=abr (eY a):=by
  rw [Dz]
  simp only [abu]
  have o:abr (aJ a 0)=1:=rfl
  have e1:abr (aJ a 1)=3:=rfl
  have e3:abr (aJ a 3)=abr a.st.cl:=abz ..
  have e4:abr (aJ a 4)=abr a.st.cu:=abz ..
  have e5:1<=abr (aJ a 5):=by show 1<=abr (_::_:List Nat);rw [abS];omega
  omega
 rw [qI,IX]
 omega
end
def Ml (x:Int): -281474976710657<af3 x 281474976710657/\af3 x 281474976710657<281474976710657:=⟨Int.lt_tmod_of_pos x de,Int.tmod_lt_of_pos x de⟩
def zqv (w:ajg) (x:Int) (r:ajk) (a:ajg):Prop:=(∃z:Int,r= .returned (vI z)/\0<=z/\z<281474976710657/\(0<=x/\x<281474976710657->z=x))/\Below w.heap.size w a
def zn8 {n:dQ}:fQ 12 n.new.ts:=λt ht=>by cases ht
def q4e (x:Int) (c:aX x) (w:ajg):
    Calls abt 39 #[vI x,vI 281474976710657] w (zqv w x):=by
 unfold aX at c
 have d:=Ml x
 refine (iQ Tryz.func39 16) ?_
 refine (cB 1∘JQ∘JP∘Jv 2 [(6,.bool false)]∘Jj∘aP∘aM 4∘eO∘Jj∘bM 2∘aL∘Jj) (Ji (λa=>?_) λa=>?_)
 ·
  exact (JT∘JR∘Jp 3∘Jo (vI ((af3 x 281474976710657)+281474976710657)) (by exact nN ⟨by omega,by omega⟩)∘Jp 1∘eO∘bg 2∘aL∘aQ∘aW) λb=>by exact ⟨⟨_,rfl,by have:=Ml x;omega,by have:=Ml x;omega,λh=>by have:=ag3 h.1 h.2;omega⟩,b.below⟩
 exact (aP∘aM 2∘aL∘aQ∘aW) λb=>by exact ⟨⟨_,rfl,by have:=Ml x;omega,by have:=Ml x;omega,λh=>by have:=ag3 h.1 h.2;omega⟩,b.below⟩
abbrev ah2:=λa=>(.blk a #[vI 0,vI 0,vQ 0,vN,vN,vN,vN,vN] 50:ajr)
abbrev ajc:Array ajh:=#[vI 0,vI 0,vQ 0,vN,vN,vN,vN,vN]
def q4f (n:dQ) (q:n.Ok) (A:ajq) (E:Nat) (l:List jw) (U:∀x∈l,x.Ok) (hc:abr l<=E) (F:abr l<=9223372036854775807) (nx:Int) (G:aX nx) (w:ajg) (hr:Rd w w.heap.size 8 A (abr l) (l.flatMap Ah)):
    Calls abt 42 #[.agg n.cells,abo A l E,vI nx] w (zjg w nx):=by
 have hsl:=q9j l 60
 refine (vC Tryz.func42 50) ?_
 refine (JP∘JE) λw3 g3=>(JA ajc) λw6 r=>(Jp 1∘Jr∘eF q9g O1 (hm:=by exact (q9k q))∘JK (h:=by exact λb=>q3m n q _)) λH I w16 V=>(JL (h:=by exact λb=>zmc (dQ.cfg q) (b.rd (i:=0) rfl))) ?_
 rintro b _ J ⟨d,x,rfl,D,hm⟩
 refine ⟨_,rfl,_,(show Mem w J (abq H n.gs I fU 198 2::ah2 r::.blk g3 n.cells 100::(nD d x++([]))) from b.xw 3 hm rfl),?_⟩
 refine (Jp 1∘Jx∘Jx∘bO 2∘JQ∘JP∘Jv 4 [(23,vP d 0),(22,.bool false)]∘Jy (v:= .bool false) (h:=by exact aaI rfl rfl rfl)∘Jp 1∘fK∘Jj∘aP∘bM 1∘JK (h:=by exact λb=>q3n A E l 60 _ U (b.old hr) hc F de)) λe c EX W=>(Jl∘bO 1∘JB) λa Z b=>?_
 refine qg (λX aS wS=>∃(k:Nat) (x:aF) (s:bI),(k<=abr (ni l 60))/\(x.ay=s)/\(GoodS s)/\(lM s=true)/\(fQ 12 s.ts)/\X=abr (ni l 60)-k/\Fr aS 50 [] (ah8 30 k 29 (abr (ni l 60):Nat) [(28,abo e (ni l 60) c),(25,.bool false),(8,vP d 0),(7,.bool false),(6,vP r 0),(2,vI nx)])/\Mem w wS (abq e (ni l 60) c sM 214 8::ah2 r::(nD d x++([])))) (m:=abr (ni l 60)-0) ⟨0,x,n.new,abC _,D,(dQ.good q).1,(dQ.good q).2,zn8,rfl,Z.sub kr,b.pt 4 [0,2]⟩ ?_
 clear Z b;rintro X a w_ ⟨k,x,s,hk,D,t,Y,hD,rfl,Z,b⟩
 refine Jb Z b ((cB 1∘JQ) (Ji (λu=>?_) λu=>?_))
 ·
  have B:k<abr (ni l 60):=by omega
  obtain ⟨o,ho⟩:∃z,(ni l 60).getD k bQ.zero=z:=⟨_,rfl⟩
  have f:=qf bQ.zero B
  rw [ho] at f
  have g:o.Ok:=q9f U _ f
  have K:o.task<=12:=qxr _ f
  refine (eP∘JP) ?_
  repeat (first|clear Z|clear b)
  intro a Z b
  obtain ⟨C,rfl⟩:=b.rat 0 k
  refine Jb Z b ((nP k 8∘Jy (v:= .agg (((ni l 60).getD k bQ.zero).cells)) (h:=by exact Pe rfl rfl nC rfl (λ_ h=>h.zB zma (i:=0) rfl ((getD_at bQ.zero B))))∘Jo (.agg o.cells) (by rw [ho])∘JA #[vB 0,vI 0,vI 0,vI 0,vI 0,vI 0,vI 0,vQ 0]) λvD L=>(JV nC aN (h1:=by exact zin o)) λRJ=>(bU∘Jj∘JR∘Jp 1∘eF nC O0∘JL (h:=by exact λb=>Us 3 b rfl D t g)) ?_)
  rintro b _ M ⟨y,rfl,hy,N⟩
  refine ⟨_,rfl,_,(show Mem w M (.blk L o.cells 214::.row (vS C (abr (ni l 60)) c) (abr (ni l 60)) ((ni l 60).flatMap sM) 214 8::ah2 r::(nD d y++([]))) from N.back),?_⟩
  refine (oK∘Jj∘JR∘dx 1∘Jp 1∘aL∘Jq) λa Z b=>?_
  exact ⟨_,om,k+1,y,(tF s o).1,by omega,hy,zfq g t,zfr g t Y,zqk K hD,rfl,Z.sub kr,b.pt 3 [1,2]⟩
 refine (JF∘JX∘JG∘aM 1∘JL (h:=by exact λb=>zmf 2 b rfl D t)) ?_
 rintro b _ O ⟨p,rfl,hp,j,hm⟩
 refine ⟨_,rfl,_,(show Mem w O (abq e (ni l 60) c sM 214 8::ah2 r::(jV p++(nD d x++([])))) from b.xw (T:=(nD d x++([]))) 2 hm rfl),?_⟩
 refine (Jp 1∘Jx∘Jx∘JA ai9) λyL g12=>(JV eX aN (h1:=by exact Fg p)) λawf=>(bO 1) λa Z b=>?_
 refine wp_seq ?_
 refine Jb Z b ((Vs .n [7]) λsH=>(Vq [0,5,6] [(49,.bool true),(43,vI nx)]∘nR 3 eX O0) λa Z b P=>?_)
 refine s_on Z 1 rfl ?_
 refine lT Z [vI nx,vI 281474976710657] rfl rfl (q4e nx G _) ?_
 rintro _ Rf ⟨⟨z,rfl,hz1,hz2,Q⟩,R⟩
 refine ⟨_,rfl,?_⟩
 replace b:=b.call R
 clear Z;intro a Z
 refine av (b.pt 3 [0,1,2]) (λP=>?_)
 refine Vb Z b P ((Vp [2]∘Vo (vI (1+z)) (by exact nN ⟨by omega,by omega⟩)∘Vy 4 (v:= .agg #[vI (1+z),vI p.au,vQ p.aj,abo p.gA p.gs p.gc,abo p.lA p.cl p.lc,abo p.uA p.cu p.uc,abo p.tA p.ts p.tc,abo p.sA p.rs p.sc]) (h:=by exact Yl.build (vs:=[(0,vI (1+z)),(1,.agg p.cells)]) rfl kr kr)) λa Z b P=>?_)
 refine s_on Z 7 rfl (bV Z b 2 rfl rfl rfl rfl rfl zr rfl rfl (by simp [abV]) λS b=>?_)
 refine dR kr ?_
 refine ap Z (cK kr) [8] (bt 9 []) [(7,.bool true)] λa Z=>?_
 refine qe kr ?_
 refine Jb Z b ((JZ) λa Z b=>?_)
 exact dS rfl Z (.cellS (i:=2) Z b rfl rfl zr rfl) (.tmp Z rfl) (zna (nx:=1+z) hp t Y hD ⟨by omega,by omega⟩ j (λh=>by rw [Q h]) ((b.jg 3 rfl).mJ (List.sublist_append_left ..)))
section
variable {W w:ajg} {fs:List ajr}
end
section
variable {b bk:Bs} {l:List Ev} {k:Nat} {e:Ev}
end
section
variable {b bk:Bs} {cpu m u L er:Nat} {l:List Nat} {es:List Ev} {e:Ev}
end
def gN {α:Type} (f:α->α) (l:List α) (k:Nat):List α:=(l.take k).map f++l.drop k
def V5 {α:Type} (f:α->α) (l:List α) (k:Nat):abr (gN f l k)=abr l:=by
 unfold gN
 rw [abu,abz,abA,abE]
 omega
def q30 {α:Type} (f:α->α) (l:List α):gN f l 0=l:=by simp [gN]
def FX {α:Type} (f:α->α) (l:List α) {k:Nat} (d:α) (h:k<abr l):(gN f l k)[k]?=some (l.getD k d):=by
 unfold gN
 rw [adR (by rw [abz,abA];omega),abz,abA,ac9 om,ad5,List.getElem?_drop,abw,Nat.add_zero,abv h]
 rfl
def q31 {α:Type} (f:α->α) (l:List α) {k:Nat} (d:α) (h:k<abr l):(gN f l k).set k (f (l.getD k d))=gN f l (k+1):=by
 unfold gN
 have a:abr (l.take k)=k:=by rw [abA];omega
 have b:l.drop k=l.getD k d::l.drop (k+1):=by
  rw [abw,abv h]
  exact acv h
 have ht:l.take (k+1)=l.take k++[l.getD k d]:=by
  rw [List.take_succ_eq_append_getElem h,abw,abv h]
  rfl
 rw [aeY,if_neg (by rw [abz];omega),abz,a,ad5,b,aeS,ht,abW,aby]
 rfl
structure It where
 e:Ev
 before:Int
section
variable {cpu:Nat} {l:List It} {opn limit:Int}
end
def Fb:EI abt 51 85 (.agg #[.int .u8 0,.int .u8 0,.int .i64 0,.int .i64 0,.slice none 0 0]) 5 48:=⟨by kernel_rfl,by kernel_rfl,rfl,by omega⟩
theorem H9 {α:Type} {l:List α} (d:α) (h:k<abr l):l.drop k=l.getD k d::l.drop (k+1):=by
 rw [acv h,abw,abv h]
 rfl
section
open Go.ChangeShapes Go.WideShapes Go.ChangeAt
section
variable {H:Type} {enc:ajj×ajh->H} {P:aji} {W:ajg} {sp:Nat->Bool} {held:Bool}
def flat_get {sz:Nat}:∀(a:List (List ajh)),(∀l∈a,abr l=sz)->∀p u,(a.flatMap id)[p]?=some u->∃i j,∃hi:i<abr a,j<sz/\p=i*sz+j/\a[i][j]?=some u:=by
 intro a
 induction a with
 |nil=>intro _ p u h;simp at h
 | cons l r f =>
  intro h p u b
  have c:=h l (by simp)
  rw [abO] at b
  by_cases g:p<sz
  ·rw [adU (by simp only [id];omega)] at b
   exact ⟨0,p,by simp,g,by omega,b⟩
  ·rw [adR (by simp only [id];omega)] at b
   simp only [id] at b
   rw [c] at b
   obtain ⟨i,j,hi,k,m,e⟩:=f (λy n=>h y (by simp [n])) _ u b
   exact ⟨i+1,j,by simp;omega,k,by rw [adK];omega,by simpa using e⟩
def q6p {sz:Nat}:∀(a:List (List ajh)),(∀l∈a,abr l=sz)->abr (a.flatMap id)=abr a*sz:=by
 intro a
 induction a with
 |nil=>simp
 |cons l r b=>intro h;rw [abO,abu,b (λy c=>h y (by simp [c])),abS,adK];have:=h l (by simp);simp only [id];omega
def Nv {α:Type} (f:α->List ajh) (Ok:α->Prop) {t e:ajj} {sz:Nat} (ht:P.underlying t=some (.slice e)) (D:P.cellsOf e=sz) (Q:0<sz) (K:∀x,abr (f x)=sz)
  (R:∀m l y,adO enc P W 0 sp held m e l=some y->∃x,f x=l/\Ok x) {g:Nat} {r:List ajh} {x:DataW H×List MemPlace} (h:adO enc P W 0 sp held g t r=some x):
  ∃(A:ajq) (c:Nat) (l:List α),r=[.slice A (abr l) c]/\abr l<=c/\c<=maxLen/\(∀x∈l,Ok x)/\Rd W W.heap.size sz A (abr l) (l.flatMap f):=by
 rcases DataW.trod_slice ht h with ⟨hc,_⟩|⟨a,len,cap,b,L,m,_,hc,_,_,U,hm,M,E,_⟩
 ·exact ⟨none,0,[],hc,abx _,by unfold maxLen;omega,by simp,Rd.nil⟩
 ·have s:∀i,i<len->∃x:α,W.cells? 0 (a.add (i*sz)) sz=some (f x)/\Ok x:=by
   intro i hi
   have n:=E i hi
   rw [D,abv (by omega:i<abr b)] at n
   obtain ⟨l,o,q⟩:=Option.bind_eq_some_iff.1 n
   obtain ⟨x,rfl,F⟩:=R _ _ _ q
   exact ⟨x,o,F⟩
  have key:∀k,k<=len->∃xs:List α,abr xs=k/\∀i (hi:i<abr xs),W.cells? 0 (a.add (i*sz)) sz=some (f xs[i])/\Ok xs[i]:=by
   intro k
   induction k with
   |zero=>intro _;exact ⟨[],rfl,λi hi=>by simp at hi⟩
   | succ k S =>
    intro V
    obtain ⟨xs,n,o⟩:=S om
    obtain ⟨x,q,N⟩:=s k om
    refine ⟨xs++[x],by simp [n],λi hi=>?_⟩
    by_cases w:i<abr xs
    ·rw [List.getElem_append_left w];exact o i w
    ·obtain rfl:i=abr xs:=by simp at hi;omega
     rw [List.getElem_append_right (abx _)]
     simp only [ad5,List.getElem_cons_zero,n]
     exact ⟨q,N⟩
  obtain ⟨xs,n,o⟩:=key len (abx _)
  have z:xs.flatMap f=(xs.map f).flatMap id:=by rw [List.flatMap_map];rfl
  have B:∀l∈xs.map f,abr l=sz:=λl G=>by obtain ⟨x,_,rfl⟩:=ab7.1 G;exact K x
  have C:∀i (hi:i<abr xs) j,j<sz->W.cell? (a.add (i*sz+j))=(f xs[i])[j]?:=by
   intro i hi j I
   have:=(World.cells?_some (o i hi).1).2.2 j I
   rwa [Xc] at this
  refine ⟨some a,cap,xs,by rw [hc,n],by omega,hm,λx F=>by obtain ⟨i,hi,rfl⟩:=acn F;exact (o i hi).2,⟨by rw [z,q6p _ B,abz],λT=>⟨a,rfl,?_,?_⟩⟩⟩
  ·have q:=C 0 T 0 Q
   have N:=K xs[0]
   rw [abv om] at q
   have:=World.block_lt_of_cell? W _ q
   simpa [Addr.add] using this
  ·intro p u O
   rw [z] at O
   obtain ⟨i,j,hi,I,rfl,J⟩:=flat_get _ B p u O
   rw [abz] at hi
   rw [C i hi j I,<-J,List.getElem_map]
end
section
variable {H:Type} {enc:ajj×ajh->H} {W:ajg} {b0:Nat} {v:ajh} {d:DataW H} {p:List MemPlace}
end
end
section
open Go.ChangeShapes Go.WideShapes Go.ChangeAt
section
variable {H:Type} {enc:ajj×ajh->H} {P:aji} {W:ajg} {sp:Nat->Bool} {held:Bool}
def Ut:ajh->Int
 | .int _ z=>z
 |_=>0
def qzu {t e:ajj} {k:acB} (ht:P.underlying t=some (.array n e)) (j:P.underlying e=some (.int k)) (hc:P.cellsOf e=1) (l:P.cellsOf t=n) {c:Nat} {L:List ajh} {d:DataW H} {p:List MemPlace} (o:adO enc P W 0 sp held c t L=some (d,p)):
  ∃b:List Int,abr b=n/\L=b.map (abT k)/\∀z∈b,(ae1 k z).wf=true:=by
 obtain ⟨xs,m,_,_,f,x,q⟩:=DataW.trod_array ht o
 rw [l] at f
 have h:∀i,i<n->∃z:Int,L[i]?=some (.int k z)/\(ae1 k z).wf=true:=λi hi=>by
  have g:=q i hi
  rw [hc,ac5,abv om] at g
  obtain ⟨z,r,_,s⟩:=aej j g
  exact ⟨z,vT r,s⟩
 refine ⟨L.map Ut,by rw [abz,f],Gg (by rw [abz,abz]) λi hi=>?_,λz hz=>?_⟩
 ·rw [abz,abz] at hi
  obtain ⟨z,a,_⟩:=h i om
  rw [List.map_map,acQ,a]
  rfl
 ·obtain ⟨v,u,rfl⟩:=ab7.1 hz
  obtain ⟨i,hi,rfl⟩:=acn u
  obtain ⟨z,a,w⟩:=h i om
  rw [abv hi] at a
  injection a with a
  rw [a]
  exact w
end
def Uu:List acB:=[.u8,.u8,.u8,.u8,.u8,.u16,.u32,.u8]
def q3o:Gf abt 275 Uu=true:=by kernel_rfl
def zft:Tryz.prog.underlying 101=some (.slice 275):=by kernel_rfl
def q3p:Tryz.prog.cellsOf 275=8:=by kernel_rfl
def q3q (w:abr r=abr Uu) (h:∀(i:Nat) (k:acB),Uu[i]?=some k->∃z:Int,r[i]?=some (abT k z)/\(ae1 k z).wf=true):∃x:jw,Ah x=r/\x.Ok:=by
 obtain ⟨z0,y,a⟩:=h 0 .u8 rfl
 have a:=je a
 obtain ⟨b,A,c⟩:=h 1 .u8 rfl
 have c:=je c
 obtain ⟨e,B,f⟩:=h 2 .u8 rfl
 have f:=je f
 obtain ⟨g,C,j⟩:=h 3 .u8 rfl
 have j:=je j
 obtain ⟨l,D,m⟩:=h 4 .u8 rfl
 have m:=je m
 obtain ⟨n,E,o⟩:=h 5 .u16 rfl
 have o:=MG o
 obtain ⟨q,F,s⟩:=h 6 .u32 rfl
 have s:=vk s
 obtain ⟨t,G,u⟩:=h 7 .u8 rfl
 have u:=je u
 refine ⟨⟨z0.toNat,b.toNat,e.toNat,g.toNat,l.toNat,n.toNat,q.toNat,t.toNat⟩,?_,⟨by show z0.toNat<_;omega,by show b.toNat<_;omega,by show e.toNat<_;omega,by show g.toNat<_;omega,by show l.toNat<_;omega,by show n.toNat<_;omega,by show q.toNat<_;omega,by show t.toNat<_;omega⟩⟩
 refine Gg (by rw [w];rfl) λi hi=>?_
 have I:i<8:=by rw [w] at hi;exact hi
 have hc:i=0\/i=1\/i=2\/i=3\/i=4\/i=5\/i=6\/i=7:=by omega
 rcases hc with rfl|rfl|rfl|rfl|rfl|rfl|rfl|rfl
 ·rw [y];show some (abT .u8 ((z0.toNat:Nat):Int))=_;rw [abU a.1]
 ·rw [A];show some (abT .u8 ((b.toNat:Nat):Int))=_;rw [abU c.1]
 ·rw [B];show some (abT .u8 ((e.toNat:Nat):Int))=_;rw [abU f.1]
 ·rw [C];show some (abT .u8 ((g.toNat:Nat):Int))=_;rw [abU j.1]
 ·rw [D];show some (abT .u8 ((l.toNat:Nat):Int))=_;rw [abU m.1]
 ·rw [E];show some (abT .u16 ((n.toNat:Nat):Int))=_;rw [abU o.1]
 ·rw [F];show some (abT .u32 ((q.toNat:Nat):Int))=_;rw [abU s.1]
 ·rw [G];show some (abT .u8 ((t.toNat:Nat):Int))=_;rw [abU u.1]
section
variable {H:Type} {enc:ajj×ajh->H} {W:ajg} {b0:Nat} {v:ajh} {d:DataW H} {p:List MemPlace}
def zfu {x:DataW H×List MemPlace} (a:adO enc abt W 0 (λ_=>true) true c 275 r=some x):∃e:jw,Ah e=r/\e.Ok:=by
 obtain ⟨b,f⟩:=Qd q3o a
 exact q3q b f
def nf0:fieldAt abt 100 0 0 5=true:=by kernel_rfl
def nf1:fieldAt abt 100 1 1 5=true:=by kernel_rfl
def nf2:fieldAt abt 100 2 2 61=true:=by kernel_rfl
def nf3:fieldAt abt 100 3 3 97=true:=by kernel_rfl
def nf4:fieldAt abt 100 4 8 98=true:=by kernel_rfl
def qo6:Tryz.prog.cellsOf 100=13:=by kernel_rfl
def q9l:Tryz.prog.underlying 61=some (.int .u32):=by kernel_rfl
def zmg:Tryz.prog.underlying 60=some (.int .u16):=by kernel_rfl
def zpz:Tryz.prog.underlying 97=some (.array 5 5):=by kernel_rfl
def zp0:Tryz.prog.underlying 98=some (.array 5 60):=by kernel_rfl
def qzv:Tryz.prog.cellsOf 5=1:=by kernel_rfl
def q9m:Tryz.prog.cellsOf 60=1:=by kernel_rfl
def q9n:Tryz.prog.cellsOf 61=1:=by kernel_rfl
def qzw:Tryz.prog.cellsOf 97=5:=by kernel_rfl
def qzx:Tryz.prog.cellsOf 98=5:=by kernel_rfl
def Uv (k:acB):∀{a:List Int},(∀z∈a,0<=z)->a.map (abT k)=(a.map afM).map (λz:Nat=>abT k (z:Int))
 |[],_=>rfl
 |z::r,h=>by
  rw [acE,acE,acE,Uv k (λy b=>h y (ab5 _ b)),abU (h z (aci ..))]
def zfv {A B:List ajh} {a b c:ajh} (g:abr r=13) (e:r[0]?=some a) (h1:r[1]?=some b) (f:r[2]?=some c) (h:(r.drop 3).take 5=A) (i:(r.drop 8).take 5=B):r=a::b::c::(A++B):=by
 match r,g with
 |[c0,m,n,o,q,s,t,u,w,x,j,k,l],_=>
  injection e with e
  injection h1 with h1
  injection f with f
  rw [<-h,<-i,<-e,<-h1,<-f]
  rfl
def q9o {y:DataW H×List MemPlace} (a:adO enc abt W 0 (λ_=>true) true c 100 r=some y):∃n:dQ,n.cells.toList=r/\n.Ok:=by
 obtain ⟨e,_,D,g0⟩:=q9 nf0 a
 obtain ⟨_,_,E,g1⟩:=q9 nf1 a
 obtain ⟨_,_,F,l⟩:=q9 nf2 a
 obtain ⟨_,_,G,m⟩:=q9 nf3 a
 obtain ⟨_,_,I,o⟩:=q9 nf4 a
 rw [qo6] at e
 obtain ⟨f,g,_,q⟩:=aej EF g0
 obtain ⟨h,e1,_,s⟩:=aej EF g1
 obtain ⟨i,e2,_,t⟩:=aej q9l l
 obtain ⟨ps,u,e3,j⟩:=qzu zpz EF qzv qzw m
 obtain ⟨ws,w,e4,k⟩:=qzu zp0 zmg q9m qzx o
 rw [qzv] at g e1
 rw [q9n] at e2
 rw [qzw] at e3
 rw [qzx] at e4
 have A:=je q
 have B:=je s
 have C:=vk t
 rw [Uv _ λz hz=>(je (j z hz)).1] at e3
 rw [Uv _ λz hz=>(MG (k z hz)).1] at e4
 refine ⟨⟨f.toNat,h.toNat,i.toNat,ps.map afM,ws.map afM⟩,?_,⟨by show f.toNat<_;omega,by show h.toNat<_;omega,by show i.toNat<_;omega,by show abr (ps.map afM)=5;rw [abz,u],by show abr (ws.map afM)=5;rw [abz,w],λz hz=>?_,λz hz=>?_⟩⟩
 ·rw [zfv e (vT g) (vT e1) (vT e2) e3 e4]
  unfold dQ.cells
  dsimp only
  rw [abU A.1,abU B.1,abU C.1]
 ·obtain ⟨x,b,rfl⟩:=ab7.1 hz
  have:=je (j x b)
  omega
 ·obtain ⟨x,b,rfl⟩:=ab7.1 hz
  have:=MG (k x b)
  omega
set_option maxRecDepth 100000 in
theorem zmh (a:Value.okWide Tryz.prog W .any b0 61 v) (h:DataW.Trod enc Tryz.prog W 0 (λ_=>true) true 61 v d p):∃m:Nat,v= .int .u32 (m:Int)/\m<4294967296:=by
 obtain ⟨m,rfl,_,_,wf⟩:=open_int q9l a h
 have:=vk wf
 exact ⟨m.toNat,by rw [Int.toNat_of_nonneg this.1],by omega⟩
end
end
section
open Go.ChangeShapes Go.WideShapes Go.ChangeAt
def RO:List acB:=[.u8,.u8,.u32,.u32,.u32,.u32,.u32,.u32,.u32,.u32,.u64]
def q6v:Gf abt 280 RO=true:=by kernel_rfl
def q10:Tryz.prog.underlying 111=some (.slice 280):=by kernel_rfl
def q6w (F:abr r=abr RO) (h:∀(i:Nat) (k:acB),RO[i]?=some k->∃z:Int,r[i]?=some (abT k z)/\(ae1 k z).wf=true):∃x:Sm,tu x=r/\x.Ok:=by
 obtain ⟨z0,G,c⟩:=h 0 .u8 rfl
 have c:=je c
 obtain ⟨e,I,f⟩:=h 1 .u8 rfl
 have f:=je f
 obtain ⟨g,J,j⟩:=h 2 .u32 rfl
 have j:=vk j
 obtain ⟨l,K,m⟩:=h 3 .u32 rfl
 have m:=vk m
 obtain ⟨n,L,o⟩:=h 4 .u32 rfl
 have o:=vk o
 obtain ⟨q,M,s⟩:=h 5 .u32 rfl
 have s:=vk s
 obtain ⟨t,N,u⟩:=h 6 .u32 rfl
 have u:=vk u
 obtain ⟨w,O,y⟩:=h 7 .u32 rfl
 have y:=vk y
 obtain ⟨A,P,B⟩:=h 8 .u32 rfl
 have B:=vk B
 obtain ⟨C,Q,D⟩:=h 9 .u32 rfl
 have D:=vk D
 obtain ⟨a,E,b⟩:=h 10 .u64 rfl
 have b:=zol b
 refine ⟨⟨z0.toNat,e.toNat,g.toNat,l.toNat,n.toNat,q.toNat,t.toNat,w.toNat,A.toNat,C.toNat,a.toNat⟩,?_,⟨by show z0.toNat<_;omega,by show e.toNat<_;omega,by show g.toNat<_;omega,by show l.toNat<_;omega,by show n.toNat<_;omega,by show q.toNat<_;omega,by show t.toNat<_;omega,by show w.toNat<_;omega,by show A.toNat<_;omega,by show C.toNat<_;omega,by show a.toNat<_;omega⟩⟩
 refine Gg (by rw [F];rfl) λi hi=>?_
 have R:i<11:=by rw [F] at hi;exact hi
 have hc:i=0\/i=1\/i=2\/i=3\/i=4\/i=5\/i=6\/i=7\/i=8\/i=9\/i=10:=by omega
 rcases hc with rfl|rfl|rfl|rfl|rfl|rfl|rfl|rfl|rfl|rfl|rfl
 ·rw [G];show some (abT .u8 ((z0.toNat:Nat):Int))=_;rw [abU c.1]
 ·rw [I];show some (abT .u8 ((e.toNat:Nat):Int))=_;rw [abU f.1]
 ·rw [J];show some (abT .u32 ((g.toNat:Nat):Int))=_;rw [abU j.1]
 ·rw [K];show some (abT .u32 ((l.toNat:Nat):Int))=_;rw [abU m.1]
 ·rw [L];show some (abT .u32 ((n.toNat:Nat):Int))=_;rw [abU o.1]
 ·rw [M];show some (abT .u32 ((q.toNat:Nat):Int))=_;rw [abU s.1]
 ·rw [N];show some (abT .u32 ((t.toNat:Nat):Int))=_;rw [abU u.1]
 ·rw [O];show some (abT .u32 ((w.toNat:Nat):Int))=_;rw [abU y.1]
 ·rw [P];show some (abT .u32 ((A.toNat:Nat):Int))=_;rw [abU B.1]
 ·rw [Q];show some (abT .u32 ((C.toNat:Nat):Int))=_;rw [abU D.1]
 ·rw [E];show some (abT .u64 ((a.toNat:Nat):Int))=_;rw [abU b.1]
section
variable {H:Type} {enc:ajj×ajh->H} {W:ajg} {b0:Nat} {v:ajh} {d:DataW H} {p:List MemPlace}
def zku:Tryz.prog.underlying 60=some (.int .u16):=by kernel_rfl
set_option maxRecDepth 100000 in
theorem zkv (a:Value.okWide Tryz.prog W .any b0 60 v) (h:DataW.Trod enc Tryz.prog W 0 (λ_=>true) true 60 v d p):∃m:Nat,v= .int .u16 (m:Int)/\m<65536:=by
 obtain ⟨m,rfl,_,_,wf⟩:=open_int zku a h
 have:=MG wf
 exact ⟨m.toNat,by rw [Int.toNat_of_nonneg this.1],by omega⟩
def zd3:Tryz.prog.cellsOf 280=11:=by kernel_rfl
def zkw {x:DataW H×List MemPlace} (a:adO enc abt W 0 (λ_=>true) true c 280 r=some x):∃e:Sm,tu e=r/\e.Ok:=by
 obtain ⟨b,f⟩:=Qd q6v a
 exact q6w b f
def zd4 {x:DataW H×List MemPlace} (a:adO enc abt W 0 (λ_=>true) true m 111 r=some x):
  ∃(A:ajq) (c:Nat) (l:List Sm),r=[.slice A (abr l) c]/\abr l<=c/\c<=maxLen/\(∀x∈l,x.Ok)/\Rd W W.heap.size 11 A (abr l) (l.flatMap tu):=
 Nv tu Sm.Ok q10 zd3 de Fe (λ_ _ _ h=>zkw h) a
def Z7:Tryz.prog.cellsOf 61=1:=by kernel_rfl
def q6x:Tryz.prog.cellsOf 111=1:=by kernel_rfl
def W32 (x:Nat):ajh:= .int .u32 (x:Int)
def Z8 {x:DataW H×List MemPlace} (a:adO enc abt W 0 (λ_=>true) true c 61 r=some x):∃e:Nat,[W32 e]=r/\e<4294967296:=by
 obtain ⟨z,e1,_,b⟩:=aej Zp a
 have:=vk b
 exact ⟨z.toNat,by rw [e1];show [abT .u32 ((z.toNat:Nat):Int)]=_;rw [abU this.1],by omega⟩
theorem zkx {a b c d e f:ajh} (g:abr r=6) (j:r[0]?=some a) (h1:r[1]?=some b) (k:r[2]?=some c) (l:r[3]?=some d) (m:r[4]?=some e) (n:r[5]?=some f):r=[a,b,c,d,e,f]:=by
 refine Gg g λi hi=>?_
 have h:i<6:=hi
 have hc:i=0\/i=1\/i=2\/i=3\/i=4\/i=5:=by omega
 rcases hc with rfl|rfl|rfl|rfl|rfl|rfl<;>assumption
end
end
def qx:Nat->List Nat->List Bk×Nat×Nat
 |0,_=>([],0,0)
 | f + 1, l => if abr l = 0 then ([], 0, 0) else
  if (dK l).2.2≠0 then ([],0,(dK l).2.2) else
   ((dK l).1::(qx f (l.drop (dK l).2.1)).1,(dK l).2.1+(qx f (l.drop (dK l).2.1)).2.1,(qx f (l.drop (dK l).2.1)).2.2)
def zN (l:List Nat):List Bk×Nat×Nat:=if 524288<abr l then ([],0,3) else qx (abr l) l
def Z9 {f:Nat} (h:abr l=0):qx f l=([],0,0):=by
 cases f with
 |zero=>rfl
 |succ f=>rw [qx,if_pos h]
def qv7 {b:Bk} (d:0<f) (h:0<abr l) (a:dK l=(b,m,er)) (c:er≠0):qx f l=([],0,er):=by
 cases f with
 |zero=>omega
 |succ f=>rw [qx,if_neg om,if_pos (by rw [a];exact c),a]
def qkm {b:Bk} (c:0<f) (h:0<abr l) (a:dK l=(b,m,0)):qx f l=(b::(qx (f-1) (l.drop m)).1,m+(qx (f-1) (l.drop m)).2.1,(qx (f-1) (l.drop m)).2.2):=by
 cases f with
 |zero=>omega
 |succ f=>rw [qx,if_neg om,if_neg (by rw [a];exact λh=>h rfl),a];rfl
def qoj (W:ajg) (g:Nat) (Inv:List Nat->List ajr->Prop) (Stop:List ajr->Prop):Prop:=
 ∀(a:List Nat) (F fr:List ajr) (w:ajg) (A:ajq) (c:Nat) (b:Bk) (m d:Nat),Inv a F->dK a=(b,m,d)->0<abr a->(∀x∈a,x<256)->abr b.evs<=c->Mem W w (.row (.slice A (abr b.evs) c) (abr b.evs) (b.evs.flatMap fD) 73 11::(F++fr))->
  YieldAt Fence.wide 0 abt g #[.agg #[.int .u8 (b.kind:Int),.int .u8 (b.cpu:Int),.int .i64 b.lost,.int .i64 b.next,.slice A (abr b.evs) c,.int .i64 (m:Int)],.int .i64 (d:Int)] w λe h=>∃f,Mem W h (f++fr)/\((d=0/\e= .returned (.bool true)/\Inv (a.drop m) f)\/(d≠0/\e= .returned (.bool false)/\Stop f))
def q6y (W:ajg) (Inv:List Nat->List ajr->Prop) (Stop:List ajr->Prop) (r:ajk) (b:ajg):Prop:=∃v,r= .returned v/\∃a,Mem W b a/\(Inv [] a\/Stop a)
theorem qnp {W:ajg} {fr:List ajr} {er:Nat} {I S:List ajr->Prop}:∀(e:ajk) (b:ajg),(∃a,Mem W b (a++fr)/\((er=0/\e= .returned (.bool true)/\I a)\/(er≠0/\e= .returned (.bool false)/\S a)))->∃v,e= .returned v:=by intros;grind
def aa6 {B:Nat} (h:Rd w B 1 A (abr l) (l.map B8)) (hk:k<=abr l) (hc:abr l<=c):Rd w B 1 (if c=k then A else A.map (·.add (k*1))) (abr (l.drop k)) ((l.drop k).map B8):=by
 rw [abE]
 exact h.Gs hk hc
def zg7:SI abt 255 6:=⟨by kernel_rfl,by kernel_rfl⟩
def qxx (W w:ajg) (n q B:Nat) (A:ajq) (c:Nat) (l:List Nat) (Inv:List Nat->List ajr->Prop) (Stop:List ajr->Prop) (C:List ajr) (V:aR B W) (O:B<=W.heap.size) (hr:Rd W W.heap.size 1 A (abr l) (l.map B8)) (hc:abr l<=c) (Y:∀b∈l,b<256) (hn:abr l<=100000000)
    (hy:qoj W q Inv Stop) (D:Inv l C) (e:Mem W w (.blk n #[abo A l c] 30::C)):
    Calls abt 178 (.func (.yield q) #[] #[]:: [vP n 0]).toArray w (q6y W Inv Stop):=by
 refine nZ Tryz.func178 [.func (.yield q) #[] #[],vP n 0] [aik q,(1,vP n 0)] λa Z=>?_
 refine Jb Z e ((JB) λa Z e=>?_)
 refine qg (λP aS wS=>∃(d:List Nat) (X:ajq) (k:Nat) (F:List ajr),(Inv d F)/\(Rd W W.heap.size 1 X (abr d) (d.map B8))/\(abr d<=k)/\(∀b∈d,b<256)/\(abr d<=abr l)/\P=abr d/\Fr aS 29 [] [aik q,(1,vP n 0)]/\Mem W wS (.blk n #[abo X d k] 30::F)) (m:=abr l) ⟨l,A,c,C,D,hr,hc,Y,abx _,rfl,Z.sub kr,e.pt 1 [0]⟩ ?_
 clear Z e;rintro P a w_ ⟨d,X,k,F,Q,R,r,o,hrn,rfl,Z,e⟩
 refine Jb Z e ((JQ∘JP∘Jc O0∘Jl∘Jp 1∘bU∘Jj) (Ji (λE=>?_) λE=>?_))
 ·
  have G:0<abr d:=by omega
  obtain ⟨b,m,x,H⟩:∃b m x,dK d=(b,m,x):=⟨_,_,_,rfl⟩
  refine (JT∘ET∘JB∘JP∘Jc O0∘JK (h:=by exact λe=>zd1 X (abr d) k d B _ (V.mem e O) (e.le O) (e.old R) r rfl om o H)) λf g vD s=>(Jp 1∘Jx∘Jx∘Jx∘JA #[vB 0,vB 0,vI 0,vI 0,vN]) λw3 p=>(JV aG aN (h1:=by exact uM _ _ _)) λS=>(bO 2∘JQ) λa Z e=>?_
  refine wp_seq ?_
  refine Gv (i:=5) ?_
  refine Jb Z e ((Jp 1∘eF aG O0∘Jp 1∘fu #[vB b.kind,vB b.cpu,vI b.lost,vI b.next,abo f b.evs g,vI m]∘Jp 1∘Jq) λa Z e=>?_)
  refine vv Z (i:=5) (vs:=[.agg #[vB b.kind,vB b.cpu,vI b.lost,vI b.next,abo f b.evs g,vI m],vI x]) rfl rfl rfl rfl rfl rfl de (hy d F _ _ f g b m x Q H G o s (aao (es:=[.blk p (b.cells f g) 85,.blk n #[abo X d k] 30]) (e.pt (fs':=(abq f b.evs g fD 73 11:: .blk p (b.cells f g) 85:: .blk n #[abo X d k] 30::F)) 3 [1,0,2]))) qnp ?_
  clear Z e;rintro v t a ⟨y,e,(⟨I,z,J⟩|⟨I,z,K⟩)⟩ Z<;>injection z with z<;>subst z
  ·
   replace e:Mem W t (.blk p (b.cells f g) 85:: .blk n #[abo X d k] 30::y):=aag (es:=[.blk p (b.cells f g) 85,.blk n #[abo X d k] 30]) e
   have u:=H;rw [I] at u;obtain ⟨T,L,_⟩:=Rs u;have M:abr (d.drop m)<abr d:=by rw [abE];omega
   refine Jb Z e ((Jp 4∘Jo (.bool false) (by rw [I];simp)∘Jp 1∘aI∘Jq∘aP∘JR∘Jc O1∘Jp 1∘Jy (v:= .slice (if k=m then X else X.map (·.add (m*1))) (abr d-m) (k-m)) (h:=by exact aaf bD (j:=m) rfl rfl rfl om)∘Jo (.slice (if k=m then X else X.map (·.add (m*1))) (abr (d.drop m)) (k-m)) (by rw [abE])∘JW gu aN) λU=>(oK∘Jq) λa Z e=>?_)
   exact ⟨_,M,(d.drop m),if k=m then X else X.map (·.add (m*1)),k-m,y,J,aa6 R L r,by rw [abE];omega,yI o m,by omega,rfl,Z.sub kr,e.pt 2 [1]⟩
  ·
   replace e:Mem W t (.blk p (b.cells f g) 85:: .blk n #[abo X d k] 30::y):=aag (es:=[.blk p (b.cells f g) 85,.blk n #[abo X d k] 30]) e
   refine Jb Z e ((Jp 5∘aI∘Jq∘JT∘JZ) λa Z e=>?_)
   exact zC rfl Z (⟨_,rfl,y,aam [.blk p (b.cells f g) 85,.blk n #[abo X d k] 30] e,.inr K⟩)
 have N:d=[]:=agh.1 om
 refine (JF∘JX) ?_
 subst N
 intro a Z e
 exact iD rfl Z (⟨_,rfl,F,aam [.blk n #[.slice X (abr ([]:List Nat)) k] 30] e,.inl Q⟩)
def q39 (A:ajq) (n c:Nat) (w:ajg):
    Calls abt 132 #[.slice A n c] w λr a=>∃g,r= .returned (.func (.func 178) #[] #[vP g 0])/\Mem w a [ah7 g A n c]:=by
 refine (fE Tryz.func132 4) ?_
 exact (JP∘uH) λd g1=>(Jp 1∘Jr∘Jy (h:=by exact Yl.makeFunc (fst:=[]) (caps:=[vP g1 0]) rfl rfl rfl)∘Jp 1∘aL∘aQ∘aW) λb=>by exact ⟨_,rfl,b⟩
def bX (bs:List Bk):List Nat:=bs.flatMap Bk.out
def fZ:List Bk->Nat
 |[]=>0
 |b::t=>if b.err=0 then fZ t else b.err
def ze (bs:List Bk):List Nat×Nat:=if fZ bs≠0 then ([],fZ bs) else if 524288<abr (bX bs) then ([],3) else (bX bs,0)
def q11 (h:fZ bs≠0):ze bs=([],fZ bs):=by unfold ze;rw [if_pos h]
def ql5 (h:fZ bs=0) (a:524288<abr (bX bs)):ze bs=([],3):=by unfold ze;rw [if_neg om,if_pos a]
def RP (h:fZ bs=0) (a:¬524288<abr (bX bs)):ze bs=(bX bs,0):=by unfold ze;rw [if_neg om,if_neg a]
theorem Ny (bs:List Bk):(ze bs).1.length<=524288:=by grind [ze]
def zia {q:List Hb} (h:k<abr q):fZ ((q.drop k).map Hb.b)=if (q.getD k Hb.zero).b.err=0 then fZ ((q.drop (k+1)).map Hb.b) else (q.getD k Hb.zero).b.err:=by
 rw [H9 Hb.zero h,acE,fZ]
theorem zib {q:List Hb} (h:k<abr q):bX ((q.take (k+1)).map Hb.b)=bX ((q.take k).map Hb.b)++(q.getD k Hb.zero).b.out:=by grind [Hb.zero,bX,yM]
theorem zd5 (bs:List Bk):abr (bX bs)<=4096*abr bs:=by induction bs<;>grind [Ri,bX]
theorem q6z {q:List Hb} (k:Nat):abr (bX ((q.take k).map Hb.b))<=4096*abr q:=by grind [zd5]
def zky (h:∀b∈bs,b.Ok):∀x∈bX bs,x<256:=by
 intro x a
 unfold bX at a
 obtain ⟨b,c,a⟩:=acT.1 a
 exact zo2 (h b c) x a
def q60 (h:∀b∈bs,b.Ok):∀x∈(ze bs).1,x<256:=by
 unfold ze
 split
 ·intro x a;cases a
 ·split
  ·intro x a;cases a
  ·exact zky h
def kX (next:Int):Bk:=⟨2,0,0,next,[]⟩
def zkz {next:Int} (h:aX next):(kX next).Ok:=⟨by show 2<256;decide,by show 0<256;decide,by show aX 0;unfold aX;decide,h,by intro e a;cases a⟩
def readAll (l:List Nat):List Bk×Nat:=if (zN l).2.2≠0 then ([],(zN l).2.2) else ((zN l).1,0)
def RQ (h:524288<abr l):readAll l=([],3):=by unfold readAll zN;rw [if_pos h];rfl
def RS (h:¬524288<abr l) (a:(qx (abr l) l).2.2=e) (b:e≠0):readAll l=([],e):=by unfold readAll zN;rw [if_neg h,if_pos om,a]
def RU (h:¬524288<abr l) (a:(qx (abr l) l).2.2=0):readAll l=((qx (abr l) l).1,0):=by unfold readAll zN;rw [if_neg h,if_neg om]
section
variable {W w:ajg} {fs:List ajr} {t bt:ajj}
def Ib {w w':ajg} {p:List Nat×Nat} {n:Int} (hb:Below w.heap.size w w') (a:p=([],er)) (b:n=er):mI w p.2 p.1 (.returned (.tuple #[vN,vI n])) w':=by
 subst a;subst b
 exact ⟨⟨none,0,rfl,acK _ _ _ _,abx _⟩,hb⟩
def qs5 {p:List Bk×Nat} {n:Int} (h:Mem W w fs) (a:p=([],er)) (b:n=er):Df t bt W p.2 p.1 (.returned (.tuple #[vN,vI n])) w:=by
 subst a;exact zdr h b
end
section
variable {W w w':ajg} {fs gs:List ajr} {f g1 g2:ajr}
end
section
variable {W w w':ajg} {fs gs:List ajr} {f1 f2:ajr}
end
def zk0 {b:Bk} (h:b.err=0):13<=abr b.out:=by rw [Np h];have:=ZK b;omega
def qok:∀(bs:List Bk) (a:List Nat) (f:Nat),(∀b∈bs,b.Ok/\b.err=0)->abr (bX bs++a)<=f->
  abr a<=f-abr bs/\qx f (bX bs++a)=(bs++(qx (f-abr bs) a).1,abr (bX bs)+(qx (f-abr bs) a).2.1,(qx (f-abr bs) a).2.2)
 |[],a,f,_,c=>by
  refine ⟨c,?_⟩
  show qx f a=_
  simp [bX]
 |b::t,a,f,h,c=>by
  obtain ⟨g,d⟩:=h b aci
  have k:=zk0 d
  have e:bX (b::t)++a=b.out++(bX t++a):=by unfold bX;rw [abO,aby]
  rw [e] at c⊢
  rw [abu] at c
  obtain ⟨l,i⟩:=qok t a (f-1) (λx j=>h x (ab5 _ j)) om
  refine ⟨by rw [abS];omega,?_⟩
  rw [qkm om (by rw [abu];omega) (zdw g d _),afP,i]
  have e2:f-1-abr t=f- (abr t+1):=by omega
  have e3:bX (b::t)=b.out++bX t:=by unfold bX;rw [abO]
  rw [abS,e2,e3,abu,Nat.add_assoc]
  rfl
def q61 (h:∀b∈bs,b.Ok/\b.err=0) (c:abr (bX bs)<=524288):zN (bX bs)=(bs,abr (bX bs),0):=by
 have a:=(qok bs [] (abr (bX bs)) h (by simp)).2
 rw [abN,Z9 (l:=[]) rfl] at a
 unfold zN
 rw [if_neg om,a,abN]
 rfl
def q12 {p:Nat} (h:zN l=(bs,p,0)):readAll l=(bs,0):=by unfold readAll;rw [h];rfl
theorem qs6:∀{bs:List Bk},(∀b∈bs,b.err=0)->fZ bs=0:=by intro x;induction x<;>grind [fZ]
def q13 (h:∀b∈bs,b.err=0) (a:abr (bX bs)<=524288):ze bs=(bX bs,0):=RP (qs6 h) om
section
variable {W w:ajg} {a b c:List ajr} {t:ajj} {q:List Hb}
end
instance aak:DecidableEq It:=λ⟨a,b⟩ ⟨c,d⟩=>decidable_of_iff (a=c/\b=d) (by rw [It.mk.injEq])
end Go.Proofs.YtekiimhdnigmcaaGreatDoor
