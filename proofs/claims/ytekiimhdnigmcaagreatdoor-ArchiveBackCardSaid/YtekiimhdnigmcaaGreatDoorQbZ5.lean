/- Parts. -/
import Derived.Test.YtekiimhdnigmcaaGreatDoorQbZ4
set_option linter.all false
set_option maxRecDepth 100000
set_option maxHeartbeats 1000000
namespace Go.Proofs.YtekiimhdnigmcaaGreatDoor
open Go.RowKit
open Go renaming World→aiM,Value→aiN,Program→aiO,TypeId→aiP,Ending→aiQ
open List renaming length→abo
open _root_.Go.Proofs.Tryz renaming prog→abp
open _root_.List renaming length_append→abq,getElem?_eq_getElem→abr,getD_eq_getElem?_getD→abt,append_assoc→abv,length_map→abw,length_take→abx,getElem?_eq_some_iff→abB,replicate→abD,length_drop→abE,mem_of_getElem?→abJ,length_set→abK,take_of_length_le→abL,append_nil→abM,flatMap_cons→abR,length_cons→abV,mem_cons→abY,map_append→abZ,flatMap_append→ab1,mem_or_eq_of_mem_set→ab4,mem_cons_of_mem→ab5,mem_map→ab7,take_append_drop→ab8,length_replicate→ab9,mem_append→acg,mem_cons_self→acj,getElem_of_mem→acp,drop_of_length_le→acs,drop_eq_getElem_cons→acz,map_cons→acB,mem_of_mem_take→acG,getElem?_map→acM,mem_flatMap→acV,length→acW,eq_of_mem_replicate→acX,perm_middle→ac8,take_length→adv,take_left→adO,getElem?_append_right→adP,mem_append_left→adQ,getElem?_eq_none→adR,getElem?_append_left→adT,getElem?_cons_succ→adV,ext_getElem→ad8,length_eraseIdx→aeX,set_append→ae1,set_set→afk,set_cons_zero→afz,mem_singleton→afA,drop_left→afE,length_eq_zero_iff→af0,getElem?_replicate→af3
open Nat renaming le_refl→abu,zero_le→abz,lt_or_ge→ab6,eq_zero_or_pos→ach,zero_add→aci,mul_one→ac0,min_eq_left→ac4,le_trans→ada,pow_le_pow_right→adq,succ_mul→adI,mod_lt→ad1,sub_self→aeg,div_le_self→afa,min→agh,min_eq_right→agV,mul_comm→ahl
open Bool renaming and_eq_true→abG,true_and→acn
open Int renaming toNat_natCast→abH,toNat_of_nonneg→abW,toNat→afB,tmod→afO,tmod_eq_of_lt→agN
open Value renaming bool→abN,int→abT,oneCell'→abX,slice→afJ
open Go renaming IntKind→acw
open World renaming ownsRow_nil→acH
open Addr renaming add_mid→acI
open DataW renaming trod→adN,trod_int→ad9
open Extern.SlicesOverlaps renaming overlaps→adZ
open Rw renaming l→aeb
open _root_.Array renaming getElem?_toList→aeR
open Lit renaming int→ae4
open Classical renaming byContradiction→afv
open List.Perm renaming cons→agp
open aiX renaming blk→ag4
variable {W w:aiM} {F T fs:List aiX} {x:aF} {m k b d a e g c f n cr er:Nat} {l:List Nat} {s:bH} {t:Tk} {A gA:aiW} {o:bP} {r:List aiN} {z:List Rw} {q:List Hb} {bs:List Bk}
def SG (n:Nat) (f:Mem W w F) (h:F.drop n=jM e x m k b d a++T) (i:dY x m k b d a) (hc:(c:Int)<x.au) (j:g<a) (o:lC x.ay g c=l):Calls abp 200 #[vP e 0,vI g,vI c] w (NJ w l):=o▸zd4 n f h i hc j
def SH {m k e f a g c:Nat} (b:dY x m k e f a) (o:g<a) (i:lC x.ay g c=l):∀h∈l,0<h/\h<a:=by
 subst i
 intro h j
 obtain ⟨_,_,_,d⟩:=mM b.sh.cfg
 have p:=b.sh.rs
 have q:=b.ln.s
 have n:=qoi (s:=x.ay) (c:=c) (g:=g) (yX d om) h j
 exact ⟨n.1,by omega⟩
def qos {s:bH} {c:Nat}:∀(f g:Nat),abo (rV s c f g)<=f
 |0,g=>abu _
 | f + 1, g => by
  rw [rV]
  split
  ·exact abz _
  ·split
   ·rw [abV];have:=qos (s:=s) (c:=c) f (s.par g).toNat;omega
   ·exact abz _
def SK {m k d e a g c:Nat} (b:dY x m k d e a) (h:g<a) (f:lC x.ay g c=l):abo l<=1000000:=by
 subst f
 have i:abo (lC x.ay g c)<=g:=qos (s:=x.ay) (c:=c) g g
 have j:=b.few.s
 have n:=b.ln.s
 omega
def NR {E:aiW} {h:Nat} (n:Nat) (y:Mem W w F) (z:F.drop n=jM f x m k d e b++T) {j:Nat} (A:F[j]?=some (.row (.slice E (abo l) h) (abo l) (l.map bL) 3 1)) (B:j<n) (C:sO x m k d e b) (i:∀g∈l,0<g/\g<b) (o:abo l<=1000000)
  (p:dO x.gs=true) (q:abo x.rs=abo x.gs) (s:fH x.gs x.au x.rs) (t:x.aj<18446744073709551616) (u:x.au<=64) (hc:(c:Int)<x.au):
  Calls abp 206 #[vP f 0,.slice E (abo l) h,vI c] w (λr v=>∃a,r= .returned (.tuple #[])/\abo a=b/\fH x.gs x.au a/\({x with rs:=a}:aF).ay=gZ x.ay l c/\Mem W v (F.take n++(jM f {x with rs:=a} m k d e b++T))):=
 (q2d W w x f c m k d e b C (F.take n++T) E h l (adQ _ (abJ (by rw [List.getElem?_take_of_lt B];exact A))) i o p q s t u hc (y.front n z)).mono λr v ⟨a,D,G,H,I,J⟩=>⟨a,D,G,H,I,J.back⟩
abbrev aic:=λa b c=>((5,vI 0)::(4,vI 0)::(3,vP a 0)::(0,vP b 0)::c:List (Nat×aiN))
abbrev aiy:=λa b c d e f g h i j k l m n o p q r s t u=>(fG a b c d::fI e f g h::fI i j k l::fT m n o p::fS q r s t::u:List aiX)
def qnk (W w:aiM) (x:aF) (N:Nat) (H I J D K:Nat) (l:dY x H I J D K) (o:bP) (E:o.Ok) (T:List aiX) (b:Mem W w (jM N x H I J D K++T)):
    Calls abp 153 #[vP N 0,.agg o.cells] w (kK W N T (y5 x.ay o)):=by
 obtain ⟨cp,cr,gA,gc,gs,lA,lc,cl,uA,uc,cu,tA,tc,ts,sA,sc,rs⟩:=x
 replace b:Mem W w (fM N cp cr gA H gc lA I lc uA J uc tA D tc sA K sc::aiy gA H gc gs lA I lc cl uA J uc cu tA D tc ts sA K sc rs (fR rs++(T))):=b
 obtain ⟨O,P,Q,A,R⟩:=l.ln
 replace O:abo gs=H:=O;replace P:abo cl=I:=P;replace Q:abo cu=J:=Q;replace A:abo ts=D:=A;replace R:abo rs=K:=R
 have e:=l.ln
 have hsp:fH gs cp rs:=l.spots
 have hrg:abo rs=abo gs:=l.sh.rs
 have hcr:cr<18446744073709551616:=l.ok.aj
 obtain ⟨F,G,_,B⟩:=mM l.sh.cfg
 replace F:1<=cp:=F;replace G:cp<=64:=G;replace B:dO gs=true:=B
 have nU:=(qt B).1;have nV:=(qt B).2.1
 have qO:(abo cl:Int)=cp:=l.sh.cl;have oZ:(abo cu:Int)=cp:=l.sh.cu
 have nW:abo ts<=1000000:=l.few.t
 have hoc:=E.cpu;have hot:=E.task;have hog:=E.group;have how:=E.weight;have S:=E.to;have U:=E.ticks;have zH:=E.mask;have qP:=E.kind;unfold aX at hoc hot hog how S U
 refine (mq b Tryz.func153 55) ?_
 refine (JP∘JE) λw3 g3=>(Jp 2∘bg 1∘Jj∘JQ∘JB∘JP∘Jg 2 O0∘JI (h:=by exact λb=>Ny o.task _)) λvH c=>(Jp 2∘eP∘Jj) (nH (λd=>?_) λd=>?_)
 ·
  exact (JT∘bE 2∘bW) λb=>by exact qv (y:=(⟨cp,cr,gA,gc,gs,lA,lc,cl,uA,uc,cu,tA,tc,ts,sA,sc,rs⟩:aF)) 1 b rfl e (if_pos (decide_eq_false d))
 refine (JF∘JP∘Jg 4 O0∘JL (h:=by exact λb=>Nh o.weight _)) ?_
 rintro b _ xW ⟨rfl,c⟩
 refine ⟨_,rfl,_,b.call c,?_⟩
 refine (Jp 2∘eP∘Jj) (nH (λg=>?_) λg=>?_)
 ·
  exact (JT∘bE 2∘bW) λb=>by exact qv (y:=(⟨cp,cr,gA,gc,gs,lA,lc,cl,uA,uc,cu,tA,tc,ts,sA,sc,rs⟩:aF)) 1 b rfl e ((if_neg (nf (decide_eq_true d))).trans (if_pos (decide_eq_false g)))
 refine (aQ∘bN 1∘Jg 2 O0∘JI (h:=by exact λb=>IE 1 b rfl l o.task)) λQk c=>(Jp 1∘eP∘bg 2∘aL∘Jj) (Ji (λm=>?_) λm=>?_)
 ·
  exact (JT∘bE 2∘bW) λb=>by exact qv (y:=(⟨cp,cr,gA,gc,gs,lA,lc,cl,uA,uc,cu,tA,tc,ts,sA,sc,rs⟩:aF)) 1 b rfl e ((if_neg (nf (decide_eq_true d))).trans ((if_neg (nf (decide_eq_true g))).trans (if_pos (m))))
 obtain ⟨k,t,hk,ht,V,zI⟩:=II m
 replace hk:fidx ts o.task=(k:Int):=hk;replace ht:ts[k]?=some t:=ht;replace V:k<abo ts:=V
 obtain ⟨p,L⟩:=l.task ht
 have hti:=p.id;have wI:=p.group;have X:=p.cpu;have IU:=p.weight;have Y:=L.v;have htr:=L.r;have IV:=L.mask
 replace X:0<=t.cpu/\t.cpu<cp:=X
 obtain ⟨gt,hgt⟩:∃n:Nat,t.group=(n:Int):=⟨t.group.toNat,by omega⟩
 obtain ⟨ct,hct⟩:∃n:Nat,t.cpu=(n:Int):=⟨t.cpu.toNat,by omega⟩
 obtain ⟨s,hwt⟩:∃n:Nat,t.weight=(n:Int):=⟨t.weight.toNat,by omega⟩
 have M:(⟨t.v,t.r,s⟩:En).Ok:=aaj p.ent hwt Y
 obtain ⟨z,yC⟩:∃n:Nat,o.weight=(n:Int):=⟨o.weight.toNat,by omega⟩
 have hz:1<=z/\z<=65536:=by omega
 repeat (first|clear Z|clear b)
 intro a Z b
 obtain ⟨q,rfl⟩:=b.rat 5 k (hk:=(by omega:k<D))
 refine Jb Z b ((aQ∘aM 1∘Jn∘Jf 0∘Jg 5 O1∘Jp 1∘Jo (vI k) (by rw [hk])∘nG k 8∘Jp 1∘aJ∘Jj) λa Z b=>?_)
 refine qy (λaS wS=>∃(C:Nat),Fr aS 55 [] ((8,vP C 0)::(7,vP q (k*8))::(25,.bool false)::(6,vI (fidx ts o.task))::(15,.bool false)::(10,.bool false)::aic g3 N [])/\Mem W wS (.blk C ((⟨t.v,0,z⟩:En).cells) 333::.blk g3 o.cells 214::fM N cp cr gA H gc lA I lc uA J uc (some ⟨q,0,none⟩) D tc sA K sc::aiy gA H gc gs lA I lc cl uA J uc cu (some ⟨q,0,none⟩) D tc ts sA K sc rs (fR rs++(T)))) ?_ ?_
 ·
  refine Jb Z b ((Vs .n [20]) λrT=>(Vp [0,4,8]∘Vf 13 4∘Vn 1∘Vf 2 6∘Vy 3 (v:=vQ t.v) (h:=by exact Pd rfl rfl kr (λ_ h=>h.qw qm (i:=5) rfl (k:=k) (off:=6) (x:=t) (ht) rfl))∘Vn 5∘Vf 6 7∘Vy 7 (v:=vW t.r) (h:=by exact Pd rfl rfl kr (λ_ h=>h.qw qm (i:=5) rfl (k:=k) (off:=7) (x:=t) (ht) rfl))∘Vn 9∘Vf 10 2∘Vy 11 (v:=vI t.weight) (h:=by exact Pd rfl rfl kr (λ_ h=>h.qw qm (i:=5) rfl (k:=k) (off:=2) (x:=t) (ht) rfl))∘Vo (vI s) (by rw [hwt])∘Vc 14 O0∘Vo (vI z) (by rw [yC])) λa Z b u=>?_)
  refine zf [12,19] kr rfl ?_
  refine all_cons ?_ ?_
  ·refine qu Z (i:=12) rfl rfl ?_
   refine jq Z b [vQ t.v,vW t.r,vI s] (.agg #[vQ t.v,vW t.r,vW s]) rfl rfl (zg t.v t.r (s:Int) om _) λEB c b a Z=>?_
   refine av (b.pt 7 [0,1,2,3,4,5,6]) (λu=>?_)
   refine zf [15,19] kr rfl ?_
   refine all_cons ?_ ?_
   ·refine qu Z (i:=15) rfl rfl ?_
    refine jq Z b [.agg #[vQ t.v,vW t.r,vW s],vI z] (.tuple #[.agg ((⟨t.v,0,z⟩:En).cells),vI 0]) rfl rfl (EX (⟨t.v,t.r,s⟩:En) M z hz _) λAo c b a Z=>?_
    refine av (b.pt 7 [0,1,2,3,4,5,6]) (λu=>?_)
    refine Vb Z b u ((Vp [16]∘Vx 17∘Vx 18∘VA 19 .n #[vQ 0,vW 0,vW 0]) λw8 C=>λa Z b u=>?_)
    refine s_on Z 20 rfl (bS Z b 0 rfl rfl rfl rfl rfl qp rfl rfl (mD (⟨t.v,0,z⟩:En)) λj b=>?_)
    refine dU kr ?_
    refine ap Z (bZ kr) [21] (bt 22 []) [] λa Z=>?_
    refine qe kr ?_
    exact ⟨C,Z.sub kr,b.pt 8 [0,1,2,3,4,5,6,7]⟩
   refine all_cons ?_ all_nil
   refine qu Z (i:=19) rfl rfl ?_
   refine gX Z b #[vQ 0,vW 0,vW 0] ?_
   clear Z b;intro a w8 C Z b
   refine av (b.pt 8 [1,2,3,4,5,6,7]) (λu=>?_)
   refine Vb Z b u ((VI 15 (.f .n) (h:=by exact λb=>EX (⟨t.v,t.r,s⟩:En) M z hz _)) λAo c=>(Vp [16]∘Vx 17∘Vx 18) λa Z b u=>?_)
   refine s_on Z 20 rfl (bS Z b 0 rfl rfl rfl rfl rfl qp rfl rfl (mD (⟨t.v,0,z⟩:En)) λj b=>?_)
   refine dU kr ?_
   refine ap Z (bZ kr) [21] (bt 22 []) [] λa Z=>?_
   refine qe kr ?_
   exact ⟨C,Z.sub kr,b.pt 8 [0,1,2,3,4,5,6,7]⟩
  refine all_cons ?_ all_nil
  refine qu Z (i:=19) rfl rfl ?_
  refine gX Z b #[vQ 0,vW 0,vW 0] ?_
  clear Z b;intro a w8 C Z b
  refine av (b.pt 8 [1,2,3,4,5,6,7]) (λu=>?_)
  refine Vb Z b u ((VI 12 (.f .n) (h:=by exact λb=>zg t.v t.r (s:Int) om _)) λEB c=>(VI 15 (.f .n) (h:=by exact λb=>EX (⟨t.v,t.r,s⟩:En) M z hz _)) λAo c=>(Vp [16]∘Vx 17∘Vx 18) λa Z b u=>?_)
  refine s_on Z 20 rfl (bS Z b 0 rfl rfl rfl rfl rfl qp rfl rfl (mD (⟨t.v,0,z⟩:En)) λj b=>?_)
  refine dU kr ?_
  refine ap Z (bZ kr) [21] (bt 22 []) [] λa Z=>?_
  refine qe kr ?_
  exact ⟨C,Z.sub kr,b.pt 8 [0,1,2,3,4,5,6,7]⟩
 clear Z b;rintro a sG ⟨C,Z,b⟩
 exact Jb Z b ((aM 1∘eH qp O0∘JO (h:=by exact λb=>Nw t (⟨t.v,0,z⟩:En) uK b ht A (Sk Y hz))) λw54=>(oo∘bg 2∘aP∘bW) λb=>by exact qv (y:=(⟨cp,cr,gA,gc,gs,lA,lc,cl,uA,uc,cu,some ⟨q,0,none⟩,tc,(ts.set k (t.put (⟨t.v,0,z⟩:En))),sA,sc,rs⟩:aF)) 2 b rfl (EZ e (by rw [abK];exact A)) (qs5 (x:=(⟨cp,cr,gA,gc,gs,lA,lc,cl,uA,uc,cu,some ⟨q,0,none⟩,tc,ts,sA,sc,rs⟩:aF)) (decide_eq_true d) (decide_eq_true g) hk ht yC))
abbrev ain {α:Type}:=λa b (c:List α) d e f g h i=>((9,vP a 0)::(8,abl b c d)::(7,vP e (f*8))::(22,.bool false)::(19,.bool false)::(6,vI (fidx g h))::(14,.bool false)::i:List (Nat×aiN))
def qwe (W w:aiM) (x:aF) (O:Nat) (S U V P H:Nat) (q:dY x S U V P H) (o:bP) (ho:o.Ok) (T:List aiX) (b:Mem W w (jM O x S U V P H++T)):
    Calls abp 149 #[vP O 0,.agg o.cells] w (kK W O T (yZ x.ay o)):=by
 obtain ⟨cp,cr,gA,gc,gs,lA,lc,cl,uA,uc,cu,tA,tc,ts,sA,sc,rs⟩:=x
 replace b:Mem W w (fM O cp cr gA S gc lA U lc uA V uc tA P tc sA H sc::aiy gA S gc gs lA U lc cl uA V uc cu tA P tc ts sA H sc rs (fR rs++(T))):=b
 obtain ⟨mP,hll,nT,I,hls⟩:=q.ln
 replace mP:abo gs=S:=mP;replace hll:abo cl=U:=hll;replace nT:abo cu=V:=nT;replace I:abo ts=P:=I;replace hls:abo rs=H:=hls
 have m:=q.ln
 have hsp:fH gs cp rs:=q.spots
 have hrg:abo rs=abo gs:=q.sh.rs
 have X:cr<18446744073709551616:=q.ok.aj
 obtain ⟨hcp1,J,_,K⟩:=mM q.sh.cfg
 replace hcp1:1<=cp:=hcp1;replace J:cp<=64:=J;replace K:dO gs=true:=K
 have nU:=(qt K).1;have nV:=(qt K).2.1
 have qO:(abo cl:Int)=cp:=q.sh.cl;have oZ:(abo cu:Int)=cp:=q.sh.cu
 have nW:abo ts<=1000000:=q.few.t
 have hoc:=ho.cpu;have hot:=ho.task;have hog:=ho.group;have how:=ho.weight;have o7:=ho.to;have o8:=ho.ticks;have zH:=ho.mask;have qP:=ho.kind;unfold aX at hoc hot hog how o7 o8
 obtain ⟨g,rfl⟩:=zx (b.own (i:=5) rfl) om
 refine (mq b Tryz.func149 103) ?_
 refine (JP∘JE) λw3 g3=>(bM 2∘JQ∘JP∘Jg 2 O0∘JI (h:=by exact λb=>Ny o.task _)) λvH C=>(Jp 1∘bU∘Jj) (nH (λp=>?_) λp=>?_)
 ·
  exact (JT∘bE 2∘bW) λb=>by exact qv (y:=(⟨cp,cr,gA,gc,gs,lA,lc,cl,uA,uc,cu,tA,tc,ts,some ⟨g,0,none⟩,sc,rs⟩:aF)) 1 b rfl m (if_pos (decide_eq_false p))
 refine (aQ∘aM 1∘Jg 2 O0∘JI (h:=by exact λb=>IE 1 b rfl q o.task)) λxW C=>(Jp 1∘eP∘Jj∘JQ∘JB∘aM 3∘bU∘Jj) (Ji (λu=>?_) λu=>?_)
 ·
  exact (JT∘bE 2∘bW) λb=>by exact qv (y:=(⟨cp,cr,gA,gc,gs,lA,lc,cl,uA,uc,cu,tA,tc,ts,some ⟨g,0,none⟩,sc,rs⟩:aF)) 1 b rfl m ((if_neg (nf (decide_eq_true p))).trans (if_pos (u)))
 obtain ⟨k,t,hk,ht,hkl,zI⟩:=II u
 replace hk:fidx ts o.task=(k:Int):=hk;replace ht:ts[k]?=some t:=ht;replace hkl:k<abo ts:=hkl
 obtain ⟨L,hto⟩:=q.task ht
 have hti:=L.id;have wI:=L.group;have htc:=L.cpu;have IU:=L.weight;have zJ:=hto.v;have htr:=hto.r;have IV:=hto.mask
 replace htc:0<=t.cpu/\t.cpu<cp:=htc
 obtain ⟨gt,hgt⟩:∃n:Nat,t.group=(n:Int):=⟨t.group.toNat,by omega⟩
 obtain ⟨ct,Y⟩:∃n:Nat,t.cpu=(n:Int):=⟨t.cpu.toNat,by omega⟩
 obtain ⟨G,hwt⟩:∃n:Nat,t.weight=(n:Int):=⟨t.weight.toNat,by omega⟩
 have sH:(⟨t.v,t.r,G⟩:En).Ok:=aaj L.ent hwt zJ
 repeat (first|clear Z|clear b)
 intro a Z b
 obtain ⟨d,rfl⟩:=b.rat 5 k (hk:=(by omega:k<P))
 refine Jb Z b ((JF∘aM 1∘Jn∘Jf 0∘Jg 5 O1∘Jp 1∘Jo (vI k) (by rw [hk])∘nG k 8∘Jf 5∘Jy (v:= .bool t.ready) (h:=by exact Pd rfl rfl kr (λ_ h=>h.qw qm (i:=5) rfl (k:=k) (off:=5) (x:=t) (ht) rfl))∘Jp 1∘aJ∘Jj) (Ju (λM=>?_) λM=>?_))
 ·
  exact (JT∘bE 2∘bW) λb=>by exact qv (y:=(⟨cp,cr,gA,gc,gs,lA,lc,cl,uA,uc,cu,some ⟨d,0,none⟩,tc,ts,some ⟨g,0,none⟩,sc,rs⟩:aF)) 1 b rfl m ((if_neg (nf (decide_eq_true p))).trans ((if_neg (u)).trans (if_pos (by rw [yx (s:=aF.ay (⟨cp,cr,gA,gc,gs,lA,lc,cl,uA,uc,cu,some ⟨d,0,none⟩,tc,ts,some ⟨g,0,none⟩,sc,rs⟩:aF)) hk ht];exact M))))
 have hnr:t.ready=false:=by simpa using M
 obtain ⟨Q,hem⟩:∃l,lC (⟨cp,cr,gA,gc,gs,lA,lc,cl,uA,uc,cu,some ⟨d,0,none⟩,tc,ts,some ⟨g,0,none⟩,sc,rs⟩:aF).ay gt ct=l:=⟨_,rfl⟩
 have uy:=λh hh=>SH (x:=(⟨cp,cr,gA,gc,gs,lA,lc,cl,uA,uc,cu,some ⟨d,0,none⟩,tc,ts,some ⟨g,0,none⟩,sc,rs⟩:aF)) q (by omega:gt<H) hem h hh
 have uz:=SK (x:=(⟨cp,cr,gA,gc,gs,lA,lc,cl,uA,uc,cu,some ⟨d,0,none⟩,tc,ts,some ⟨g,0,none⟩,sc,rs⟩:aF)) q (by omega:gt<H) hem
 obtain ⟨⟨yA,yc,yl⟩,hy⟩:∃y,rs.getD gt Rw.zero=y:=⟨_,rfl⟩
 have hys:=hsp gt om;rw [hy] at hys
 have hyl:(abo yl:Int)=cp:=hys.1
 repeat (first|clear Z|clear b)
 intro a Z b
 obtain ⟨gy,rfl⟩:=b.jQ 7 rfl om hy om
 obtain ⟨yz,hyz⟩:∃z,yl[ct]?=some z:=⟨_,abr om⟩
 have nK:=hys.2 yz (abJ hyz)
 have hyv:=nK.1.v;have sN:=nK.1.r;have sS:=nK.1.floor
 obtain ⟨e,N⟩:∃e,(⟨t.v,t.r,G⟩:En).woken yz.floor cr=e:=⟨_,rfl⟩
 have vG:e.Ok/\e.w=G:=by rw [<-N];exact aaw sH _ _ sS
 have hev:=vG.1.2;have her:=Ba vG.1.1
 refine Jb Z b ((aQ∘aM 1∘Jn∘Jf 0∘Jg 5 O1∘Jp 1∘Jo (vI k) (by rw [hk])∘nG k 8∘Jp 1∘aJ∘Jj) λa Z b=>?_)
 refine wp_seq ?_
 refine Jb Z b ((Vs .n []) λRl=>(Vp [0,1,5]∘Vn 2∘Vf 3 1∘Vy 4 (v:=vI t.group) (h:=by exact Pd rfl rfl kr (λ_ h=>h.qw qm (i:=5) rfl (k:=k) (off:=1) (x:=t) (ht) rfl))∘Vo (vI gt) (by rw [hgt])∘Vn 6∘Vf 7 3∘Vy 8 (v:=vI t.cpu) (h:=by exact Pd rfl rfl kr (λ_ h=>h.qw qm (i:=5) rfl (k:=k) (off:=3) (x:=t) (ht) rfl))∘Vo (vI ct) (by rw [Y])∘VK 9 .n (h:=by exact λb=>SG 1 b rfl q (by show ((ct:Nat):Int)<cp;omega) om hem)) λD E Cx anQ=>(Vp [10]∘Vd∘aJ) λa Z b=>?_)
 refine qy (λaS wS=>∃(F:Nat),Fr aS 103 [] (ain F D Q E d k ts o.task (aic g3 O []))/\Mem W wS (.blk F e.cells 333::abm D Q E bL 3 1::.blk g3 o.cells 214::fM O cp cr gA S gc lA U lc uA V uc (some ⟨d,0,none⟩) P tc (some ⟨g,0,none⟩) H sc::aiy gA S gc gs lA U lc cl uA V uc cu (some ⟨d,0,none⟩) P tc ts (some ⟨g,0,none⟩) H sc rs (fR rs++(T)))) ?_ ?_
 ·
  refine Jb Z b ((Vs .n [42]) λrT=>(Vp [0,4,8,13,18,24,31]∘Vn 1∘Vf 2 6∘Vy 3 (v:=vQ t.v) (h:=by exact Pd rfl rfl kr (λ_ h=>h.qw qm (i:=6) rfl (k:=k) (off:=6) (x:=t) (ht) rfl))∘Vn 5∘Vf 6 7∘Vy 7 (v:=vW t.r) (h:=by exact Pd rfl rfl kr (λ_ h=>h.qw qm (i:=6) rfl (k:=k) (off:=7) (x:=t) (ht) rfl))∘Vn 9∘Vf 10 2∘Vy 11 (v:=vI t.weight) (h:=by exact Pd rfl rfl kr (λ_ h=>h.qw qm (i:=6) rfl (k:=k) (off:=2) (x:=t) (ht) rfl))∘Vo (vI G) (by rw [hwt])∘Vn 14∘Vf 15 0∘Vf 16 6∘Vc 17 O2∘Vn 19∘Vf 20 1∘Vy 21 (v:=vI t.group) (h:=by exact Pd rfl rfl kr (λ_ h=>h.qw qm (i:=6) rfl (k:=k) (off:=1) (x:=t) (ht) rfl))∘Vo (vI gt) (by rw [hgt])∘Vy 22 (h:=by exact Yl.iO g gt 1 rfl rfl rfl)∘Vy 23 (v:= .slice ((rs.getD gt Rw.zero).A) ((rs.getD gt Rw.zero).l.length) ((rs.getD gt Rw.zero).c)) (h:=by exact aae 7 gt Rw.zero om rfl rfl rfl)∘Vo (vS gy (abo yl) yc) (by rw [hy])∘Vn 25∘Vf 26 3∘Vy 27 (v:=vI t.cpu) (h:=by exact Pd rfl rfl kr (λ_ h=>h.qw qm (i:=6) rfl (k:=k) (off:=3) (x:=t) (ht) rfl))∘Vo (vI ct) (by rw [Y])∘Vy 28 (h:=by exact Yl.iO gy ct 3 rfl rfl rfl)∘Vf 29 2∘Vy 30 (v:=vQ yz.floor) (h:=by exact Pd rfl rfl kr (λ_ h=>h.uS 8 (j:=2) rfl om hy (hyz) rfl))∘Vn 32∘Vf 33 0∘Vf 34 0∘Vf 35 1∘Vc 36 O2) λa Z b R=>?_)
  refine zf [12,41] kr rfl ?_
  refine all_cons ?_ ?_
  ·refine qu Z (i:=12) rfl rfl ?_
   refine jq Z b [vQ t.v,vW t.r,vI G] (.agg #[vQ t.v,vW t.r,vW G]) rfl rfl (zg t.v t.r (G:Int) om _) λw62 C b a Z=>?_
   refine av (b.pt 8 [0,1,2,3,4,5,6,7]) (λR=>?_)
   refine zf [37,41] kr rfl ?_
   refine all_cons ?_ ?_
   ·refine qu Z (i:=37) rfl rfl ?_
    refine jq Z b [.agg #[vQ t.v,vW t.r,vW G],vQ yz.floor,vQ cr] (.tuple #[.agg e.cells,vI 0]) rfl rfl (Fa (⟨t.v,t.r,G⟩:En) e sH yz.floor cr sS X N _) λNS C b a Z=>?_
    refine av (b.pt 8 [0,1,2,3,4,5,6,7]) (λR=>?_)
    refine Vb Z b R ((Vp [38]∘Vx 39∘Vx 40∘VA 41 .n #[vQ 0,vW 0,vW 0]) λw9 F=>λa Z b R=>?_)
    refine s_on Z 42 rfl (bS Z b 0 rfl rfl rfl rfl rfl qp rfl rfl (mD e) λB b=>?_)
    refine dU kr ?_
    refine ap Z (bZ kr) [43] (bt 44 []) [] λa Z=>?_
    refine qe kr ?_
    replace Z:=Z.to (ain F D Q E d k ts o.task (aic g3 O []))
    exact ⟨F,Z.sub kr,b.pt 9 [0,1,2,3,4,5,6,7,8]⟩
   refine all_cons ?_ all_nil
   refine qu Z (i:=41) rfl rfl ?_
   refine gX Z b #[vQ 0,vW 0,vW 0] ?_
   clear Z b;intro a w9 F Z b
   refine av (b.pt 9 [1,2,3,4,5,6,7,8]) (λR=>?_)
   refine Vb Z b R ((VI 37 (.f .n) (h:=by exact λb=>Fa (⟨t.v,t.r,G⟩:En) e sH yz.floor cr sS X N _)) λNS C=>(Vp [38]∘Vx 39∘Vx 40) λa Z b R=>?_)
   refine s_on Z 42 rfl (bS Z b 0 rfl rfl rfl rfl rfl qp rfl rfl (mD e) λB b=>?_)
   refine dU kr ?_
   refine ap Z (bZ kr) [43] (bt 44 []) [] λa Z=>?_
   refine qe kr ?_
   replace Z:=Z.to (ain F D Q E d k ts o.task (aic g3 O []))
   exact ⟨F,Z.sub kr,b.pt 9 [0,1,2,3,4,5,6,7,8]⟩
  refine all_cons ?_ all_nil
  refine qu Z (i:=41) rfl rfl ?_
  refine gX Z b #[vQ 0,vW 0,vW 0] ?_
  clear Z b;intro a w9 F Z b
  refine av (b.pt 9 [1,2,3,4,5,6,7,8]) (λR=>?_)
  refine Vb Z b R ((VI 12 (.f .n) (h:=by exact λb=>zg t.v t.r (G:Int) om _)) λw62 C=>(VI 37 (.f .n) (h:=by exact λb=>Fa (⟨t.v,t.r,G⟩:En) e sH yz.floor cr sS X N _)) λNS C=>(Vp [38]∘Vx 39∘Vx 40) λa Z b R=>?_)
  refine s_on Z 42 rfl (bS Z b 0 rfl rfl rfl rfl rfl qp rfl rfl (mD e) λB b=>?_)
  refine dU kr ?_
  refine ap Z (bZ kr) [43] (bt 44 []) [] λa Z=>?_
  refine qe kr ?_
  replace Z:=Z.to (ain F D Q E d k ts o.task (aic g3 O []))
  exact ⟨F,Z.sub kr,b.pt 9 [0,1,2,3,4,5,6,7,8]⟩
 clear Z b;rintro a sG ⟨F,Z,b⟩
 refine Jb Z b ((aM 1∘eH qp O0∘JO (h:=by exact λb=>Nw t e vE b ht I vG.1)) λSL=>(oo∘bg 1∘Jn∘Jf 5) λa Z b=>?_)
 refine fo Z 3 rfl rfl ?_
 refine zj Z b (i:=7) rfl rfl rfl rfl kr rfl rfl (by rw [rJ bX 8 qm,abK];omega) λIe b=>?_
 replace b:=b.dG (i:=7) (ys:=(ts.set k {t.put e with ready:=true}).flatMap bX) rfl ((vo bX 8 qm (ts.set k (t.put e)) k (t.put e) {t.put e with ready:=true} (yw ht) 5 de _ rfl).trans (by rw [afk]))
 refine Jb Z b ((oo∘bg 3∘Jn∘Jf 3∘Jy (v:=vI (({t.put e with ready:=true}:Tk).cpu)) (h:=by exact Pd rfl rfl kr (λ_ h=>h.qw qm (i:=7) rfl (k:=k) (off:=3) (x:=({t.put e with ready:=true}:Tk)) ((yw ht)) rfl))∘Jo (vI ct) (by rw [<-Y];try rfl)∘JL (h:=by exact λb=>NR 3 b rfl (j:=1) rfl de (EZ (ts':=ts.set k {t.put e with ready:=true}) m (by rw [abK];exact I)) (uy) (uz) K hrg hsp X J (by show ((ct:Nat):Int)<cp;omega))) ?_)
 rintro b _ SN ⟨jW,rfl,hl2,hsp2,nX,tY⟩
 refine ⟨_,rfl,_,(show Mem W SN (.blk F e.cells 333::abm D Q E bL 3 1::.blk g3 o.cells 214::fM O cp cr gA S gc lA U lc uA V uc (some ⟨d,0,none⟩) P tc (some ⟨g,0,none⟩) H sc::aiy gA S gc gs lA U lc cl uA V uc cu (some ⟨d,0,none⟩) P tc (ts.set k {t.put e with ready:=true}) (some ⟨g,0,none⟩) H sc jW (fR jW++(T))) from tY),?_⟩
 exact (iZ∘bg 2∘aP∘bW) λb=>by exact qv (y:=(⟨cp,cr,gA,gc,gs,lA,lc,cl,uA,uc,cu,some ⟨d,0,none⟩,tc,(ts.set k {t.put e with ready:=true}),some ⟨g,0,none⟩,sc,jW⟩:aF)) 3 b rfl (Nz (EZ m (by rw [abK];exact I)) hl2) ((q7d (x:=(⟨cp,cr,gA,gc,gs,lA,lc,cl,uA,uc,cu,some ⟨d,0,none⟩,tc,ts,some ⟨g,0,none⟩,sc,rs⟩:aF)) (decide_eq_true p) hk ht hnr hgt Y hwt (yu (x:=(⟨cp,cr,gA,gc,gs,lA,lc,cl,uA,uc,cu,some ⟨d,0,none⟩,tc,ts,some ⟨g,0,none⟩,sc,rs⟩:aF)) (by show gt<abo rs;omega) hy hyz) N hem).trans (by rw [<-nX]))
def q2f (W w:aiM) (x:aF) (M:Nat) (B C A D E:Nat) (j:dY x B C A D E) (o:bP) (q:o.Ok) (T:List aiX) (d:Mem W w (jM M x B C A D E++T)):
    Calls abp 152 #[vP M 0,.agg o.cells] w (kK W M T (kS x.ay o)):=by
 obtain ⟨cp,cr,gA,gc,gs,lA,lc,cl,uA,uc,cu,tA,tc,ts,sA,sc,rs⟩:=x
 replace d:Mem W w (fM M cp cr gA B gc lA C lc uA A uc tA D tc sA E sc::aiy gA B gc gs lA C lc cl uA A uc cu tA D tc ts sA E sc rs (fR rs++(T))):=d
 obtain ⟨G,H,z,I,J⟩:=j.ln
 replace G:abo gs=B:=G;replace H:abo cl=C:=H;replace z:abo cu=A:=z;replace I:abo ts=D:=I;replace J:abo rs=E:=J
 have e:=j.ln
 have hsp:fH gs cp rs:=j.spots
 have hrg:abo rs=abo gs:=j.sh.rs
 have hcr:cr<18446744073709551616:=j.ok.aj
 obtain ⟨r,u,_,m⟩:=mM j.sh.cfg
 replace r:1<=cp:=r;replace u:cp<=64:=u;replace m:dO gs=true:=m
 have U:=(qt m).1;have V:=(qt m).2.1
 have X:(abo cl:Int)=cp:=j.sh.cl;have Y:(abo cu:Int)=cp:=j.sh.cu
 have nW:abo ts<=1000000:=j.few.t
 have N:=q.cpu;have O:=q.task;have P:=q.group;have Q:=q.weight;have K:=q.to;have L:=q.ticks;have zH:=q.mask;have qP:=q.kind;unfold aX at N O P Q K L
 obtain ⟨b,rfl⟩:=zx (d.own (i:=3) rfl) om
 refine (mq d Tryz.func152 32) ?_
 refine (JP∘JE) λw3 g3=>(bM 2∘bN 1∘Jg 1 O0∘JI (h:=by exact λd=>EY 1 d rfl j o.cpu)) λw9 R=>(Jp 1∘eP∘Jj) (nH (λf=>?_) λf=>?_)
 ·
  exact (JT∘bE 2∘bW) λd=>by exact qv (y:=(⟨cp,cr,gA,gc,gs,lA,lc,cl,some ⟨b,0,none⟩,uc,cu,tA,tc,ts,sA,sc,rs⟩:aF)) 1 d rfl e (if_pos (decide_eq_false f))
 replace f:0<=o.cpu/\o.cpu<cp:=f
 obtain ⟨c,p⟩:∃n:Nat,o.cpu=(n:Int):=⟨o.cpu.toNat,by omega⟩
 have rW:((c:Nat):Int)<cp:=by omega
 refine (aQ) λa Z d=>?_
 refine wp_seq ?_
 refine Jb Z d ((Vs .n [12]) λwd3=>(Vp [0]∘Vf 5 1∘Vp [7]∘Vf 8 1∘Vn 1∘Vf 2 0∘Vf 3 4∘Vc 4 O1∘Vc 6 O0∘Vo (vI c) (by rw [p])∘Vc 9 O0∘Vo (vI c) (by rw [p])∘VI 10 .n (h:=by exact λd=>zd5 1 d rfl j (by show ((c:Nat):Int)<cp;omega))) λNT R=>(Vy 11 (h:=by exact Yl.iO b c 1 rfl rfl rfl)) λa Z d HS=>?_)
 refine s_on Z 12 rfl ?_
 refine zj Z d (i:=4) rfl rfl rfl rfl kr rfl rfl (by rw [abw];omega) λS d=>?_
 replace d:=d.dG (i:=4) (ys:=(cu.set c (pU (⟨cp,cr,gA,gc,gs,lA,lc,cl,some ⟨b,0,none⟩,uc,cu,tA,tc,ts,sA,sc,rs⟩:aF).ay c:Int)).map aZ) rfl (Mf aZ cu c (pU (⟨cp,cr,gA,gc,gs,lA,lc,cl,some ⟨b,0,none⟩,uc,cu,tA,tc,ts,sA,sc,rs⟩:aF).ay c:Int) om)
 refine dU kr ?_
 refine qe kr ?_
 refine wp_seq ?_
 exact Jb Z d ((Vs .n []) λwd4=>(Vp [0]∘Vf 5 1∘Vn 1∘Vf 2 0∘Vf 3 4∘Vc 4 O1∘Vc 6 O0∘Vo (vI c) (by rw [p])∘Vy 7 (h:=by exact Yl.iO b c 1 rfl rfl rfl)∘Vy 8 (v:=vI (pU (⟨cp,cr,gA,gc,gs,lA,lc,cl,some ⟨b,0,none⟩,uc,cu,tA,tc,ts,sA,sc,rs⟩:aF).ay c)) (h:=by exact Pd rfl rfl kr (λ_ h=>h.Xm (i:=4) rfl (k:=c) (vw (F:=aZ) (k:=c) (x:=(pU (⟨cp,cr,gA,gc,gs,lA,lc,cl,some ⟨b,0,none⟩,uc,cu,tA,tc,ts,sA,sc,rs⟩:aF).ay c:Int)) ((List.getElem?_set_self om)))))∘Vp [9,10]∘Vd∘JZ∘bW) λd=>by exact qv (y:=(⟨cp,cr,gA,gc,gs,lA,lc,cl,some ⟨b,0,none⟩,uc,(cu.set c (pU (⟨cp,cr,gA,gc,gs,lA,lc,cl,some ⟨b,0,none⟩,uc,cu,tA,tc,ts,sA,sc,rs⟩:aF).ay c:Int)),tA,tc,ts,sA,sc,rs⟩:aF)) 1 d rfl ⟨e.g,e.l,by show abo (cu.set _ _)=A;rw [abK];exact z,e.t,e.s⟩ (zdm (x:=(⟨cp,cr,gA,gc,gs,lA,lc,cl,some ⟨b,0,none⟩,uc,cu,tA,tc,ts,sA,sc,rs⟩:aF)) p (decide_eq_true f)))
def Fb (x e:En) (a:x.Ok) (d:Nat) (b:d<=4294967295) (c:x.add d=e) (w:aiM):Calls abp 210 #[.agg x.cells,vI d] w (Is w (.tuple #[.agg e.cells,vI 0])):=c▸zdl x a d b w
def qyy (n:Nat) (e:Mem W w F) (f:F.drop n=jM d x c m g a b++T) (h:dY x c m g a b) (id:Int) (k:Nat) (hk:fidx x.ts id=(k:Int)):Calls abp 161 #[vP d 0,vI id] w (Is w (vI k)):=hk▸IE n e f h id
def zd8 {m k b f i c:Nat} (h:dY x m k b f i) (v:Int) (j:0<=v/\v<=281474976710656):dY ({x with cl:=x.cl.set c v}:aF) m k b f i:=by
 refine ⟨⟨h.ok.au,h.ok.aj,h.ok.gs,λz hz=>?_,h.ok.cu,h.ok.ts,h.ok.sp⟩,⟨h.few.g,by show abo (x.cl.set c v)<=_;rw [abK];exact h.few.l,h.few.u,h.few.t,h.few.s,h.few.r⟩,⟨h.sh.cfg,by show (abo (x.cl.set c v):Int)=_;rw [abK];exact h.sh.cl,h.sh.cu,h.sh.rs,λd n=>?_,h.sh.row,h.sh.tk⟩,⟨h.ln.g,by show abo (x.cl.set c v)=_;rw [abK];exact h.ln.l,h.ln.u,h.ln.t,h.ln.s⟩⟩
 ·rcases ab4 hz with o|rfl
  ·exact h.ok.cl z o
  ·unfold aX;omega
 ·have a:d<abo (x.cl.set c v):=n
  show iQ ((x.cl.set c v).getD d 0)=true
  rw [abK] at a
  by_cases e:c=d
  ·subst e
   rw [zd _ _ a]
   unfold iQ
   rw [decide_eq_true j]
  ·rw [getD_set_ne _ _ e]
   exact h.sh.cls d a
def qtl (h:fu x.ay c=true) (a:x.cu.getD c 0≠0):∃(k:Nat) (t:Tk),fidx x.ts (x.cu.getD c 0)=(k:Int)/\x.ts[k]?=some t/\k<abo x.ts/\t.id=x.cu.getD c 0:=by
 refine II λb=>?_
 rw [qod a (q60 b)] at h
 cases h
abbrev ahQ:=λa b c d e f g=>((9,vP a 0)::(8,vP b (c*8))::(67,.bool false)::(7,vI d)::(33,.bool false)::(24,.bool false)::(18,.bool false)::(6,vP e 0)::(5,vI 0)::(4,vI 0)::(3,vP f 0)::(0,vP e 0)::g:List (Nat×aiN))
def q2g (W w:aiM) (x:aF) (M:Nat) (R N S O Q:Nat) (U:dY x R N S O Q) (o:bP) (ho:o.Ok) (T:List aiX) (b:Mem W w (jM M x R N S O Q++T)) (hcur:∀c,c<abo x.cu->fu x.ay c=true):
    Calls abp 151 #[vP M 0,.agg o.cells] w (kK W M T (jO x.ay o)):=by
 obtain ⟨cp,cr,gA,gc,gs,lA,lc,cl,uA,uc,cu,tA,tc,ts,sA,sc,rs⟩:=x
 replace b:Mem W w (fM M cp cr gA R gc lA N lc uA S uc tA O tc sA Q sc::fG gA R gc gs::fI lA N lc cl::fI uA S uc cu::fT tA O tc ts::fS sA Q sc rs::(fR rs++(T))):=b
 obtain ⟨mP,hll,nT,hlt,hls⟩:=U.ln
 replace mP:abo gs=R:=mP;replace hll:abo cl=N:=hll;replace nT:abo cu=S:=nT;replace hlt:abo ts=O:=hlt;replace hls:abo rs=Q:=hls
 have H:=U.ln
 have hsp:fH gs cp rs:=U.spots
 have hrg:abo rs=abo gs:=U.sh.rs
 have hcr:cr<18446744073709551616:=U.ok.aj
 obtain ⟨hcp1,hcp2,_,V⟩:=mM U.sh.cfg
 replace hcp1:1<=cp:=hcp1;replace hcp2:cp<=64:=hcp2;replace V:dO gs=true:=V
 have nU:=(qt V).1;have nV:=(qt V).2.1
 have qO:(abo cl:Int)=cp:=U.sh.cl;have oZ:(abo cu:Int)=cp:=U.sh.cu
 have nW:abo ts<=1000000:=U.few.t
 have hoc:=ho.cpu;have hot:=ho.task;have hog:=ho.group;have how:=ho.weight;have o7:=ho.to;have o8:=ho.ticks;have zH:=ho.mask;have qP:=ho.kind;unfold aX at hoc hot hog how o7 o8
 have SQ:=U.ok.cu;have anV:=U.ok.cl
 have hcls:=U.sh.cls
 obtain ⟨B,rfl⟩:=zx (b.own (i:=1) rfl) om
 obtain ⟨q,rfl⟩:=zx (b.own (i:=2) rfl) om
 obtain ⟨C,rfl⟩:=zx (b.own (i:=3) rfl) om
 obtain ⟨D,rfl⟩:=zx (b.own (i:=5) rfl) om
 refine (mq b Tryz.func151 158) ?_
 refine (JP∘JE) λw3 g3=>(Jp 2∘bg 1∘Jn∘Jf 0∘Jp 1∘eP∘Jj∘JQ∘JB∘aM 1∘Jg 1 O0∘JI (h:=by exact λb=>EY 1 b rfl U o.cpu)) λQl L=>(Jp 2∘fJ∘Jj) (nH (λJ=>?_) λJ=>?_)
 ·
  exact (JT∘bE 2∘bW) λb=>by exact qv (y:=(⟨cp,cr,some ⟨B,0,none⟩,gc,gs,some ⟨q,0,none⟩,lc,cl,some ⟨C,0,none⟩,uc,cu,tA,tc,ts,some ⟨D,0,none⟩,sc,rs⟩:aF)) 1 b rfl H (if_pos (decide_eq_false J))
 replace J:0<=o.cpu/\o.cpu<cp:=J
 obtain ⟨c,X⟩:∃n:Nat,o.cpu=(n:Int):=⟨o.cpu.toNat,by omega⟩
 have rW:((c:Nat):Int)<cp:=by omega
 have Y:=hcls c (by show c<abo cl;omega);replace Y:0<=(cl.getD c 0)/\(cl.getD c 0)<=281474976710656:=by unfold iQ at Y;simpa using Y
 obtain ⟨v,hv⟩:∃z,(cl.getD c 0)=z:=⟨_,rfl⟩
 rw [hv] at Y
 refine (JF∘JP∘Jg 6 O0∘Jp 2) (Ji (λhd28=>?_) λhd28=>?_)
 ·
  exact (Jp 5∘aJ∘Jj∘JT∘bE 2∘bW) λb=>by exact qv (y:=(⟨cp,cr,some ⟨B,0,none⟩,gc,gs,some ⟨q,0,none⟩,lc,cl,some ⟨C,0,none⟩,uc,cu,tA,tc,ts,some ⟨D,0,none⟩,sc,rs⟩:aF)) 1 b rfl H ((if_neg (nf (decide_eq_true J))).trans (if_pos om))
 refine (Jg 6 O0∘Jp 3∘aJ∘Jj) (Ji (λhd24=>?_) λhd24=>?_)
 ·
  exact (JT∘bE 2∘bW) λb=>by exact qv (y:=(⟨cp,cr,some ⟨B,0,none⟩,gc,gs,some ⟨q,0,none⟩,lc,cl,some ⟨C,0,none⟩,uc,cu,tA,tc,ts,some ⟨D,0,none⟩,sc,rs⟩:aF)) 1 b rfl H ((if_neg (nf (decide_eq_true J))).trans (if_pos om))
 have htk:1<=o.ticks/\o.ticks<=4294967295:=by omega
 obtain ⟨d,hod⟩:∃n:Nat,o.ticks=(n:Int):=⟨o.ticks.toNat,by omega⟩
 have hd0:d<=4294967295:=by omega
 refine (JF) λa Z b=>?_
 refine wp_seq ?_
 refine Jb Z b ((Vs .n []) λGV=>(Vp [0]∘Vf 4 1∘Vf 8 6∘Vn 1∘Vf 2 3∘Vc 3 O1∘Vc 5 O0∘Vo (vI c) (by rw [X])∘Vy 6 (h:=by exact Yl.iO q c 1 rfl rfl rfl)∘Vy 7 (v:=vI (cl.getD c 0)) (h:=by exact aae 3 c 0 om rfl rfl rfl)∘Vo (vI v) (by rw [hv])∘Vc 9 O0∘Vo (vI d) (by rw [hod])∘Vp [10]∘Vo (vI (v+d)) (by exact nD ⟨by omega,by omega⟩)∘Vp [11,12]∘Vd∘aJ) (Ji (λSS=>?_) λSS=>?_))
 ·
  exact (JT∘bE 2∘bW) λb=>by exact qv (y:=(⟨cp,cr,some ⟨B,0,none⟩,gc,gs,some ⟨q,0,none⟩,lc,cl,some ⟨C,0,none⟩,uc,cu,tA,tc,ts,some ⟨D,0,none⟩,sc,rs⟩:aF)) 1 b rfl H ((if_neg (nf (decide_eq_true J))).trans ((if_neg om).trans (if_pos (by show 281474976710656<cl.getD o.cpu.toNat 0+o.ticks;rw [X,abH,hv];omega))))
 obtain ⟨id,hid⟩:∃z,cu.getD c 0=z:=⟨_,rfl⟩
 have hxk:=zd8 (x:=(⟨cp,cr,some ⟨B,0,none⟩,gc,gs,some ⟨q,0,none⟩,lc,cl,some ⟨C,0,none⟩,uc,cu,tA,tc,ts,some ⟨D,0,none⟩,sc,rs⟩:aF)) (c:=c) U (v+d) ⟨by omega,by omega⟩
 have SV:aX id:=by rw [<-hid];exact SQ _ (qf 0 (by show c<abo cu;omega))
 intro a Z b
 unfold aX at SV
 refine Jb Z b ((aQ) λa Z b=>?_)
 refine wp_seq ?_
 refine Jb Z b ((Vs .n [12]) λNP=>(Vp [0]∘Vf 4 1∘Vf 8 6∘Vn 1∘Vf 2 3∘Vc 3 O1∘Vc 5 O0∘Vo (vI c) (by rw [X])∘Vy 6 (h:=by exact Yl.iO q c 1 rfl rfl rfl)∘Vy 7 (v:=vI (cl.getD c 0)) (h:=by exact aae 3 c 0 om rfl rfl rfl)∘Vo (vI v) (by rw [hv])∘Vc 9 O0∘Vo (vI d) (by rw [hod])∘Vp [10]∘Vo (vI (v+d)) (by exact nD ⟨by omega,by omega⟩)∘Vy 11 (h:=by exact Yl.iO q c 1 rfl rfl rfl)) λa Z b I=>?_)
 refine s_on Z 12 rfl ?_
 refine zj Z b (i:=3) rfl rfl rfl rfl kr rfl rfl (by rw [abw];omega) λabF b=>?_
 replace b:=b.dG (i:=3) (ys:=(cl.set c (v+d)).map aZ) rfl (Mf aZ cl c (v+d) om)
 refine dU kr ?_
 refine qe kr ?_
 refine wp_seq ?_
 refine Jb Z b ((Vs .n []) λRl=>(Vp [0]∘Vf 4 1∘Vn 1∘Vf 2 4∘Vc 3 O1∘Vc 5 O0∘Vo (vI c) (by rw [X])∘Vy 6 (h:=by exact Yl.iO C c 1 rfl rfl rfl)∘Vy 7 (v:=vI (cu.getD c 0)) (h:=by exact aae 4 c 0 om rfl rfl rfl)∘Vo (vI id) (by rw [hid])∘Vp [8]∘Vd∘aJ∘bN 2∘aL∘Jj) (Je (λDn=>?_) λDn=>?_))
 ·
  exact (JT∘bE 2∘bW) λb=>by exact qv (y:=(⟨cp,cr,some ⟨B,0,none⟩,gc,gs,some ⟨q,0,none⟩,lc,(cl.set c (v+d)),some ⟨C,0,none⟩,uc,cu,tA,tc,ts,some ⟨D,0,none⟩,sc,rs⟩:aF)) 1 b rfl ⟨H.g,by show abo (cl.set _ _)=N;rw [abK];exact hll,H.u,H.t,H.s⟩ ((q7e (x:=(⟨cp,cr,some ⟨B,0,none⟩,gc,gs,some ⟨q,0,none⟩,lc,cl,some ⟨C,0,none⟩,uc,cu,tA,tc,ts,some ⟨D,0,none⟩,sc,rs⟩:aF)) (decide_eq_true J) htk X hv om (hid.trans om)).trans (by rw [hod]))
 have IW:id≠0:=by omega
 have IX:=qtl (x:=(⟨cp,cr,some ⟨B,0,none⟩,gc,gs,some ⟨q,0,none⟩,lc,cl,some ⟨C,0,none⟩,uc,cu,tA,tc,ts,some ⟨D,0,none⟩,sc,rs⟩:aF)) (hcur c (by show c<abo cu;omega)) (by show cu.getD c 0≠0;rw [hid];exact IW)
 rw [show (⟨cp,cr,some ⟨B,0,none⟩,gc,gs,some ⟨q,0,none⟩,lc,cl,some ⟨C,0,none⟩,uc,cu,tA,tc,ts,some ⟨D,0,none⟩,sc,rs⟩:aF).cu.getD c 0=id from hid] at IX
 obtain ⟨k,t,hk,ht,hkl,zI⟩:=IX
 replace hk:fidx ts id=(k:Int):=hk;replace ht:ts[k]?=some t:=ht;replace hkl:k<abo ts:=hkl
 obtain ⟨IY,hto⟩:=U.task ht
 have hti:=IY.id;have wI:=IY.group;have htc:=IY.cpu;have IU:=IY.weight;have zJ:=hto.v;have htr:=hto.r;have IV:=hto.mask
 replace htc:0<=t.cpu/\t.cpu<cp:=htc
 obtain ⟨gt,hgt⟩:∃n:Nat,t.group=(n:Int):=⟨t.group.toNat,by omega⟩
 obtain ⟨ct,hct⟩:∃n:Nat,t.cpu=(n:Int):=⟨t.cpu.toNat,by omega⟩
 obtain ⟨wt,hwt⟩:∃n:Nat,t.weight=(n:Int):=⟨t.weight.toNat,by omega⟩
 have sH:(⟨t.v,t.r,wt⟩:En).Ok:=aaj IY.ent hwt zJ
 obtain ⟨e,IZ⟩:∃e,(⟨t.v,t.r,wt⟩:En).add d=e:=⟨_,rfl⟩
 have vG:e.Ok/\e.w=wt:=by rw [<-IZ];exact aaA sH d
 repeat (first|clear Z|clear b)
 intro a Z b
 obtain ⟨E,rfl⟩:=b.rat 5 k (hk:=(by omega:k<O))
 refine Jb Z b ((aQ) λa Z b=>?_)
 refine wp_seq ?_
 refine Jb Z b ((Vs .n []) λGZ=>(Vp [0,4,5]∘Vn 1∘Vf 2 5∘Vc 3 O1∘VI 6 .n (h:=by exact λb=>qyy 1 b rfl hxk id k hk)) λw74 L=>(Vy 7 (h:=by exact Yl.iO E k 8 rfl rfl rfl)∘Vp [8]∘Vd∘aJ) λa Z b=>?_)
 refine qy (λaS wS=>∃(P:Nat),Fr aS 158 [] (ahQ P E k id M g3 [])/\Mem W wS (.blk P e.cells 333:: .blk g3 o.cells 214::fM M cp cr (some ⟨B,0,none⟩) R gc (some ⟨q,0,none⟩) N lc (some ⟨C,0,none⟩) S uc (some ⟨E,0,none⟩) O tc (some ⟨D,0,none⟩) Q sc::fG (some ⟨B,0,none⟩) R gc gs::fI (some ⟨q,0,none⟩) N lc (cl.set c (v+d))::fI (some ⟨C,0,none⟩) S uc cu::fT (some ⟨E,0,none⟩) O tc ts::fS (some ⟨D,0,none⟩) Q sc rs::(fR rs++(T)))) ?_ ?_
 ·
  refine Jb Z b ((Vs .n [20]) λIg=>(Vp [0,4,8]∘Vf 13 6∘Vn 1∘Vf 2 6∘Vy 3 (v:=vQ t.v) (h:=by exact Pd rfl rfl kr (λ_ h=>h.qw qm (i:=5) rfl (k:=k) (off:=6) (x:=t) (ht) rfl))∘Vn 5∘Vf 6 7∘Vy 7 (v:=vW t.r) (h:=by exact Pd rfl rfl kr (λ_ h=>h.qw qm (i:=5) rfl (k:=k) (off:=7) (x:=t) (ht) rfl))∘Vn 9∘Vf 10 2∘Vy 11 (v:=vI t.weight) (h:=by exact Pd rfl rfl kr (λ_ h=>h.qw qm (i:=5) rfl (k:=k) (off:=2) (x:=t) (ht) rfl))∘Vo (vI wt) (by rw [hwt])∘Vc 14 O0∘Vo (vI d) (by rw [hod])) λa Z b I=>?_)
  refine zf [12,19] kr rfl ?_
  refine all_cons ?_ ?_
  ·refine qu Z (i:=12) rfl rfl ?_
   refine jq Z b [vQ t.v,vW t.r,vI wt] (.agg #[vQ t.v,vW t.r,vW wt]) rfl rfl (zg t.v t.r (wt:Int) om _) λSX L b a Z=>?_
   refine av (b.pt 7 [0,1,2,3,4,5,6]) (λI=>?_)
   refine zf [15,19] kr rfl ?_
   refine all_cons ?_ ?_
   ·refine qu Z (i:=15) rfl rfl ?_
    refine jq Z b [.agg #[vQ t.v,vW t.r,vW wt],vI d] (.tuple #[.agg e.cells,vI 0]) rfl rfl (Fb (⟨t.v,t.r,wt⟩:En) e sH d hd0 IZ _) λSL L b a Z=>?_
    refine av (b.pt 7 [0,1,2,3,4,5,6]) (λI=>?_)
    refine Vb Z b I ((Vp [16]∘Vx 17∘Vx 18∘VA 19 .n #[vQ 0,vW 0,vW 0]) λw9 P=>λa Z b I=>?_)
    refine s_on Z 20 rfl (bS Z b 0 rfl rfl rfl rfl rfl qp rfl rfl (mD e) λwJ b=>?_)
    refine dU kr ?_
    refine ap Z (bZ kr) [21] (bt 22 []) [] λa Z=>?_
    refine qe kr ?_
    replace Z:=Z.to (ahQ P E k id M g3 [])
    exact ⟨P,Z.sub kr,b.pt 8 [0,1,2,3,4,5,6,7]⟩
   refine all_cons ?_ all_nil
   refine qu Z (i:=19) rfl rfl ?_
   refine gX Z b #[vQ 0,vW 0,vW 0] ?_
   clear Z b;intro a w9 P Z b
   refine av (b.pt 8 [1,2,3,4,5,6,7]) (λI=>?_)
   refine Vb Z b I ((VI 15 (.f .n) (h:=by exact λb=>Fb (⟨t.v,t.r,wt⟩:En) e sH d hd0 IZ _)) λSL L=>(Vp [16]∘Vx 17∘Vx 18) λa Z b I=>?_)
   refine s_on Z 20 rfl (bS Z b 0 rfl rfl rfl rfl rfl qp rfl rfl (mD e) λwJ b=>?_)
   refine dU kr ?_
   refine ap Z (bZ kr) [21] (bt 22 []) [] λa Z=>?_
   refine qe kr ?_
   replace Z:=Z.to (ahQ P E k id M g3 [])
   exact ⟨P,Z.sub kr,b.pt 8 [0,1,2,3,4,5,6,7]⟩
  refine all_cons ?_ all_nil
  refine qu Z (i:=19) rfl rfl ?_
  refine gX Z b #[vQ 0,vW 0,vW 0] ?_
  clear Z b;intro a w9 P Z b
  refine av (b.pt 8 [1,2,3,4,5,6,7]) (λI=>?_)
  refine Vb Z b I ((VI 12 (.f .n) (h:=by exact λb=>zg t.v t.r (wt:Int) om _)) λSX L=>(VI 15 (.f .n) (h:=by exact λb=>Fb (⟨t.v,t.r,wt⟩:En) e sH d hd0 IZ _)) λSL L=>(Vp [16]∘Vx 17∘Vx 18) λa Z b I=>?_)
  refine s_on Z 20 rfl (bS Z b 0 rfl rfl rfl rfl rfl qp rfl rfl (mD e) λwJ b=>?_)
  refine dU kr ?_
  refine ap Z (bZ kr) [21] (bt 22 []) [] λa Z=>?_
  refine qe kr ?_
  replace Z:=Z.to (ahQ P E k id M g3 [])
  exact ⟨P,Z.sub kr,b.pt 8 [0,1,2,3,4,5,6,7]⟩
 clear Z b;rintro a vH ⟨P,Z,b⟩
 refine Jb Z b ((aM 1∘eH qp O0∘JO (h:=by exact λb=>Nw t e uK b ht hlt vG.1)) λRa=>(oo∘Jj∘bN 1∘Jn∘Jf 1∘Jy (v:=vI ((t.put e).group)) (h:=by exact Pd rfl rfl kr (λ_ h=>h.qw qm (i:=6) rfl (k:=k) (off:=1) (x:=(t.put e)) ((yw ht)) rfl))∘Jo (vI gt) (by rw [<-hgt];try rfl)∘Jp 1∘fJ∘Jj∘JB) λa Z b=>?_)
 refine qg (λmS aS wS=>∃(g:Nat) (F:List Rw),(g<Q)/\(abo F=Q)/\(fH gs cp F)/\(E5 c d g (⟨cp,cr,some ⟨B,0,none⟩,gc,gs,some ⟨q,0,none⟩,lc,cl.set c (v+d),some ⟨C,0,none⟩,uc,cu,some ⟨E,0,none⟩,tc,ts.set k (t.put e),some ⟨D,0,none⟩,sc,F⟩:aF).ay=E5 c d gt (⟨cp,cr,some ⟨B,0,none⟩,gc,gs,some ⟨q,0,none⟩,lc,cl.set c (v+d),some ⟨C,0,none⟩,uc,cu,some ⟨E,0,none⟩,tc,ts.set k (t.put e),some ⟨D,0,none⟩,sc,rs⟩:aF).ay)/\mS=0+g/\Fr aS 158 [] ((11,vI g)::ahQ P E k id M g3 [])/\Mem W wS (.blk P e.cells 333:: .blk g3 o.cells 214::fM M cp cr (some ⟨B,0,none⟩) R gc (some ⟨q,0,none⟩) N lc (some ⟨C,0,none⟩) S uc (some ⟨E,0,none⟩) O tc (some ⟨D,0,none⟩) Q sc::fG (some ⟨B,0,none⟩) R gc gs::fI (some ⟨q,0,none⟩) N lc (cl.set c (v+d))::fI (some ⟨C,0,none⟩) S uc cu::fT (some ⟨E,0,none⟩) O tc (ts.set k (t.put e))::fS (some ⟨D,0,none⟩) Q sc F::(fR F++(T)))) (m:=0+gt) ⟨gt,rs,by omega,hls,hsp,rfl,rfl,Z.sub kr,b.pt 8 [0,1,2,3,4,5,6,7]⟩ ?_
 clear Z b;rintro mS a w_ ⟨g,F,hg,hl2,hsp2,nX,rfl,Z,b⟩
 refine Jb Z b ((bN 2∘aL∘Jj) (Ji (λI4=>?_) λI4=>?_))
 ·
  have hg0:0<g:=by omega
  obtain ⟨⟨yA,yc,yl⟩,hy⟩:∃y,F.getD g Rw.zero=y:=⟨_,rfl⟩
  have hys:=hsp2 g om;rw [hy] at hys
  have hyl:(abo yl:Int)=cp:=hys.1
  repeat (first|clear Z|clear b)
  intro a Z b
  obtain ⟨gy,rfl⟩:=b.jQ 8 rfl om hy om
  obtain ⟨G,hyz⟩:∃z,yl[c]?=some z:=⟨_,abr om⟩
  have nK:=hys.2 G (abJ hyz)
  have hyv:=nK.1.v;have sN:=nK.1.r;have sS:=nK.1.floor
  have hpb:=yX V (g:=g) om g hg0 (abu _)
  unfold fq at hpb
  obtain ⟨p,hpp⟩:∃p:Nat,(gs.getD g Gr.zero).parent=(p:Int):=⟨(gs.getD g Gr.zero).parent.toNat,by omega⟩
  have hpg:p<g:=by omega
  obtain ⟨zw,Bb,SY,S9⟩:=Nv V (g:=g) om
  have Bc:(⟨G.v,G.r,zw⟩:En).Ok:=aaj nK.2 Bb nK.1.v
  obtain ⟨f,hfw⟩:∃e,(⟨G.v,G.r,zw⟩:En).add d=e:=⟨_,rfl⟩
  have hfo:f.Ok/\f.w=zw:=by rw [<-hfw];exact aaA Bc d
  have hfv:=hfo.1.2;have hfr:f.r<4294967296:=by have:=Ba hfo.1.1;omega
  refine Jb Z b ((eY) λa Z b=>?_)
  refine wp_seq ?_
  refine Jb Z b ((Vs .n []) λGq=>(Vp [0,4]∘Vf 7 1∘Vn 1∘Vf 2 6∘Vc 3 O2∘Vy 5 (h:=by exact Yl.iO D g 1 rfl rfl rfl)∘Vy 6 (v:= .slice ((F.getD g Rw.zero).A) ((F.getD g Rw.zero).l.length) ((F.getD g Rw.zero).c)) (h:=by exact aae 7 g Rw.zero om rfl rfl rfl)∘Vo (vS gy (abo yl) yc) (by rw [hy])∘Vc 8 O1∘Vo (vI c) (by rw [X])∘Vy 9 (h:=by exact Yl.iO gy c 3 rfl rfl rfl)∘Vp [10]∘Vd∘aJ) λa Z b=>?_)
  refine qy (λaS wS=>∃(K:Nat),Fr aS 158 [] ((13,vP K 0)::(12,vP gy (c*3))::(103,.bool true)::(11,vI g)::ahQ P E k id M g3 [])/\Mem W wS (.blk K f.cells 333:: .blk P e.cells 333:: .blk g3 o.cells 214::fM M cp cr (some ⟨B,0,none⟩) R gc (some ⟨q,0,none⟩) N lc (some ⟨C,0,none⟩) S uc (some ⟨E,0,none⟩) O tc (some ⟨D,0,none⟩) Q sc::fG (some ⟨B,0,none⟩) R gc gs::fI (some ⟨q,0,none⟩) N lc (cl.set c (v+d))::fI (some ⟨C,0,none⟩) S uc cu::fT (some ⟨E,0,none⟩) O tc (ts.set k (t.put e))::fS (some ⟨D,0,none⟩) Q sc F::(fR F++(T)))) ?_ ?_
  ·
   refine Jb Z b ((Vs .n [25]) λQB=>(Vp [0,4,8,13]∘Vf 18 6∘Vn 1∘Vf 2 0∘Vy 3 (v:=vQ G.v) (h:=by exact Pd rfl rfl kr (λ_ h=>h.uS 8 (j:=0) rfl om hy (hyz) rfl))∘Vn 5∘Vf 6 1∘Vy 7 (v:=vW G.r) (h:=by exact Pd rfl rfl kr (λ_ h=>h.uS 8 (j:=1) rfl om hy (hyz) rfl))∘Vn 9∘Vf 10 0∘Vf 11 2∘Vc 12 O2∘Vy 14 (h:=by exact Yl.iO B g 2 rfl rfl rfl)∘Vf 15 1∘Vy 16 (v:=vI ((gs.getD g Gr.zero).weight)) (h:=by exact Pd rfl rfl kr (λ_ h=>h.qw pR (i:=3) rfl (k:=g) (off:=1) (x:=(gs.getD g Gr.zero)) ((getD_at Gr.zero om)) rfl))∘Vo (vI zw) (by rw [Bb])∘Vc 19 O1∘Vo (vI d) (by rw [hod])) λa Z b I=>?_)
   refine zf [17,24] kr rfl ?_
   refine all_cons ?_ ?_
   ·refine qu Z (i:=17) rfl rfl ?_
    refine jq Z b [vQ G.v,vW G.r,vI zw] (.agg #[vQ G.v,vW G.r,vW zw]) rfl rfl (zg G.v G.r (zw:Int) om _) λDp L b a Z=>?_
    refine av (b.pt 8 [0,1,2,3,4,5,6,7]) (λI=>?_)
    refine zf [20,24] kr rfl ?_
    refine all_cons ?_ ?_
    ·refine qu Z (i:=20) rfl rfl ?_
     refine jq Z b [.agg #[vQ G.v,vW G.r,vW zw],vI d] (.tuple #[.agg f.cells,vI 0]) rfl rfl (Fb (⟨G.v,G.r,zw⟩:En) f Bc d hd0 hfw _) λDq L b a Z=>?_
     refine av (b.pt 8 [0,1,2,3,4,5,6,7]) (λI=>?_)
     refine Vb Z b I ((Vp [21]∘Vx 22∘Vx 23∘VA 24 .n #[vQ 0,vW 0,vW 0]) λvH K=>λa Z b I=>?_)
     refine s_on Z 25 rfl (bS Z b 0 rfl rfl rfl rfl rfl qp rfl rfl (mD f) λwK b=>?_)
     refine dU kr ?_
     refine ap Z (bZ kr) [26] (bt 27 []) [] λa Z=>?_
     refine qe kr ?_
     exact ⟨K,Z.sub kr,b.pt 9 [0,1,2,3,4,5,6,7,8]⟩
    refine all_cons ?_ all_nil
    refine qu Z (i:=24) rfl rfl ?_
    refine gX Z b #[vQ 0,vW 0,vW 0] ?_
    clear Z b;intro a vH K Z b
    refine av (b.pt 9 [1,2,3,4,5,6,7,8]) (λI=>?_)
    refine Vb Z b I ((VI 20 (.f .n) (h:=by exact λb=>Fb (⟨G.v,G.r,zw⟩:En) f Bc d hd0 hfw _)) λDq L=>(Vp [21]∘Vx 22∘Vx 23) λa Z b I=>?_)
    refine s_on Z 25 rfl (bS Z b 0 rfl rfl rfl rfl rfl qp rfl rfl (mD f) λwK b=>?_)
    refine dU kr ?_
    refine ap Z (bZ kr) [26] (bt 27 []) [] λa Z=>?_
    refine qe kr ?_
    exact ⟨K,Z.sub kr,b.pt 9 [0,1,2,3,4,5,6,7,8]⟩
   refine all_cons ?_ all_nil
   refine qu Z (i:=24) rfl rfl ?_
   refine gX Z b #[vQ 0,vW 0,vW 0] ?_
   clear Z b;intro a vH K Z b
   refine av (b.pt 9 [1,2,3,4,5,6,7,8]) (λI=>?_)
   refine Vb Z b I ((VI 17 (.f .n) (h:=by exact λb=>zg G.v G.r (zw:Int) om _)) λDp L=>(VI 20 (.f .n) (h:=by exact λb=>Fb (⟨G.v,G.r,zw⟩:En) f Bc d hd0 hfw _)) λDq L=>(Vp [21]∘Vx 22∘Vx 23) λa Z b I=>?_)
   refine s_on Z 25 rfl (bS Z b 0 rfl rfl rfl rfl rfl qp rfl rfl (mD f) λwK b=>?_)
   refine dU kr ?_
   refine ap Z (bZ kr) [26] (bt 27 []) [] λa Z=>?_
   refine qe kr ?_
   exact ⟨K,Z.sub kr,b.pt 9 [0,1,2,3,4,5,6,7,8]⟩
  clear Z b;rintro a NU ⟨K,Z,b⟩
  refine FX b [.blk K f.cells 333,.blk P e.cells 333,.blk g3 o.cells 214,fM M cp cr (some ⟨B,0,none⟩) R gc (some ⟨q,0,none⟩) N lc (some ⟨C,0,none⟩) S uc (some ⟨E,0,none⟩) O tc (some ⟨D,0,none⟩) Q sc,fG (some ⟨B,0,none⟩) R gc gs,fI (some ⟨q,0,none⟩) N lc (cl.set c (v+d)),fI (some ⟨C,0,none⟩) S uc cu,fT (some ⟨E,0,none⟩) O tc (ts.set k (t.put e))] [0,1,2,3,4,5,6,7] [11] λb I=>?_
  refine ap Z (λ_=>I) [0,1,2,4] (bf 12 [0,1,2,4]) [(151,vP K 1),(149,vP K 0),(148,vP gy (c*3)),(147,vP gy (c*3))] λa Z=>?_
  refine dH Z I 3 0 (v:=vQ f.v) λa Z=>?_
  refine dH Z I 5 0 (v:=vW f.r) λa Z=>?_
  refine oO Z I 6 λa Z=>?_
  refine ap Z (λ_=>I) [7] (bt 12 [8,9,10,11]) [(154,vP gy (c*3))] λa Z=>?_
  refine s_on Z 8 rfl ?_
  refine Dj Z b 8 (c:=c) 0 ({G with v:=f.v}) rfl rfl rfl rfl kr rfl rfl om (hy) (hyz) rfl de rfl λI5 b=>?_
  replace b:Mem W I5 (.blk K f.cells 333:: .blk P e.cells 333:: .blk g3 o.cells 214::fM M cp cr (some ⟨B,0,none⟩) R gc (some ⟨q,0,none⟩) N lc (some ⟨C,0,none⟩) S uc (some ⟨E,0,none⟩) O tc (some ⟨D,0,none⟩) Q sc::fG (some ⟨B,0,none⟩) R gc gs::fI (some ⟨q,0,none⟩) N lc (cl.set c (v+d))::fI (some ⟨C,0,none⟩) S uc cu::fT (some ⟨E,0,none⟩) O tc (ts.set k (t.put e))::fS (some ⟨D,0,none⟩) Q sc (aT F g c ({G with v:=f.v}))::(fR (aT F g c ({G with v:=f.v}))++(T))):=b
  refine av (b.pk [0,1,2,3,4,5,6,7]) (λI=>?_)
  refine Ci Z (λ_=>I) 9 λa Z=>?_
  refine ap Z (λ_=>I) [10] (bt 12 [11]) [(156,vP gy (c*3+1))] λa Z=>?_
  refine s_on Z 11 rfl ?_
  refine Dj Z b 8 (c:=c) 1 ({G with v:=f.v,r:=f.r}) rfl rfl rfl rfl kr rfl rfl (by first|omega|(rw [zq];omega)) (Ns om hy) (yw hyz) rfl de rfl λDr b=>?_
  replace b:Mem W Dr (.blk K f.cells 333:: .blk P e.cells 333:: .blk g3 o.cells 214::fM M cp cr (some ⟨B,0,none⟩) R gc (some ⟨q,0,none⟩) N lc (some ⟨C,0,none⟩) S uc (some ⟨E,0,none⟩) O tc (some ⟨D,0,none⟩) Q sc::fG (some ⟨B,0,none⟩) R gc gs::fI (some ⟨q,0,none⟩) N lc (cl.set c (v+d))::fI (some ⟨C,0,none⟩) S uc cu::fT (some ⟨E,0,none⟩) O tc (ts.set k (t.put e))::fS (some ⟨D,0,none⟩) Q sc (aT (aT F g c ({G with v:=f.v})) g c ({G with v:=f.v,r:=f.r}))::(fR (aT (aT F g c ({G with v:=f.v})) g c ({G with v:=f.v,r:=f.r}))++(T))):=b
  rw [R9 (by first|omega|(rw [zq];omega))] at b
  refine dU kr ?_
  refine qe kr ?_
  refine Jb Z b ((JG∘JR∘Jp 1∘Jn∘Jf 0∘Jg 2 O3∘Jp 1∘nG g 2∘Jf 0∘Jy (v:=vI ((gs.getD g Gr.zero).parent)) (h:=by exact Pd rfl rfl kr (λ_ h=>(by have:=h.qw pR (i:=4) rfl (k:=g) (off:=0) (x:=(gs.getD g Gr.zero)) ((getD_at Gr.zero om)) rfl;simpa using this)))∘Jo (vI p) (by rw [hpp])∘Jp 1∘aJ∘Jq) λa Z b=>?_)
  exact ⟨_,om,p,(aT F g c {G with v:=f.v,r:=f.r}),by omega,by rw [zq];exact hl2,hsp2.put {G with v:=f.v,r:=f.r} ⟨hfv,hfr,nK.1.floor⟩ (by rw [Bb];have:=hfo.1.1;rw [hfo.2] at this;exact this),by rw [<-nX,qs7 (c:=c) (d:=d) (g:=g) (p:=p) (yX V om) hg0 hpp,qv9 (x:=(⟨cp,cr,some ⟨B,0,none⟩,gc,gs,some ⟨q,0,none⟩,lc,(cl.set c (v+d)),some ⟨C,0,none⟩,uc,cu,some ⟨E,0,none⟩,tc,(ts.set k (t.put e)),some ⟨D,0,none⟩,sc,F⟩:aF)) (by show g<abo F;omega) hy hyz Bb hfw],rfl,Z.sub kr,b.pt 9 [1,2,3,4,5,6,7,8]⟩
 exact (JF∘JX∘JG∘bE 3∘bW) λb=>by exact qv (y:=(⟨cp,cr,some ⟨B,0,none⟩,gc,gs,some ⟨q,0,none⟩,lc,(cl.set c (v+d)),some ⟨C,0,none⟩,uc,cu,some ⟨E,0,none⟩,tc,(ts.set k (t.put e)),some ⟨D,0,none⟩,sc,F⟩:aF)) 2 b rfl ⟨H.g,by show abo (cl.set _ _)=N;rw [abK];exact hll,H.u,by show abo (ts.set _ _)=O;rw [abK];exact hlt,hl2⟩ ((zdn (x:=(⟨cp,cr,some ⟨B,0,none⟩,gc,gs,some ⟨q,0,none⟩,lc,cl,some ⟨C,0,none⟩,uc,cu,some ⟨E,0,none⟩,tc,ts,some ⟨D,0,none⟩,sc,rs⟩:aF)) (decide_eq_true J) htk X hod hv om hid IW hk ht hgt hwt IZ).trans (by rw [<-show E5 c d g (⟨cp,cr,some ⟨B,0,none⟩,gc,gs,some ⟨q,0,none⟩,lc,cl.set c (v+d),some ⟨C,0,none⟩,uc,cu,some ⟨E,0,none⟩,tc,ts.set k (t.put e),some ⟨D,0,none⟩,sc,F⟩:aF).ay=_ from nX,show g=0 by omega];rfl))
def Ta (x e:En) (a:x.Ok) (fr to:Nat) (b:fr<18446744073709551616) (ht:to<18446744073709551616) (c:x.moved fr to=e) (w:aiM):Calls abp 269 #[.agg x.cells,vQ fr,vQ to] w (Is w (.tuple #[.agg e.cells,vI 0])):=c▸q7b x a fr to b ht w
def wL (w:aiM) (l:List Int) (v:Int) (r:aiQ) (a:aiM):Prop:=(∃i:Int,r= .returned (vI i)/\decide (i>=0)=decide (v∈l))/\Below w.heap.size w a
def q2h {l:List Int} {v:Int} (hk:k<abo l) (h:l.getD k 0=v) (hb:Below w.heap.size w W):wL w l v (.returned (vI k)) W:=⟨⟨k,rfl,decide_eq_decide.2 ⟨λ_=>h▸qf 0 hk,λ_=>by omega⟩⟩,hb⟩
def q2i {l:List Int} {v:Int} (h:∀i,i<abo l->l.getD i 0≠v) (hb:Below w.heap.size w W):wL w l v (.returned (vI (-1))) W:=by
 refine ⟨⟨-1,rfl,decide_eq_decide.2 ⟨λa=>by omega,λa=>?_⟩⟩,hb⟩
 obtain ⟨i,hi,rfl⟩:=acp a
 exact absurd (by rw [abt,abr hi];rfl) (h i hi)
def zkc {l:List Int} {v:Int} (h:∀i,i<k->l.getD i 0≠v) (hk:l.getD k 0≠v):∀i,i<k+1->l.getD i 0≠v:=λi hi=>by
 rcases ab6 i k with a|a
 ·exact h i a
 ·obtain rfl:i=k:=by omega
  exact hk
def zg4 {s:Nat} {v:Int} (hs:s=m) (hc:v=(c:Int)) (h:¬(m/2^c)%2=1):jE s v=false:=by
 subst hs;subst hc
 unfold jE
 rw [abH,decide_eq_false h]
def Tc {v:Int} (hc:v=(c:Int)) (h:(m/2^c)%2=1):jE m v=true:=by
 subst hc
 unfold jE
 rw [abH,decide_eq_true h]
def qqe (W w:aiM) (x:aF) (H:Nat) (B D E F C:Nat) (Y:dY x B D E F C) (o:bP) (ho:o.Ok) (T:List aiX) (b:Mem W w (jM H x B D E F C++T)):
    Calls abp 154 #[vP H 0,.agg o.cells] w (kK W H T (y7 x.ay o)):=by
 obtain ⟨cp,cr,gA,gc,gs,lA,lc,cl,uA,uc,cu,tA,tc,ts,sA,sc,rs⟩:=x
 replace b:Mem W w (fM H cp cr gA B gc lA D lc uA E uc tA F tc sA C sc::fG gA B gc gs::fI lA D lc cl::fI uA E uc cu::fT tA F tc ts::fS sA C sc rs::(fR rs++(T))):=b
 obtain ⟨mP,hll,nT,hlt,hls⟩:=Y.ln
 replace mP:abo gs=B:=mP;replace hll:abo cl=D:=hll;replace nT:abo cu=E:=nT;replace hlt:abo ts=F:=hlt;replace hls:abo rs=C:=hls
 have G:=Y.ln
 have hsp:fH gs cp rs:=Y.spots
 have hrg:abo rs=abo gs:=Y.sh.rs
 have hcr:cr<18446744073709551616:=Y.ok.aj
 obtain ⟨hcp1,hcp2,_,M⟩:=mM Y.sh.cfg
 replace hcp1:1<=cp:=hcp1;replace hcp2:cp<=64:=hcp2;replace M:dO gs=true:=M
 have nU:=(qt M).1;have nV:=(qt M).2.1
 have qO:(abo cl:Int)=cp:=Y.sh.cl;have oZ:(abo cu:Int)=cp:=Y.sh.cu
 have nW:abo ts<=1000000:=Y.few.t
 have hoc:=ho.cpu;have hot:=ho.task;have hog:=ho.group;have how:=ho.weight;have o7:=ho.to;have o8:=ho.ticks;have zH:=ho.mask;have qP:=ho.kind;unfold aX at hoc hot hog how o7 o8
 obtain ⟨e,rfl⟩:=zx (b.own (i:=1) rfl) om
 obtain ⟨p,rfl⟩:=zx (b.own (i:=5) rfl) om
 refine (mq b Tryz.func154 102) ?_
 refine (JP∘JE) λw3 U=>(Jp 2∘bg 1∘Jn∘Jf 0∘Jp 1∘eP∘Jj∘JQ∘JB) λa Z b=>?_
 refine qy (λaS wS=>Fr aS 102 [] [(14,.bool (!(decide (1<=o.group/\o.group<abo rs)))),(6,vP H 0),(5,vI 0),(4,vI 0),(3,vP U 0)]/\Mem W wS (.blk U o.cells 214::fM H cp cr (some ⟨e,0,none⟩) B gc lA D lc uA E uc tA F tc (some ⟨p,0,none⟩) C sc::fG (some ⟨e,0,none⟩) B gc gs::fI lA D lc cl::fI uA E uc cu::fT tA F tc ts::fS (some ⟨p,0,none⟩) C sc rs::(fR rs++(T)))) ?_ ?_
 ·
  refine Jb Z b ((Vs .n []) λwd2=>(Vf 0 3∘Vc 1 O0∘Vp [2,3]) λa Z b s=>?_)
  rcases Z.tf 18 rfl with ⟨N,Z⟩|⟨N,Z⟩
  ·
   have CG:=of_decide_eq_true N
   refine Vb Z b s ((Vq [4,5,6,7,8,9,10,11,12,13] [(14,.bool true)]∘Vd∘lq) λa Z b=>?_)
   have Z:=Z.sp 14 (.bool (!(decide (1<=o.group/\o.group<abo rs)))) rfl (congrArg abN (by rw [decide_eq_false om];rfl))
   exact ⟨Z.sub kr,b.pt 7 [0,1,2,3,4,5,6]⟩
  have CG:=of_decide_eq_false N
  refine ap Z (λ_=>s) [4,6] (bf 14 [0,1,2,3,4,6]) [(21,vP H 0),(19,vP U 3)] λa Z=>?_
  refine dH Z s 5 0 (v:=vI o.group) λa Z=>?_
  refine oO Z s 7 λa Z=>?_
  refine ap Z (λ_=>s) [8] (bt 14 [9,10,11,12,13]) [(23,vP H 6)] λa Z=>?_
  refine dH Z s 9 1 λa Z=>?_
  refine p9 Z s 10 λa Z=>?_
  refine ap Z (λ_=>s) [11,12,13] (bt 14 []) [(14,.bool (decide ((o.group:Int)>=(C:Int))))] λa Z=>?_
  refine qe kr ?_
  have Z:=Z.sp 14 (.bool (!(decide (1<=o.group/\o.group<abo rs)))) rfl (congrArg abN (by rw [<-decide_not];exact decide_eq_decide.2 om))
  exact ⟨Z.sub kr,b.pt 7 [0,1,2,3,4,5,6]⟩
 clear Z b;rintro a w2 ⟨Z,b⟩
 refine Jb Z b (nH (λzG=>?_) λzG=>?_)
 ·
  exact (JT∘bE 2∘bW) λb=>by exact qv (y:=(⟨cp,cr,some ⟨e,0,none⟩,gc,gs,lA,lc,cl,uA,uc,cu,tA,tc,ts,some ⟨p,0,none⟩,sc,rs⟩:aF)) 1 b rfl G (if_pos (by show ¬(1<=o.group/\o.group<(abo (rs.map aeb):Nat));rw [abw];exact zG))
 refine (JF∘JP∘Jg 4 O0∘JL (h:=by exact λb=>Nh o.weight _)) ?_
 rintro b _ GX ⟨rfl,L⟩
 refine ⟨_,rfl,_,b.call L,?_⟩
 refine (Jp 2∘eP∘Jj) (nH (λO=>?_) λO=>?_)
 ·
  exact (JT∘bE 2∘bW) λb=>by exact qv (y:=(⟨cp,cr,some ⟨e,0,none⟩,gc,gs,lA,lc,cl,uA,uc,cu,tA,tc,ts,some ⟨p,0,none⟩,sc,rs⟩:aF)) 1 b rfl G ((if_neg (by show ¬¬(1<=o.group/\o.group<(abo (rs.map aeb):Nat));rw [abw];omega)).trans (if_pos (decide_eq_false O)))
 have hgb:1<=o.group/\o.group<abo rs:=by omega
 obtain ⟨z,yC⟩:∃n:Nat,o.weight=(n:Int):=⟨o.weight.toNat,by omega⟩
 have hz:1<=z/\z<=65536:=by omega
 obtain ⟨g,P⟩:∃n:Nat,o.group=(n:Int):=⟨o.group.toNat,by omega⟩
 obtain ⟨⟨yA,yc,yl⟩,hy⟩:∃y,rs.getD g Rw.zero=y:=⟨_,rfl⟩
 have hys:=hsp g om;rw [hy] at hys
 have hyl:(abo yl:Int)=cp:=hys.1
 obtain ⟨gr,hgr⟩:∃z,gs[g]?=some z:=⟨_,abr om⟩
 obtain ⟨V,Bb,SY,S9⟩:=Nv M (g:=g) om
 have Q:=uT Gr.zero hgr
 rw [Q] at Bb
 repeat (first|clear Z|clear b)
 intro a Z b
 obtain ⟨X,rfl⟩:=b.jQ 7 rfl om hy om
 refine Jb Z b ((aQ∘JQ) λa Z b=>?_)
 refine wp_seq ?_
 refine Jb Z b ((Vs .n []) λGV=>(Vp [0]∘Vf 4 3∘Vp [9]∘Vn 1∘Vf 2 6∘Vc 3 O1∘Vc 5 O0∘Vo (vI g) (by rw [P])∘Vy 6 (h:=by exact Yl.iO p g 1 rfl rfl rfl)∘Vy 7 (v:= .slice ((rs.getD g Rw.zero).A) ((rs.getD g Rw.zero).l.length) ((rs.getD g Rw.zero).c)) (h:=by exact aae 6 g Rw.zero om rfl rfl rfl)∘Vo (vS X (abo yl) yc) (by rw [hy])∘Vl 8∘Vd∘aJ∘JB) λa Z b=>?_)
 refine qg (λmS aS wS=>∃(c:Nat) (q:List Rw),(c<=abo yl)/\(abo q=C)/\(q=(rs.set g ⟨some ⟨X,0,none⟩,yc,upd r0 yl c⟩))/\mS=abo yl-c/\Fr aS 102 [] (ahY 41 (abo yl) 42 c [(28,.bool false),(14,.bool false),(6,vP H 0),(5,vI 0),(4,vI 0),(3,vP U 0)])/\Mem W wS (.blk U o.cells 214::fM H cp cr (some ⟨e,0,none⟩) B gc lA D lc uA E uc tA F tc (some ⟨p,0,none⟩) C sc::fG (some ⟨e,0,none⟩) B gc gs::fI lA D lc cl::fI uA E uc cu::fT tA F tc ts::fS (some ⟨p,0,none⟩) C sc q::(fR q++(T)))) (m:=abo yl-0) ⟨0,rs,abz _,hls,by rw [zdo,<-hy];exact (qmd _ om).symm,rfl,Z.sub kr,b.pt 7 [0,1,2,3,4,5,6]⟩ ?_
 clear Z b;rintro mS a w_ ⟨c,q,hc,hl2,hr2,rfl,Z,b⟩
 refine Jb Z b ((dh 1∘JQ) (Ji (λTd=>?_) λTd=>?_))
 ·
  have an1:c<abo yl:=by omega
  obtain ⟨d,hyz⟩:∃z,yl[c]?=some z:=⟨_,abr om⟩
  have I:=(zj6 r0 (abu c)).trans hyz
  have R:=hys.2 d (abJ hyz)
  rw [Q] at R
  have hyv:=R.1.v;have sN:=R.1.r
  have Bc:(⟨d.v,d.r,V⟩:En).Ok:=aaj R.2 Bb R.1.v
  have S:q.getD g Rw.zero=⟨some ⟨X,0,none⟩,yc,upd r0 yl c⟩:=by rw [hr2];exact zd _ _ om
  refine (eY∘aM 2∘aL∘Jj) λa Z b=>?_
  refine wp_seq ?_
  refine Jb Z b ((Vs .n []) λRl=>(Vp [0]∘Vf 4 3∘Vp [8]∘Vn 1∘Vf 2 6∘Vc 3 O1∘Vc 5 O0∘Vo (vI g) (by rw [P])∘Vy 6 (h:=by exact Yl.iO p g 1 rfl rfl rfl)∘Vy 7 (v:= .slice ((q.getD g Rw.zero).A) ((q.getD g Rw.zero).l.length) ((q.getD g Rw.zero).c)) (h:=by exact aae 6 g Rw.zero om rfl rfl rfl)∘Vo (vS X (abo yl) yc) (by rw [S];show afJ _ (abo (upd r0 yl c)) _=_;rw [zj4])∘Vy 9 (h:=by exact Yl.iO X c 3 rfl rfl rfl)∘Vp [10]∘Vd∘aJ) λa Z b=>?_)
  refine qy (λaS wS=>∃(J:Nat),Fr aS 102 [] ((9,vP J 0)::(8,vP X (c*3))::(7,vI c)::(43,.bool true)::ahY 41 (abo yl) 42 c [(28,.bool false),(14,.bool false),(6,vP H 0),(5,vI 0),(4,vI 0),(3,vP U 0)])/\Mem W wS (.blk J ((⟨d.v,0,z⟩:En).cells) 333:: .blk U o.cells 214::fM H cp cr (some ⟨e,0,none⟩) B gc lA D lc uA E uc tA F tc (some ⟨p,0,none⟩) C sc::fG (some ⟨e,0,none⟩) B gc gs::fI lA D lc cl::fI uA E uc cu::fT tA F tc ts::fS (some ⟨p,0,none⟩) C sc q::(fR q++(T)))) ?_ ?_
  ·
   refine Jb Z b ((Vs .n [26]) λrT=>(Vp [0,4,8]∘Vf 13 3∘Vf 19 4∘Vn 1∘Vf 2 0∘Vy 3 (v:=vQ d.v) (h:=by exact Pd rfl rfl kr (λ_ h=>h.uS 7 (j:=0) rfl om S (I) rfl))∘Vn 5∘Vf 6 1∘Vy 7 (v:=vW d.r) (h:=by exact Pd rfl rfl kr (λ_ h=>h.uS 7 (j:=1) rfl om S (I) rfl))∘Vn 9∘Vf 10 0∘Vf 11 2∘Vc 12 O1∘Vc 14 O0∘Vo (vI g) (by rw [P])∘Vy 15 (h:=by exact Yl.iO e g 2 rfl rfl rfl)∘Vf 16 1∘Vy 17 (v:=vI gr.weight) (h:=by exact Pd rfl rfl kr (λ_ h=>h.qw pR (i:=2) rfl (k:=g) (off:=1) (x:=gr) (hgr) rfl))∘Vo (vI V) (by rw [Bb])∘Vc 20 O0∘Vo (vI z) (by rw [yC])) λa Z b s=>?_)
   refine zf [18,25] kr rfl ?_
   refine all_cons ?_ ?_
   ·refine qu Z (i:=18) rfl rfl ?_
    refine jq Z b [vQ d.v,vW d.r,vI V] (.agg #[vQ d.v,vW d.r,vW V]) rfl rfl (zg d.v d.r (V:Int) om _) λw74 L b a Z=>?_
    refine av (b.pt 7 [0,1,2,3,4,5,6]) (λs=>?_)
    refine zf [21,25] kr rfl ?_
    refine all_cons ?_ ?_
    ·refine qu Z (i:=21) rfl rfl ?_
     refine jq Z b [.agg #[vQ d.v,vW d.r,vW V],vI z] (.tuple #[.agg ((⟨d.v,0,z⟩:En).cells),vI 0]) rfl rfl (EX (⟨d.v,d.r,V⟩:En) Bc z hz _) λTe L b a Z=>?_
     refine av (b.pt 7 [0,1,2,3,4,5,6]) (λs=>?_)
     refine Vb Z b s ((Vp [22]∘Vx 23∘Vx 24∘VA 25 .n #[vQ 0,vW 0,vW 0]) λw9 J=>λa Z b s=>?_)
     refine s_on Z 26 rfl (bS Z b 0 rfl rfl rfl rfl rfl qp rfl rfl (mD (⟨d.v,0,z⟩:En)) λK b=>?_)
     refine dU kr ?_
     refine ap Z (bZ kr) [27] (bt 28 []) [] λa Z=>?_
     refine qe kr ?_
     exact ⟨J,Z.sub kr,b.pt 8 [0,1,2,3,4,5,6,7]⟩
    refine all_cons ?_ all_nil
    refine qu Z (i:=25) rfl rfl ?_
    refine gX Z b #[vQ 0,vW 0,vW 0] ?_
    clear Z b;intro a w9 J Z b
    refine av (b.pt 8 [1,2,3,4,5,6,7]) (λs=>?_)
    refine Vb Z b s ((VI 21 (.f .n) (h:=by exact λb=>EX (⟨d.v,d.r,V⟩:En) Bc z hz _)) λTe L=>(Vp [22]∘Vx 23∘Vx 24) λa Z b s=>?_)
    refine s_on Z 26 rfl (bS Z b 0 rfl rfl rfl rfl rfl qp rfl rfl (mD (⟨d.v,0,z⟩:En)) λK b=>?_)
    refine dU kr ?_
    refine ap Z (bZ kr) [27] (bt 28 []) [] λa Z=>?_
    refine qe kr ?_
    exact ⟨J,Z.sub kr,b.pt 8 [0,1,2,3,4,5,6,7]⟩
   refine all_cons ?_ all_nil
   refine qu Z (i:=25) rfl rfl ?_
   refine gX Z b #[vQ 0,vW 0,vW 0] ?_
   clear Z b;intro a w9 J Z b
   refine av (b.pt 8 [1,2,3,4,5,6,7]) (λs=>?_)
   refine Vb Z b s ((VI 18 (.f .n) (h:=by exact λb=>zg d.v d.r (V:Int) om _)) λw74 L=>(VI 21 (.f .n) (h:=by exact λb=>EX (⟨d.v,d.r,V⟩:En) Bc z hz _)) λTe L=>(Vp [22]∘Vx 23∘Vx 24) λa Z b s=>?_)
   refine s_on Z 26 rfl (bS Z b 0 rfl rfl rfl rfl rfl qp rfl rfl (mD (⟨d.v,0,z⟩:En)) λK b=>?_)
   refine dU kr ?_
   refine ap Z (bZ kr) [27] (bt 28 []) [] λa Z=>?_
   refine qe kr ?_
   exact ⟨J,Z.sub kr,b.pt 8 [0,1,2,3,4,5,6,7]⟩
  clear Z b;rintro a sG ⟨J,Z,b⟩
  refine FX b [.blk J ((⟨d.v,0,z⟩:En).cells) 333,.blk U o.cells 214,fM H cp cr (some ⟨e,0,none⟩) B gc lA D lc uA E uc tA F tc (some ⟨p,0,none⟩) C sc,fG (some ⟨e,0,none⟩) B gc gs,fI lA D lc cl,fI uA E uc cu,fT tA F tc ts] [0,1,2,3,4,5,6] [11] λb s=>?_
  refine ap Z (λ_=>s) [0,1,2,4] (bf 12 [0,1,2,4]) [(84,vP J 1),(82,vP J 0),(81,vP X (c*3)),(80,vP X (c*3))] λa Z=>?_
  refine dH Z s 3 0 (v:=vQ ((⟨d.v,0,z⟩:En).v)) λa Z=>?_
  refine dH Z s 5 0 (v:=vW ((⟨d.v,0,z⟩:En).r)) λa Z=>?_
  refine oO Z s 6 λa Z=>?_
  refine ap Z (λ_=>s) [7] (bt 12 [8,9,10,11]) [(87,vP X (c*3))] λa Z=>?_
  refine s_on Z 8 rfl ?_
  refine Dj Z b 7 (c:=c) 0 ({d with v:=d.v}) rfl rfl rfl rfl kr rfl rfl om (S) (I) rfl de rfl λI6 b=>?_
  replace b:Mem W I6 (.blk J ((⟨d.v,0,z⟩:En).cells) 333:: .blk U o.cells 214::fM H cp cr (some ⟨e,0,none⟩) B gc lA D lc uA E uc tA F tc (some ⟨p,0,none⟩) C sc::fG (some ⟨e,0,none⟩) B gc gs::fI lA D lc cl::fI uA E uc cu::fT tA F tc ts::fS (some ⟨p,0,none⟩) C sc (aT q g c ({d with v:=d.v}))::(fR (aT q g c ({d with v:=d.v}))++(T))):=b
  refine av (b.pk [0,1,2,3,4,5,6]) (λs=>?_)
  refine Ci Z (λ_=>s) 9 λa Z=>?_
  refine ap Z (λ_=>s) [10] (bt 12 [11]) [(89,vP X (c*3+1))] λa Z=>?_
  refine s_on Z 11 rfl ?_
  refine Dj Z b 7 (c:=c) 1 (r0 d) rfl rfl rfl rfl kr rfl rfl (by first|omega|(rw [zq];omega)) (Ns om S) (yw I) rfl de rfl λDt b=>?_
  replace b:Mem W Dt (.blk J ((⟨d.v,0,z⟩:En).cells) 333:: .blk U o.cells 214::fM H cp cr (some ⟨e,0,none⟩) B gc lA D lc uA E uc tA F tc (some ⟨p,0,none⟩) C sc::fG (some ⟨e,0,none⟩) B gc gs::fI lA D lc cl::fI uA E uc cu::fT tA F tc ts::fS (some ⟨p,0,none⟩) C sc (aT (aT q g c ({d with v:=d.v})) g c (r0 d))::(fR (aT (aT q g c ({d with v:=d.v})) g c (r0 d))++(T))):=b
  rw [R9 (by first|omega|(rw [zq];omega))] at b
  refine dU kr ?_
  refine qe kr ?_
  refine Jb Z b ((JG∘JR∘dA 1∘Jp 1∘aJ∘Jq) λa Z b=>?_)
  exact ⟨_,om,c+1,(aT q g c (r0 d)),by omega,by rw [zq];exact hl2,q7g om hyz hr2,rfl,Z.sub kr,b.pt 8 [1,2,3,4,5,6,7]⟩
 refine (JF∘JX) λa Z b=>?_
 refine wp_seq ?_
 refine Jb Z b ((Vs .n [11]) λIg=>(Vp [0]∘Vf 5 3∘Vf 7 4∘Vn 1∘Vf 2 0∘Vf 3 2∘Vc 4 O1∘Vc 6 O0∘Vo (vI g) (by rw [P])∘Vc 8 O0∘Vo (vI z) (by rw [yC])∘Vu 9 (h:=by exact λ_=>Yl.iO e g 2 rfl rfl rfl)∘Vf 10 1) λa Z b s=>?_)
 refine s_on Z 11 rfl ?_
 refine zj Z b (i:=2) rfl rfl rfl rfl kr rfl rfl (by rw [rJ fQ 2 pR];omega) λTf b=>?_
 replace b:=b.dG (i:=2) (ys:=(gs.set g {gr with weight:=(z:Int)}).flatMap fQ) rfl (vo fQ 2 pR gs g gr {gr with weight:=(z:Int)} hgr 1 de _ rfl)
 refine dU kr ?_
 refine qe kr ?_
 exact Jb Z b ((bE 2∘bW) λb=>by exact qv (y:=(⟨cp,cr,some ⟨e,0,none⟩,gc,(gs.set g {gr with weight:=(z:Int)}),lA,lc,cl,uA,uc,cu,tA,tc,ts,some ⟨p,0,none⟩,sc,q⟩:aF)) 1 b rfl ⟨by show abo (gs.set _ _)=B;rw [abK];exact mP,G.l,G.u,G.t,hl2⟩ ((qwa (x:=(⟨cp,cr,some ⟨e,0,none⟩,gc,gs,lA,lc,cl,uA,uc,cu,tA,tc,ts,some ⟨p,0,none⟩,sc,rs⟩:aF)) P hgb (decide_eq_true O) hy Q).trans (by rw [yC];exact congrArg (λr=>(aF.ay (⟨cp,cr,some ⟨e,0,none⟩,gc,(gs.set g {gr with weight:=(z:Int)}),lA,lc,cl,uA,uc,cu,tA,tc,ts,some ⟨p,0,none⟩,sc,r⟩:aF),(0:Int),0)) (show _=q by rw [hr2,zj5 r0 yl om]))))
def q2j (W w:aiM) (x:aF) (U k to:Nat) (t:Tk) (I J K L q:Nat) (m:dY x I J K L q) (ht:x.ts[k]?=some t) (R:(to:Int)<x.au) (T:List aiX) (b:Mem W w (jM U x I J K L q++T)):
    Calls abp 214 #[vP U 0,vI k,vI to] w (IJ W U T (jF x.ay k (to:Int))):=by
 obtain ⟨cp,cr,gA,gc,gs,lA,lc,cl,uA,uc,cu,tA,tc,ts,sA,sc,rs⟩:=x
 replace b:Mem W w (fM U cp cr gA I gc lA J lc uA K uc tA L tc sA q sc::aiy gA I gc gs lA J lc cl uA K uc cu tA L tc ts sA q sc rs (fR rs++(T))):=b
 obtain ⟨mP,hll,nT,o,hls⟩:=m.ln
 replace mP:abo gs=I:=mP;replace hll:abo cl=J:=hll;replace nT:abo cu=K:=nT;replace o:abo ts=L:=o;replace hls:abo rs=q:=hls
 have s:=m.ln
 have hsp:fH gs cp rs:=m.spots
 have hrg:abo rs=abo gs:=m.sh.rs
 have hcr:cr<18446744073709551616:=m.ok.aj
 obtain ⟨S,u,_,B⟩:=mM m.sh.cfg
 replace S:1<=cp:=S;replace u:cp<=64:=u;replace B:dO gs=true:=B
 have nU:=(qt B).1;have nV:=(qt B).2.1
 have qO:(abo cl:Int)=cp:=m.sh.cl;have oZ:(abo cu:Int)=cp:=m.sh.cu
 have nW:abo ts<=1000000:=m.few.t
 replace ht:ts[k]?=some t:=ht;replace R:(to:Int)<cp:=R
 have hkl:=(abB.1 ht).1
 obtain ⟨C,V⟩:=m.task ht
 have hti:=C.id;have wI:=C.group;have htc:=C.cpu;have IU:=C.weight;have zJ:=V.v;have htr:=V.r;have IV:=V.mask
 replace htc:0<=t.cpu/\t.cpu<cp:=htc
 obtain ⟨gt,X⟩:∃n:Nat,t.group=(n:Int):=⟨t.group.toNat,by omega⟩
 obtain ⟨ct,hct⟩:∃n:Nat,t.cpu=(n:Int):=⟨t.cpu.toNat,by omega⟩
 obtain ⟨p,Y⟩:∃n:Nat,t.weight=(n:Int):=⟨t.weight.toNat,by omega⟩
 have M:(⟨t.v,t.r,p⟩:En).Ok:=aaj C.ent Y zJ
 obtain ⟨d,rfl⟩:=zx (b.own (i:=5) rfl) om
 obtain ⟨g,rfl⟩:=zx (b.own (i:=4) rfl) om
 obtain ⟨em,N⟩:∃l,lC (⟨cp,cr,gA,gc,gs,lA,lc,cl,uA,uc,cu,some ⟨g,0,none⟩,tc,ts,some ⟨d,0,none⟩,sc,rs⟩:aF).ay gt to=l:=⟨_,rfl⟩
 have uy:=λh hh=>SH (x:=(⟨cp,cr,gA,gc,gs,lA,lc,cl,uA,uc,cu,some ⟨g,0,none⟩,tc,ts,some ⟨d,0,none⟩,sc,rs⟩:aF)) m (by omega:gt<q) N h hh
 have uz:=SK (x:=(⟨cp,cr,gA,gc,gs,lA,lc,cl,uA,uc,cu,some ⟨g,0,none⟩,tc,ts,some ⟨d,0,none⟩,sc,rs⟩:aF)) m (by omega:gt<q) N
 obtain ⟨⟨yA,yc,yl⟩,hy⟩:∃y,rs.getD gt Rw.zero=y:=⟨_,rfl⟩
 have O:=hsp gt om;rw [hy] at O
 have hyl:(abo yl:Int)=cp:=O.1
 obtain ⟨gy,rfl⟩:=b.jQ 6 rfl om hy om
 obtain ⟨yz,hyz⟩:∃z,yl[ct]?=some z:=⟨_,abr om⟩
 have nK:=O.2 yz (abJ hyz)
 have hyv:=nK.1.v;have sN:=nK.1.r;have sS:=nK.1.floor
 obtain ⟨z2,hz2⟩:∃z,yl[to]?=some z:=⟨_,abr om⟩
 have P:=(O.2 z2 (abJ hz2)).1.floor
 obtain ⟨e,D⟩:∃e,(⟨t.v,t.r,p⟩:En).moved yz.floor z2.floor=e:=⟨_,rfl⟩
 have vG:e.Ok/\e.w=p:=by rw [<-D];exact aaR M _ _ P
 have hev:=vG.1.2;have her:=Ba vG.1.1
 have hmo:=zdp (x:=(⟨cp,cr,gA,gc,gs,lA,lc,cl,uA,uc,cu,some ⟨g,0,none⟩,tc,ts,some ⟨d,0,none⟩,sc,rs⟩:aF)) (to:=to) ht X hct Y (yu (x:=(⟨cp,cr,gA,gc,gs,lA,lc,cl,uA,uc,cu,some ⟨g,0,none⟩,tc,ts,some ⟨d,0,none⟩,sc,rs⟩:aF)) (by show gt<abo rs;omega) hy hyz) (yu (x:=(⟨cp,cr,gA,gc,gs,lA,lc,cl,uA,uc,cu,some ⟨g,0,none⟩,tc,ts,some ⟨d,0,none⟩,sc,rs⟩:aF)) (by show gt<abo rs;omega) hy hz2) D N
 refine (zA b Tryz.func214 81) ?_
 refine (aM 1∘Jn∘Jf 0∘Jg 5 O0∘Jp 1∘nG k 8∘Jp 1∘aJ∘bg 2∘Jn∘Jf 1∘Jy (v:=vI t.group) (h:=by exact Pd rfl rfl kr (λ_ h=>h.qw qm (i:=4) rfl (k:=k) (off:=1) (x:=t) (ht) rfl))∘Jo (vI gt) (by rw [X])∘Jp 1∘JK (h:=by exact λb=>SG 0 b rfl m (by show ((to:Nat):Int)<cp;omega) om N)) λTg c24 w24 hc24=>(Jp 1∘aJ∘Jj) λa Z b=>?_
 refine wp_seq ?_
 refine Jb Z b ((Vs .n []) λwd2=>(Vp [0,5]∘Vn 1∘Vf 2 0∘Vf 3 6∘Vc 4 O1∘Vn 6∘Vf 7 1∘Vy 8 (v:=vI t.group) (h:=by exact Pd rfl rfl kr (λ_ h=>h.qw qm (i:=5) rfl (k:=k) (off:=1) (x:=t) (ht) rfl))∘Vo (vI gt) (by rw [X])∘Vy 9 (h:=by exact Yl.iO d gt 1 rfl rfl rfl)∘Vy 10 (v:= .slice ((rs.getD gt Rw.zero).A) ((rs.getD gt Rw.zero).l.length) ((rs.getD gt Rw.zero).c)) (h:=by exact aae 6 gt Rw.zero om rfl rfl rfl)∘Vo (vS gy (abo yl) yc) (by rw [hy])∘Vp [11]∘Vd∘aJ) λa Z b=>?_)
 refine qy (λaS wS=>∃(G:Nat),Fr aS 81 [] [(9,vP G 0),(7,abl Tg em c24),(6,vP g (k*8)),(0,vP U 0),(2,vI to)]/\Mem W wS (.blk G e.cells 333::abm Tg em c24 bL 3 1::fM U cp cr gA I gc lA J lc uA K uc (some ⟨g,0,none⟩) L tc (some ⟨d,0,none⟩) q sc::aiy gA I gc gs lA J lc cl uA K uc cu (some ⟨g,0,none⟩) L tc ts (some ⟨d,0,none⟩) q sc rs (fR rs++(T)))) ?_ ?_
 ·
  refine Jb Z b ((Vs .n [31]) λwd3=>(Vp [0,4,8,13,14,21,22]∘Vn 1∘Vf 2 6∘Vy 3 (v:=vQ t.v) (h:=by exact Pd rfl rfl kr (λ_ h=>h.qw qm (i:=5) rfl (k:=k) (off:=6) (x:=t) (ht) rfl))∘Vn 5∘Vf 6 7∘Vy 7 (v:=vW t.r) (h:=by exact Pd rfl rfl kr (λ_ h=>h.qw qm (i:=5) rfl (k:=k) (off:=7) (x:=t) (ht) rfl))∘Vn 9∘Vf 10 2∘Vy 11 (v:=vI t.weight) (h:=by exact Pd rfl rfl kr (λ_ h=>h.qw qm (i:=5) rfl (k:=k) (off:=2) (x:=t) (ht) rfl))∘Vo (vI p) (by rw [Y])∘Vn 15∘Vf 16 3∘Vy 17 (v:=vI t.cpu) (h:=by exact Pd rfl rfl kr (λ_ h=>h.qw qm (i:=5) rfl (k:=k) (off:=3) (x:=t) (ht) rfl))∘Vo (vI ct) (by rw [hct])∘Vy 18 (h:=by exact Yl.iO gy ct 3 rfl rfl rfl)∘Vf 19 2∘Vy 20 (v:=vQ yz.floor) (h:=by exact Pd rfl rfl kr (λ_ h=>h.uS 7 (j:=2) rfl om hy (hyz) rfl))∘Vy 23 (h:=by exact Yl.iO gy to 3 rfl rfl rfl)∘Vf 24 2∘Vy 25 (v:=vQ z2.floor) (h:=by exact Pd rfl rfl kr (λ_ h=>h.uS 7 (j:=2) rfl om hy (hz2) rfl))) λa Z b H=>?_)
  refine zf [12,30] kr rfl ?_
  refine all_cons ?_ ?_
  ·refine qu Z (i:=12) rfl rfl ?_
   refine jq Z b [vQ t.v,vW t.r,vI p] (.agg #[vQ t.v,vW t.r,vW p]) rfl rfl (zg t.v t.r (p:Int) om _) λAo Q b a Z=>?_
   refine av (b.pt 7 [0,1,2,3,4,5,6]) (λH=>?_)
   refine zf [26,30] kr rfl ?_
   refine all_cons ?_ ?_
   ·refine qu Z (i:=26) rfl rfl ?_
    refine jq Z b [.agg #[vQ t.v,vW t.r,vW p],vQ yz.floor,vQ z2.floor] (.tuple #[.agg e.cells,vI 0]) rfl rfl (Ta (⟨t.v,t.r,p⟩:En) e M yz.floor z2.floor sS P D _) λTi Q b a Z=>?_
    refine av (b.pt 7 [0,1,2,3,4,5,6]) (λH=>?_)
    refine Vb Z b H ((Vp [27]∘Vx 28∘Vx 29∘VA 30 .n #[vQ 0,vW 0,vW 0]) λw9 G=>λa Z b H=>?_)
    refine s_on Z 31 rfl (bS Z b 0 rfl rfl rfl rfl rfl qp rfl rfl (mD e) λE b=>?_)
    refine dU kr ?_
    refine ap Z (bZ kr) [32] (bt 33 []) [] λa Z=>?_
    refine qe kr ?_
    exact ⟨G,Z.sub kr,b.pt 8 [0,1,2,3,4,5,6,7]⟩
   refine all_cons ?_ all_nil
   refine qu Z (i:=30) rfl rfl ?_
   refine gX Z b #[vQ 0,vW 0,vW 0] ?_
   clear Z b;intro a w9 G Z b
   refine av (b.pt 8 [1,2,3,4,5,6,7]) (λH=>?_)
   refine Vb Z b H ((VI 26 (.f .n) (h:=by exact λb=>Ta (⟨t.v,t.r,p⟩:En) e M yz.floor z2.floor sS P D _)) λTi Q=>(Vp [27]∘Vx 28∘Vx 29) λa Z b H=>?_)
   refine s_on Z 31 rfl (bS Z b 0 rfl rfl rfl rfl rfl qp rfl rfl (mD e) λE b=>?_)
   refine dU kr ?_
   refine ap Z (bZ kr) [32] (bt 33 []) [] λa Z=>?_
   refine qe kr ?_
   exact ⟨G,Z.sub kr,b.pt 8 [0,1,2,3,4,5,6,7]⟩
  refine all_cons ?_ all_nil
  refine qu Z (i:=30) rfl rfl ?_
  refine gX Z b #[vQ 0,vW 0,vW 0] ?_
  clear Z b;intro a w9 G Z b
  refine av (b.pt 8 [1,2,3,4,5,6,7]) (λH=>?_)
  refine Vb Z b H ((VI 12 (.f .n) (h:=by exact λb=>zg t.v t.r (p:Int) om _)) λAo Q=>(VI 26 (.f .n) (h:=by exact λb=>Ta (⟨t.v,t.r,p⟩:En) e M yz.floor z2.floor sS P D _)) λTi Q=>(Vp [27]∘Vx 28∘Vx 29) λa Z b H=>?_)
  refine s_on Z 31 rfl (bS Z b 0 rfl rfl rfl rfl rfl qp rfl rfl (mD e) λE b=>?_)
  refine dU kr ?_
  refine ap Z (bZ kr) [32] (bt 33 []) [] λa Z=>?_
  refine qe kr ?_
  exact ⟨G,Z.sub kr,b.pt 8 [0,1,2,3,4,5,6,7]⟩
 clear Z b;rintro a w3 ⟨G,Z,b⟩
 refine Jb Z b ((aM 1∘eH qp O0∘JO (h:=by exact λb=>Nw t e uK b ht o vG.1)) λNM=>(oo∘bg 2∘Jn∘Jf 3) λa Z b=>?_)
 refine fo Z 4 rfl rfl ?_
 refine zj Z b (i:=6) rfl rfl rfl rfl kr rfl rfl (by rw [rJ bX 8 qm,abK];omega) λan4 b=>?_
 replace b:=b.dG (i:=6) (ys:=(ts.set k {t.put e with cpu:=(to:Int)}).flatMap bX) rfl ((vo bX 8 qm (ts.set k (t.put e)) k (t.put e) {t.put e with cpu:=(to:Int)} (yw ht) 3 de _ rfl).trans (by rw [afk]))
 refine Jb Z b ((vF∘bg 1∘Jn∘Jf 5∘Jy (v:= .bool (({t.put e with cpu:=(to:Int)}:Tk).ready)) (h:=by exact Pd rfl rfl kr (λ_ h=>h.qw qm (i:=6) rfl (k:=k) (off:=5) (x:=({t.put e with cpu:=(to:Int)}:Tk)) ((yw ht)) rfl))∘Jo (.bool t.ready) (by exact rfl)∘eP∘Jj) (Ju (λF=>?_) λF=>?_))
 ·
  refine (JT∘JR∘Jp 3∘JL (h:=by exact λb=>NR 2 b rfl (j:=1) rfl de (EZ (ts':=ts.set k {t.put e with cpu:=(to:Int)}) s (by rw [abK];exact o)) (uy) (uz) B hrg hsp hcr u (by show ((to:Nat):Int)<cp;omega))) ?_
  rintro b _ w80 ⟨jW,rfl,hl2,hsp2,nX,tY⟩
  refine ⟨_,rfl,_,(show Mem W w80 (.blk G e.cells 333::abm Tg em c24 bL 3 1::fM U cp cr gA I gc lA J lc uA K uc (some ⟨g,0,none⟩) L tc (some ⟨d,0,none⟩) q sc::aiy gA I gc gs lA J lc cl uA K uc cu (some ⟨g,0,none⟩) L tc (ts.set k {t.put e with cpu:=(to:Int)}) (some ⟨d,0,none⟩) q sc jW (fR jW++(T))) from tY),?_⟩
  refine (vF∘Jq) λa Z b=>?_
  exact iB rfl Z (q7f (y:=(⟨cp,cr,gA,gc,gs,lA,lc,cl,uA,uc,cu,some ⟨g,0,none⟩,tc,(ts.set k {t.put e with cpu:=(to:Int)}),some ⟨d,0,none⟩,sc,jW⟩:aF)) 2 b rfl (Nz (EZ s (by rw [abK];exact o)) hl2) (by rw [hmo,if_pos F];exact nX))
 refine (JF∘JS) λa Z b=>?_
 exact iB rfl Z (q7f (y:=(⟨cp,cr,gA,gc,gs,lA,lc,cl,uA,uc,cu,some ⟨g,0,none⟩,tc,(ts.set k {t.put e with cpu:=(to:Int)}),some ⟨d,0,none⟩,sc,rs⟩:aF)) 2 b rfl (EZ s (by rw [abK];exact o)) (by rw [hmo,if_neg (zC F)]))
def q7y {to:Nat} (n:Nat) (h:Mem W w F) (i:F.drop n=jM a x c m g b d++T) (j:dY x c m g b d) (ht:x.ts[k]?=some t) (e:(to:Int)<x.au):
  Calls abp 214 #[vP a 0,vI k,vI to] w (λr f=>∃y:aF,r= .returned (.tuple #[])/\y.ay=jF x.ay k (to:Int)/\Mem W f (F.take n++(mX a y++T))):=
 (q2j W w x a k to t c m g b d j ht e (F.take n++T) (h.front n i)).mono λr f ⟨y,l,o,p⟩=>⟨y,l,o,p.back⟩
def q2k (A:aiW) (c:Nat) (l:List Int) (v:Int) (w:aiM) (hr:Rd w w.heap.size 1 A (abo l) (l.map aZ)) (p:abo l<=1000000):
    Calls abp 268 #[abl A l c,vI v] w (wL w l v):=by
 refine (iP Tryz.func268 19) ?_
 refine (dh 1∘bN 1∘Jl∘bM 1∘JB) λa Z d=>?_
 refine qg (λg n o=>∃(k:Nat),(k<=abo l)/\(∀i,i<k->l.getD i 0≠v)/\g=abo l-k/\Fr n 19 [] (ahY 8 k 7 (abo l) [(4,vI 0),(0,abl A l c),(1,vI v)])/\Mem w o []) (m:=abo l-0) ⟨0,abz _,λi h=>by omega,rfl,Z.sub kr,d.pk []⟩ ?_
 clear Z d;rintro g a q ⟨k,r,j,rfl,Z,d⟩
 refine Jb Z d ((dh 1∘JQ) (Ji (λe=>?_) λe=>?_))
 ·
  have f:k<abo l:=by omega
  refine (eY∘aM 2∘aL∘bg 3) ?_
  obtain ⟨gA,s,rfl,_⟩:=hr.sat k
  refine (iC k 1∘Jy (h:=by exact aad hr k 0 om rfl rfl)∘Jp 1∘lq∘Jj) (Je (λb=>?_) λb=>?_)
  ·
   exact (JT∘aM 2∘aL∘aP∘aW) λd=>q2h f b.symm d.below
  refine (aQ∘JR∘dA 1∘Jp 1∘aL∘Jq) λa Z d=>?_
  exact ⟨_,om,k+1,by omega,zkc j (λh=>b h.symm),rfl,Z.sub kr,d.pk []⟩
 exact (JF∘JX∘JG∘bE 1∘aW) λd=>q2i (λi hi=>j i om) d.below
def qqf (A:aiW) (c:Nat) (l:List Int) (v:Int) (w:aiM) (hr:Rd w w.heap.size 1 A (abo l) (l.map aZ)) (d:abo l<=1000000):
    Calls abp 213 #[abl A l c,vI v] w (Is w (.bool (decide (v∈l)))):=by
 refine (iP Tryz.func213 9) ?_
 refine (aM 1∘bg 2∘JL (h:=by exact λa=>q2k A c l v _ (a.old hr) d)) ?_
 rintro a _ f ⟨⟨i,rfl,e⟩,b⟩
 refine ⟨_,rfl,_,a.call b,?_⟩
 exact (Jp 2∘fJ∘aP∘aW) λa=>dw e a.below
def qwg {c n:Nat} {l:List Int} {v:Int} (a:abo l=n) (hr:Rd w w.heap.size 1 A n (l.map aZ)) (b:abo l<=1000000):Calls abp 213 #[.slice A n c,vI v] w (Is w (.bool (decide (v∈l)))):=by
 subst a
 exact qqf A c l v w hr b
def qqg (W w:aiM) (x:aF) (M:Nat) (N O P L Q:Nat) (q:dY x N O P L Q) (o:bP) (F:o.Ok) (T:List aiX) (b:Mem W w (jM M x N O P L Q++T)):
    Calls abp 155 #[vP M 0,.agg o.cells] w (kK W M T (y8 x.ay o)):=by
 obtain ⟨cp,cr,gA,gc,gs,lA,lc,cl,uA,uc,cu,tA,tc,ts,sA,sc,rs⟩:=x
 replace b:Mem W w (fM M cp cr gA N gc lA O lc uA P uc tA L tc sA Q sc::aiy gA N gc gs lA O lc cl uA P uc cu tA L tc ts sA Q sc rs (fR rs++(T))):=b
 obtain ⟨R,S,I,U,V⟩:=q.ln
 replace R:abo gs=N:=R;replace S:abo cl=O:=S;replace I:abo cu=P:=I;replace U:abo ts=L:=U;replace V:abo rs=Q:=V
 have g:=q.ln
 have hsp:fH gs cp rs:=q.spots
 have hrg:abo rs=abo gs:=q.sh.rs
 have hcr:cr<18446744073709551616:=q.ok.aj
 obtain ⟨G,H,_,E⟩:=mM q.sh.cfg
 replace G:1<=cp:=G;replace H:cp<=64:=H;replace E:dO gs=true:=E
 have nU:=(qt E).1;have nV:=(qt E).2.1
 have qO:(abo cl:Int)=cp:=q.sh.cl;have oZ:(abo cu:Int)=cp:=q.sh.cu
 have nW:abo ts<=1000000:=q.few.t
 have hoc:=F.cpu;have hot:=F.task;have hog:=F.group;have how:=F.weight;have X:=F.to;have Y:=F.ticks;have zH:=F.mask;have qP:=F.kind;unfold aX at hoc hot hog how X Y
 obtain ⟨e,rfl⟩:=zx (b.own (i:=3) rfl) om
 refine (mq b Tryz.func155 67) ?_
 refine (JP∘JE) λw3 g3=>(bM 2∘JQ∘JB∘aM 1∘Jg 5 O0∘JI (h:=by exact λb=>EY 1 b rfl q o.to)) λuM J=>(Jp 2∘fJ∘Jj) (nH (λf=>?_) λf=>?_)
 ·
  exact (JT∘bE 2∘bW) λb=>by exact qv (y:=(⟨cp,cr,gA,gc,gs,lA,lc,cl,some ⟨e,0,none⟩,uc,cu,tA,tc,ts,sA,sc,rs⟩:aF)) 1 b rfl g (if_pos (decide_eq_false f))
 replace f:0<=o.to/\o.to<cp:=f
 obtain ⟨c,B⟩:∃n:Nat,o.to=(n:Int):=⟨o.to.toNat,by omega⟩
 have rW:((c:Nat):Int)<cp:=by omega
 have Tj:abo cu<=1000000:=q.few.u
 refine (JF∘JP∘Jg 2 O0∘JI (h:=by exact λb=>Ny o.task _)) λw16 J=>(Jp 2∘eP∘Jj) (nH (λd=>?_) λd=>?_)
 ·
  exact (JT∘bE 2∘bW) λb=>by exact qv (y:=(⟨cp,cr,gA,gc,gs,lA,lc,cl,some ⟨e,0,none⟩,uc,cu,tA,tc,ts,sA,sc,rs⟩:aF)) 1 b rfl g ((if_neg (nf (decide_eq_true f))).trans (if_pos (decide_eq_false d)))
 refine (aQ∘aM 1∘Jg 2 O0∘JI (h:=by exact λb=>IE 1 b rfl q o.task)) λNT J=>(Jp 1∘eP∘Jj∘JQ∘JB∘aM 3∘bU∘Jj) (Ji (λC=>?_) λC=>?_)
 ·
  exact (JT∘bE 2∘bW) λb=>by exact qv (y:=(⟨cp,cr,gA,gc,gs,lA,lc,cl,some ⟨e,0,none⟩,uc,cu,tA,tc,ts,sA,sc,rs⟩:aF)) 1 b rfl g ((if_neg (nf (decide_eq_true f))).trans ((if_neg (nf (decide_eq_true d))).trans (if_pos (C))))
 obtain ⟨k,t,A,ht,hkl,zI⟩:=II C
 replace A:fidx ts o.task=(k:Int):=A;replace ht:ts[k]?=some t:=ht;replace hkl:k<abo ts:=hkl
 obtain ⟨D,K⟩:=q.task ht
 have hti:=D.id;have wI:=D.group;have htc:=D.cpu;have IU:=D.weight;have zJ:=K.v;have htr:=K.r;have IV:=K.mask
 replace htc:0<=t.cpu/\t.cpu<cp:=htc
 obtain ⟨gt,hgt⟩:∃n:Nat,t.group=(n:Int):=⟨t.group.toNat,by omega⟩
 obtain ⟨ct,hct⟩:∃n:Nat,t.cpu=(n:Int):=⟨t.cpu.toNat,by omega⟩
 obtain ⟨wt,hwt⟩:∃n:Nat,t.weight=(n:Int):=⟨t.weight.toNat,by omega⟩
 have sH:(⟨t.v,t.r,wt⟩:En).Ok:=aaj D.ent hwt zJ
 repeat (first|clear Z|clear b)
 intro a Z b
 obtain ⟨l,rfl⟩:=b.rat 5 k (hk:=(by omega:k<L))
 refine Jb Z b ((JF) λa Z b=>?_)
 refine wp_seq ?_
 refine Jb Z b ((Vs .n []) λNP=>(Vp [0]∘Vf 5 2∘Vn 1∘Vf 2 0∘Vf 3 4∘Vc 4 O1∘Vc 6 O0∘VI 7 .n (h:=by exact λb=>qwg I (b.rd (i:=4) rfl) Tj)) λGh J=>(Vp [8]∘Vd∘aJ) (Ji (λp=>?_) λp=>?_))
 ·
  exact (JT∘bE 2∘bW) λb=>by exact qv (y:=(⟨cp,cr,gA,gc,gs,lA,lc,cl,some ⟨e,0,none⟩,uc,cu,some ⟨l,0,none⟩,tc,ts,sA,sc,rs⟩:aF)) 1 b rfl g ((if_neg (nf (decide_eq_true f))).trans ((if_neg (nf (decide_eq_true d))).trans ((if_neg (by show ¬fidx ts o.task<0;rw [A];omega)).trans (if_pos (p)))))
 refine (JF) λa Z b=>?_
 refine wp_seq ?_
 refine Jb Z b ((Vs .n []) λrT=>(Vp [0]∘Vf 9 5∘Vn 1∘Vf 2 0∘Vf 3 5∘Vc 4 O1∘Vp [5]∘Vo (vI k) (by rw [A])∘Vy 6 (h:=by exact Yl.iO l k 8 rfl rfl rfl)∘Vf 7 3∘Vy 8 (v:=vI t.cpu) (h:=by exact Pd rfl rfl kr (λ_ h=>h.qw qm (i:=5) rfl (k:=k) (off:=3) (x:=t) (ht) rfl))∘Vc 10 O0∘Vp [11,12]∘Vd∘aJ) (Je (λz=>?_) λz=>?_))
 ·
  exact (JT∘bE 2∘bW) λb=>by exact qv (y:=(⟨cp,cr,gA,gc,gs,lA,lc,cl,some ⟨e,0,none⟩,uc,cu,some ⟨l,0,none⟩,tc,ts,sA,sc,rs⟩:aF)) 1 b rfl g ((if_neg (nf (decide_eq_true f))).trans ((if_neg (nf (decide_eq_true d))).trans ((if_neg (by show ¬fidx ts o.task<0;rw [A];omega)).trans ((if_neg (p)).trans (if_pos (by rw [yx (s:=aF.ay (⟨cp,cr,gA,gc,gs,lA,lc,cl,some ⟨e,0,none⟩,uc,cu,some ⟨l,0,none⟩,tc,ts,sA,sc,rs⟩:aF)) A ht];exact z))))))
 have hmb:=afa t.mask (2^c)
 refine (JF) λa Z b=>?_
 refine wp_seq ?_
 refine Jb Z b ((Vs .n []) λGZ=>(Vp [0]∘Vf 9 5∘Vn 1∘Vf 2 0∘Vf 3 5∘Vc 4 O1∘Vp [5]∘Vo (vI k) (by rw [A])∘Vy 6 (h:=by exact Yl.iO l k 8 rfl rfl rfl)∘Vf 7 4∘Vy 8 (v:=vQ t.mask) (h:=by exact Pd rfl rfl kr (λ_ h=>h.qw qm (i:=5) rfl (k:=k) (off:=4) (x:=t) (ht) rfl))∘Vc 10 O0∘Vo (vI c) (by rw [B])∘Vy 11 (v:=vQ (t.mask/2^c:Nat)) (h:=by exact aat (m:=t.mask) (n:=c) rfl rfl rfl (by show _<=64;omega))∘Vp [12]∘Vo (vQ ((t.mask/2^c)%2:Nat)) (by exact Mh (n:=1) (j:=1) rfl de om)∘Vp [13,14]∘Vd∘aJ) (Je (λTn=>?_) λTn=>?_))
 ·
  exact (JT∘bE 2∘bW) λb=>by exact qv (y:=(⟨cp,cr,gA,gc,gs,lA,lc,cl,some ⟨e,0,none⟩,uc,cu,some ⟨l,0,none⟩,tc,ts,sA,sc,rs⟩:aF)) 1 b rfl g ((if_neg (nf (decide_eq_true f))).trans ((if_neg (nf (decide_eq_true d))).trans ((if_neg (by show ¬fidx ts o.task<0;rw [A];omega)).trans ((if_neg (p)).trans ((if_neg (by rw [yx (s:=aF.ay (⟨cp,cr,gA,gc,gs,lA,lc,cl,some ⟨e,0,none⟩,uc,cu,some ⟨l,0,none⟩,tc,ts,sA,sc,rs⟩:aF)) A ht];exact z)).trans (if_pos (zg4 (by rw [yx (s:=aF.ay (⟨cp,cr,gA,gc,gs,lA,lc,cl,some ⟨e,0,none⟩,uc,cu,some ⟨l,0,none⟩,tc,ts,sA,sc,rs⟩:aF)) A ht]) B om)))))))
 refine (aQ∘aM 2∘Jo (vI k) (by rw [A])∘Jf 5∘Jc O0∘Jo (vI c) (by rw [B])∘JL (h:=by exact λb=>q7y 1 b rfl q ht rW)) ?_
 rintro b _ w66 ⟨y,rfl,hys,tY⟩
 refine ⟨_,rfl,_,(show Mem W w66 (.blk g3 o.cells 214::(mX M y++(T))) from tY),?_⟩
 exact (qC∘bg 2∘aP∘bW) λb=>by exact zg1 1 b rfl ((qwb (x:=(⟨cp,cr,gA,gc,gs,lA,lc,cl,some ⟨e,0,none⟩,uc,cu,some ⟨l,0,none⟩,tc,ts,sA,sc,rs⟩:aF)) (decide_eq_true f) (decide_eq_true d) A ht p z (Tc B om)).trans (by rw [hys,B]))
def zkd {a b:Int}:(a !=b)=decide (a≠b):=by rw [Bool.eq_iff_iff,bne_iff_ne,decide_eq_true_eq]
def qtm {v:Int} (n:Nat) (e:Mem W w F) (f:F.drop n=jM d x m g k a b++T) (h:dY x m g k a b) (i:aH x.ay c=v):Calls abp 215 #[vP d 0,vI c] w (Is w (vI v)):=i▸q7w n e f h
def zd9 {fr v lc be:Int} {i:Bool} (a:o.cpu=(c:Int)) (b:jd x.ay o.cpu x.au.toNat=(fr,v)) (d:aH x.ay c=lc) (e:t.cpu=(m:Int)) (f:be.toNat=g) (h:(t.ready&& (decide (t.cpu=fr)&& (decide ((t.mask/2^c)%2=1)&&decide (x.cu.getD m 0≠t.id))))=i):
  zD x.ay o be t=(i&&decide (2*t.weight<=v-lc)&& (decide (be<0)||decide ((x.ts.getD g Tk.zero).weight<t.weight))):=by
 unfold zD uj jE
 rw [show x.ay.au=x.au from rfl,b,a,abH,d,f,<-h,show x.ay.cu=x.cu from rfl,show x.ay.ts=x.ts from rfl,e,abH]
 simp only [Bool.and_assoc]
def qqh (W w:aiM) (x:aF) (A:Nat) (J K L p M:Nat) (B:dY x J K L p M) (o:bP) (ho:o.Ok) (T:List aiX) (e:Mem W w (jM A x J K L p M++T)):
    Calls abp 156 #[vP A 0,.agg o.cells] w (kK W A T (wu x.ay o)):=by
 obtain ⟨cp,cr,gA,gc,gs,lA,lc,cl,uA,uc,cu,tA,tc,ts,sA,sc,rs⟩:=x
 replace e:Mem W w (fM A cp cr gA J gc lA K lc uA L uc tA p tc sA M sc::aiy gA J gc gs lA K lc cl uA L uc cu tA p tc ts sA M sc rs (fR rs++(T))):=e
 obtain ⟨mP,hll,nT,hlt,hls⟩:=B.ln
 replace mP:abo gs=J:=mP;replace hll:abo cl=K:=hll;replace nT:abo cu=L:=nT;replace hlt:abo ts=p:=hlt;replace hls:abo rs=M:=hls
 have I7:=B.ln
 have hsp:fH gs cp rs:=B.spots
 have hrg:abo rs=abo gs:=B.sh.rs
 have hcr:cr<18446744073709551616:=B.ok.aj
 obtain ⟨hcp1,hcp2,_,hgs⟩:=mM B.sh.cfg
 replace hcp1:1<=cp:=hcp1;replace hcp2:cp<=64:=hcp2;replace hgs:dO gs=true:=hgs
 have nU:=(qt hgs).1;have nV:=(qt hgs).2.1
 have qO:(abo cl:Int)=cp:=B.sh.cl;have oZ:(abo cu:Int)=cp:=B.sh.cu
 have nW:abo ts<=1000000:=B.few.t
 have hoc:=ho.cpu;have hot:=ho.task;have hog:=ho.group;have how:=ho.weight;have o7:=ho.to;have o8:=ho.ticks;have zH:=ho.mask;have qP:=ho.kind;unfold aX at hoc hot hog how o7 o8
 have F:=qor B.sh;replace F:∀t∈ts,1<=t.weight/\t.weight<=65536:=F
 obtain ⟨f,rfl⟩:=zx (e.own (i:=3) rfl) om
 have hld:∀c,aH (⟨cp,cr,gA,gc,gs,lA,lc,cl,some ⟨f,0,none⟩,uc,cu,tA,tc,ts,sA,sc,rs⟩:aF).ay c<=65536000000/\0<=aH (⟨cp,cr,gA,gc,gs,lA,lc,cl,some ⟨f,0,none⟩,uc,cu,tA,tc,ts,sA,sc,rs⟩:aF).ay c:=λc=>by have h1:0<=iE ts c/\iE ts c<=65536*abo ts:=qmk (c:=c) F;exact ⟨by show iE ts c<=_;omega,h1.1⟩
 refine (mq e Tryz.func156 136) ?_
 refine (JP∘JE) λw3 g3=>(bM 2∘bN 1∘Jg 1 O0∘JI (h:=by exact λe=>EY 1 e rfl B o.cpu)) λxW hbw=>(Jp 1∘eP∘Jj) (nH (λq=>?_) λq=>?_)
 ·
  exact (JT∘bE 2∘bW) λe=>by exact qv (y:=(⟨cp,cr,gA,gc,gs,lA,lc,cl,some ⟨f,0,none⟩,uc,cu,tA,tc,ts,sA,sc,rs⟩:aF)) 1 e rfl I7 (if_pos (decide_eq_false q))
 replace q:0<=o.cpu/\o.cpu<cp:=q
 obtain ⟨c,N⟩:∃n:Nat,o.cpu=(n:Int):=⟨o.cpu.toNat,by omega⟩
 have rW:((c:Nat):Int)<cp:=by omega
 obtain ⟨lc_,Q⟩:∃z,aH (⟨cp,cr,gA,gc,gs,lA,lc,cl,some ⟨f,0,none⟩,uc,cu,tA,tc,ts,sA,sc,rs⟩:aF).ay c=z:=⟨_,rfl⟩
 have Tp:=hld c
 rw [Q] at Tp
 refine (aQ∘dh 2∘bN 1∘Jn∘Jf 0∘Jf 0∘Jg 0 O1∘bM 1∘JB) λa Z e=>?_
 refine qg (λmS aS wS=>∃(i:Nat) (fr:Int) (R:Int),((i:Int)<=cp)/\(jd (⟨cp,cr,gA,gc,gs,lA,lc,cl,some ⟨f,0,none⟩,uc,cu,tA,tc,ts,sA,sc,rs⟩:aF).ay o.cpu i=(fr,R))/\mS=cp.toNat-i/\Fr aS 136 [] (ahY 26 i 25 cp (ahY 7 R 6 fr ((19,.bool false)::aic g3 A [])))/\Mem W wS (.blk g3 o.cells 214::fM A cp cr gA J gc lA K lc (some ⟨f,0,none⟩) L uc tA p tc sA M sc::aiy gA J gc gs lA K lc cl (some ⟨f,0,none⟩) L uc cu tA p tc ts sA M sc rs (fR rs++(T)))) (m:=cp.toNat-0) ⟨0,(-1),(-1),by omega,rfl,rfl,Z.sub kr,e.pt 7 [0,1,2,3,4,5,6]⟩ ?_
 clear Z e;rintro mS a w_ ⟨i,fr,R,hi,S,rfl,Z,e⟩
 refine Jb Z e ((dh 1∘JQ) (Ji (λhd27=>?_) λhd27=>?_))
 ·
  obtain ⟨lw,O⟩:∃z,aH (⟨cp,cr,gA,gc,gs,lA,lc,cl,some ⟨f,0,none⟩,uc,cu,tA,tc,ts,sA,sc,rs⟩:aF).ay i=z:=⟨_,rfl⟩
  have Tq:=hld i
  rw [O] at Tq
  refine (eY∘aM 2∘aL∘bg 2∘JI (h:=by exact λe=>qtm 1 e rfl B O)) λGX hbw=>(Jp 1∘eP∘bg 1∘Jf 1∘Jc O0∘Jo (vI c) (by rw [N])∘Jp 2) (Jh (λTt=>?_) λTt=>?_)
  ·
   refine (Jp 4∘aJ∘Jj) (Ji (λCZ=>?_) λCZ=>?_)
   ·
    refine (JT∘JR∘bM 4∘JR∘dA 1∘Jp 1∘aL∘Jq) λa Z e=>?_
    exact ⟨_,om,i+1,(i:Int),lw,by omega,by rw [Sn S,if_pos ⟨by omega,by rw [O];omega⟩,O],rfl,Z.sub kr,e.pt 7 [0,1,2,3,4,5,6]⟩
   refine (aQ∘JR∘dA 1∘Jp 1∘aL∘Jq) λa Z e=>?_
   exact ⟨_,om,i+1,fr,R,by omega,by rw [Sn S,if_neg (by rw [O];omega)],rfl,Z.sub kr,e.pt 7 [0,1,2,3,4,5,6]⟩
  refine (Jp 4∘aJ∘Jj∘aQ∘JR∘dA 1∘Jp 1∘aL∘Jq) λa Z e=>?_
  exact ⟨_,om,i+1,fr,R,by omega,by rw [Sn S,if_neg (by rw [O];omega)],rfl,Z.sub kr,e.pt 7 [0,1,2,3,4,5,6]⟩
 have Tv:i=cp.toNat:=by omega
 subst Tv
 have U:=q12 (cpu:=o.cpu) hld de cp.toNat
 rw [S] at U
 replace U: -1<=fr/\fr<(cp.toNat:Int)/\ -1<=R/\R<=65536000000:=U
 refine (JF∘JX∘JG∘dh 1∘bN 1∘Jn∘Jf 0∘Jg 5 O1∘Jl∘bM 1∘JB) λa Z e=>?_
 refine qg (λmS aS wS=>∃(n:Nat) (s:Int),(n<=abo ts)/\(mY (gP (⟨cp,cr,gA,gc,gs,lA,lc,cl,some ⟨f,0,none⟩,uc,cu,tA,tc,ts,sA,sc,rs⟩:aF).ay o n)=s)/\mS=abo ts-n/\Fr aS 136 [] (ahY 50 n 49 p ((48,.slice tA p tc)::(10,vI s)::(27,.bool false)::ahY 26 cp.toNat 25 cp (ahY 7 R 6 fr ((19,.bool false)::aic g3 A []))))/\Mem W wS (.blk g3 o.cells 214::fM A cp cr gA J gc lA K lc (some ⟨f,0,none⟩) L uc tA p tc sA M sc::aiy gA J gc gs lA K lc cl (some ⟨f,0,none⟩) L uc cu tA p tc ts sA M sc rs (fR rs++(T)))) (m:=abo ts-0) ⟨0,(-1),abz _,rfl,rfl,Z.sub kr,e.pt 7 [0,1,2,3,4,5,6]⟩ ?_
 clear Z e;rintro mS a w_ ⟨n,s,hn,P,rfl,Z,e⟩
 refine Jb Z e ((dh 1∘JQ) (Ji (λTw=>?_) λTw=>?_))
 ·
  repeat (first|clear Z|clear e)
  intro a Z e
  obtain ⟨g,rfl⟩:=e.rat 5 n (hk:=(by omega:n<p))
  obtain ⟨t,ht⟩:∃z,ts[n]?=some z:=⟨_,abr om⟩
  obtain ⟨V,hto⟩:=B.task ht
  have hti:=V.id;have wI:=V.group;have htc:=V.cpu;have IU:=V.weight;have zJ:=hto.v;have htr:=hto.r;have IV:=hto.mask
  replace htc:0<=t.cpu/\t.cpu<cp:=htc
  obtain ⟨gt,hgt⟩:∃n:Nat,t.group=(n:Int):=⟨t.group.toNat,by omega⟩
  obtain ⟨ct,hct⟩:∃n:Nat,t.cpu=(n:Int):=⟨t.cpu.toNat,by omega⟩
  obtain ⟨wt,hwt⟩:∃n:Nat,t.weight=(n:Int):=⟨t.weight.toNat,by omega⟩
  have sH:(⟨t.v,t.r,wt⟩:En).Ok:=aaj V.ent hwt zJ
  have hbi:=qmn P
  obtain ⟨bb,hbb⟩:∃n:Nat,s.toNat=n:=⟨_,rfl⟩
  have hmb:=afa t.mask (2^c)
  have hbw:=λh=>F (ts.getD bb Tk.zero) (qf Tk.zero h)
  refine Jb Z e ((eY∘aM 1∘nG n 8∘Jy (v:= .agg t.cells) (h:=by exact Pe rfl rfl fF rfl (λ_ h=>h.yJ qm (i:=5) rfl (ht)))∘JA aiG) λxZ X=>(Jp 1∘JV fF aO (h1:=by exact Ht t)) λG5=>(Jj) λa Z e=>?_)
  refine qy (λaS wS=>Fr aS 136 [] ((13,.bool (t.ready&& (decide (t.cpu=fr)&& (decide ((t.mask/2^c)%2=1)&&decide (cu.getD ct 0≠t.id)))))::(11,vI n)::(12,vP X 0)::(51,.bool true)::ahY 50 n 49 p ((48,vS g p tc)::(10,vI s)::(27,.bool false)::ahY 26 cp.toNat 25 cp (ahY 7 R 6 fr ((19,.bool false)::aic g3 A []))))/\Mem W wS (.blk X t.cells 232::.blk g3 o.cells 214::fM A cp cr gA J gc lA K lc (some ⟨f,0,none⟩) L uc (some ⟨g,0,none⟩) p tc sA M sc::aiy gA J gc gs lA K lc cl (some ⟨f,0,none⟩) L uc cu (some ⟨g,0,none⟩) p tc ts sA M sc rs (fR rs++(T)))) ?_ ?_
  ·
   refine Jb Z e ((Vs .n []) λyQ=>(Vf 0 5∘Vc 1 O0∘Vp [2]) λa Z e l=>?_)
   rcases Z.tf 57 rfl with ⟨u,Z⟩|⟨u,Z⟩
   ·
    refine Vb Z e l ((Vf 3 3∘Vp [5]∘Vc 4 O0∘Vp [6,7,8]) λa Z e l=>?_)
    rcases Z.tf 63 rfl with ⟨Y,Z⟩|⟨Y,Z⟩
    ·
     have G:=eq_of_beq Y
     refine Vb Z e l ((Vf 9 4∘Vf 11 1∘Vc 10 O0∘Vc 12 O1∘Vo (vI c) (by rw [N])∘Vy 13 (v:=vQ (t.mask/2^c:Nat)) (h:=by exact aat (m:=t.mask) (n:=c) rfl rfl rfl (by show _<=64;omega))∘Vp [14]∘Vo (vQ ((t.mask/2^c)%2:Nat)) (by exact Mh (n:=1) (j:=1) rfl de om)∘Vp [15,16,17]) λa Z e l=>?_)
     rcases Z.tf 72 rfl with ⟨Du,Z⟩|⟨Du,Z⟩
     ·
      have Tx:=eq_of_beq Du
      refine Vb Z e l ((Vp [18]∘Vf 23 3∘Vf 27 0∘Vn 19∘Vf 20 0∘Vf 21 4∘Vc 22 O2∘Vc 24 O0∘Vo (vI ct) (by rw [hct])∘Vy 25 (h:=by exact Yl.iO f ct 1 rfl rfl rfl)∘Vy 26 (h:=by exact aae 5 ct 0 om rfl rfl rfl)∘Vc 28 O0∘Vp [29,30,31]∘Vd∘aJ) λa Z e=>?_)
      have Z:=Z.sp 13 (.bool (t.ready&& (decide (t.cpu=fr)&& (decide ((t.mask/2^c)%2=1)&&decide (cu.getD ct 0≠t.id))))) rfl (congrArg abN (by rw [u,decide_eq_true G,decide_eq_true om,acn,acn,acn];exact zkd))
      exact ⟨Z.sub kr,e.pt 8 [0,1,2,3,4,5,6,7]⟩
     have Tx:=ne_of_beq_false Du
     refine ap Z (λ_=>l) [18,19,20,21,22,23,24,25,26,27,28,29,30,31] (bt 32 []) [(13,.bool false)] λa Z=>?_
     refine qe kr ?_
     have Z:=Z.sp 13 (.bool (t.ready&& (decide (t.cpu=fr)&& (decide ((t.mask/2^c)%2=1)&&decide (cu.getD ct 0≠t.id))))) rfl (congrArg abN (by rw [u,decide_eq_true G,decide_eq_false om];first|done|rfl))
     exact ⟨Z.sub kr,e.pt 8 [0,1,2,3,4,5,6,7]⟩
    have G:=ne_of_beq_false Y
    refine ap Z (λ_=>l) [9,10,11,12,13,14,15,16,17,18,19,20,21,22,23,24,25,26,27,28,29,30,31] (bt 32 []) [(13,.bool false)] λa Z=>?_
    refine qe kr ?_
    have Z:=Z.sp 13 (.bool (t.ready&& (decide (t.cpu=fr)&& (decide ((t.mask/2^c)%2=1)&&decide (cu.getD ct 0≠t.id))))) rfl (congrArg abN (by rw [u,decide_eq_false G];first|done|rfl))
    exact ⟨Z.sub kr,e.pt 8 [0,1,2,3,4,5,6,7]⟩
   refine ap Z (λ_=>l) [3,4,5,6,7,8,9,10,11,12,13,14,15,16,17,18,19,20,21,22,23,24,25,26,27,28,29,30,31] (bt 32 []) [(13,.bool false)] λa Z=>?_
   refine qe kr ?_
   have Z:=Z.sp 13 (.bool (t.ready&& (decide (t.cpu=fr)&& (decide ((t.mask/2^c)%2=1)&&decide (cu.getD ct 0≠t.id))))) rfl (congrArg abN (by rw [u];try rfl))
   exact ⟨Z.sub kr,e.pt 8 [0,1,2,3,4,5,6,7]⟩
  clear Z e;rintro a EA ⟨Z,e⟩
  obtain ⟨ma,hma⟩:∃b,(t.ready&& (decide (t.cpu=fr)&& (decide ((t.mask/2^c)%2=1)&&decide (cu.getD ct 0≠t.id))))=b:=⟨_,rfl⟩
  replace Z:=Z.sp 13 (.bool ma) rfl (by rw [hma])
  have htk:=zd9 (x:=(⟨cp,cr,gA,gc,gs,lA,lc,cl,some ⟨f,0,none⟩,uc,cu,some ⟨g,0,none⟩,tc,ts,sA,sc,rs⟩:aF)) (be:=s) N S Q hct hbb hma
  refine qy (λaS wS=>Fr aS 136 [] ((116,.bool (zD (⟨cp,cr,gA,gc,gs,lA,lc,cl,some ⟨f,0,none⟩,uc,cu,some ⟨g,0,none⟩,tc,ts,sA,sc,rs⟩:aF).ay o s t))::(13,.bool ma)::(11,vI n)::(12,vP X 0)::(51,.bool true)::ahY 50 n 49 p ((48,vS g p tc)::(10,vI s)::(27,.bool false)::ahY 26 cp.toNat 25 cp (ahY 7 R 6 fr ((19,.bool false)::aic g3 A []))))/\Mem W wS (.blk X t.cells 232::.blk g3 o.cells 214::fM A cp cr gA J gc lA K lc (some ⟨f,0,none⟩) L uc (some ⟨g,0,none⟩) p tc sA M sc::aiy gA J gc gs lA K lc cl (some ⟨f,0,none⟩) L uc cu (some ⟨g,0,none⟩) p tc ts sA M sc rs (fR rs++(T)))) ?_ ?_
  ·
   refine Jb Z e ((Vs .n []) λDc=>(Vp [0,1]) λa Z e l=>?_)
   rcases Z.tf 87 rfl with ⟨H,Z⟩|⟨H,Z⟩
   ·
    refine Vb Z e l ((Vf 2 2∘Vp [5,6]∘Vf 7 1∘Vc 3 O0∘Vp [4]∘Vo (vI (2*t.weight)) (by exact nD ⟨by omega,by omega⟩)∘Vc 8 O1∘Vo (vI c) (by rw [N])∘VI 9 .n (h:=by exact λe=>qtm 2 e rfl B Q)) λw95 hbw=>(Vp [10]∘Vo (vI (R-lc_)) (by exact nD ⟨by omega,by omega⟩)∘Vp [11,12,13]) λa Z e l=>?_)
    rcases Z.tf 99 rfl with ⟨Dv,Z⟩|⟨Dv,Z⟩
    ·
     have I:=of_decide_eq_true Dv
     refine Vb Z e l ((Vp [14,15,16]) λa Z e l=>?_)
     rcases Z.tf 102 rfl with ⟨C,Z⟩|⟨C,Z⟩
     ·
      have D:=of_decide_eq_true C
      refine Vb Z e l ((Vq [17,18,19,20,21,22,23,24,25,26,27,28,29,30] [(116,.bool true)]∘Vd∘aJ) λa Z e=>?_)
      have Z:=Z.sp 116 (.bool (zD (⟨cp,cr,gA,gc,gs,lA,lc,cl,some ⟨f,0,none⟩,uc,cu,some ⟨g,0,none⟩,tc,ts,sA,sc,rs⟩:aF).ay o s t)) rfl (congrArg abN (by rw [htk,H,decide_eq_true I,decide_eq_true D];rfl))
      exact ⟨Z.sub kr,e.pt 8 [0,1,2,3,4,5,6,7]⟩
     have D:=of_decide_eq_false C
     refine ap Z (λ_=>l) [17,19] (bt 31 [18,20,21,22,23,24,25,26,27,28,29,30]) [(105,vP A 0),(103,vP X 2)] λa Z=>?_
     refine dH Z l 18 0 (v:=vI t.weight) λa Z=>?_
     refine oO Z l 20 λa Z=>?_
     refine ap Z (λ_=>l) [21,22] (bt 31 [23,24,25,26,27,28,29,30]) [(108,vP A 5)] λa Z=>?_
     refine dH Z l 23 2 λa Z=>?_
     refine pK Z (λ_=>l) (i:=24) rfl rfl (d:=110) rfl de kr (λ_ _ _ h=>h) (v:=vI s) (λ_=>Yl.pure kr) λa Z=>?_
     replace Z:=Z.sp 110 (vI bb) rfl (by rw [show s=(bb:Int) by omega])
     refine iw Z l 25 rfl (v:=vP g (bb*8)) (Yl.iO g bb 8 rfl rfl rfl) λa Z=>?_
     refine ap Z (λ_=>l) [26] (bt 31 [27,28,29,30]) [(112,vP g (bb*8+2))] λa Z=>?_
     refine iw Z l 27 rfl (v:=vI ((ts.getD bb Tk.zero).weight)) (Pd rfl rfl kr (λ_ h=>h.qw qm (i:=6) rfl (k:=bb) (off:=2) (x:=(ts.getD bb Tk.zero)) ((getD_at Tk.zero om)) rfl)) λa Z=>?_
     refine ap Z (λ_=>l) [28,29,30] (bt 31 []) [(116,.bool (decide ((t.weight:Int)>((ts.getD bb Tk.zero).weight:Int))))] λa Z=>?_
     refine qe kr ?_
     have Z:=Z.sp 116 (.bool (zD (⟨cp,cr,gA,gc,gs,lA,lc,cl,some ⟨f,0,none⟩,uc,cu,some ⟨g,0,none⟩,tc,ts,sA,sc,rs⟩:aF).ay o s t)) rfl (congrArg abN (by rw [htk,H,decide_eq_true I,decide_eq_false D];rfl))
     exact ⟨Z.sub kr,e.pt 8 [0,1,2,3,4,5,6,7]⟩
    have I:=of_decide_eq_false Dv
    refine ap Z (λ_=>l) [14,15,16,17,18,19,20,21,22,23,24,25,26,27,28,29,30] (bt 31 []) [(116,.bool false)] λa Z=>?_
    refine qe kr ?_
    have Z:=Z.sp 116 (.bool (zD (⟨cp,cr,gA,gc,gs,lA,lc,cl,some ⟨f,0,none⟩,uc,cu,some ⟨g,0,none⟩,tc,ts,sA,sc,rs⟩:aF).ay o s t)) rfl (congrArg abN (by rw [htk,decide_eq_false I,Bool.and_false];rfl))
    exact ⟨Z.sub kr,e.pt 8 [0,1,2,3,4,5,6,7]⟩
   refine ap Z (λ_=>l) [2,3,4,5,6,7,8,9,10,11,12,13,14,15,16,17,18,19,20,21,22,23,24,25,26,27,28,29,30] (bt 31 []) [(116,.bool false)] λa Z=>?_
   refine qe kr ?_
   have Z:=Z.sp 116 (.bool (zD (⟨cp,cr,gA,gc,gs,lA,lc,cl,some ⟨f,0,none⟩,uc,cu,some ⟨g,0,none⟩,tc,ts,sA,sc,rs⟩:aF).ay o s t)) rfl (congrArg abN (by rw [htk,H];rfl))
   exact ⟨Z.sub kr,e.pt 8 [0,1,2,3,4,5,6,7]⟩
  clear Z e;rintro a w16 ⟨Z,e⟩
  refine Jb Z e (Ju (λE=>?_) λE=>?_)
  ·
   refine (JT∘JR∘Jp 2∘aL∘Jj∘JR∘dA 1∘Jp 1∘aL∘Jq) λa Z e=>?_
   exact ⟨_,om,n+1,(n:Int),by omega,by rw [qs8 P,show (aF.ay (⟨cp,cr,gA,gc,gs,lA,lc,cl,some ⟨f,0,none⟩,uc,cu,some ⟨g,0,none⟩,tc,ts,sA,sc,rs⟩:aF)).ts.getD n Tk.zero=t from uT Tk.zero ht,if_pos E],rfl,Z.sub kr,e.pt 8 [1,2,3,4,5,6,7]⟩
  refine (aQ∘JR∘dA 1∘Jp 1∘aL∘Jq) λa Z e=>?_
  exact ⟨_,om,n+1,s,by omega,by rw [qs8 P,show (aF.ay (⟨cp,cr,gA,gc,gs,lA,lc,cl,some ⟨f,0,none⟩,uc,cu,some ⟨g,0,none⟩,tc,ts,sA,sc,rs⟩:aF)).ts.getD n Tk.zero=t from uT Tk.zero ht,if_neg (zC E)],rfl,Z.sub kr,e.pt 8 [1,2,3,4,5,6,7]⟩
 have hnl:n=abo ts:=by omega
 subst hnl
 have hbi:=qmn P
 refine (JF∘JX∘JG∘bN 2∘aL∘Jj) (Ji (λI8=>?_) λI8=>?_)
 ·
  exact (JT∘bE 2∘bW) λe=>by exact qv (y:=(⟨cp,cr,gA,gc,gs,lA,lc,cl,some ⟨f,0,none⟩,uc,cu,tA,tc,ts,sA,sc,rs⟩:aF)) 1 e rfl I7 (qs9 (x:=(⟨cp,cr,gA,gc,gs,lA,lc,cl,some ⟨f,0,none⟩,uc,cu,tA,tc,ts,sA,sc,rs⟩:aF)) (decide_eq_true q) (by rw [P];omega))
 obtain ⟨k,hk⟩:∃n:Nat,s=(n:Int):=⟨s.toNat,by omega⟩
 subst hk
 repeat (first|clear Z|clear e)
 intro a Z e
 obtain ⟨g,rfl⟩:=e.rat 5 k (hk:=(by omega:k<p))
 obtain ⟨t2,ht2⟩:∃z,ts[k]?=some z:=⟨_,abr om⟩
 refine Jb Z e ((aQ∘aM 1∘Jn∘Jf 0∘Jg 5 O1∘Jp 1∘nG k 8∘Jf 0∘Jy (v:=vI t2.id) (h:=by exact Pd rfl rfl kr (λ_ h=>(by have:=h.qw qm (i:=5) rfl (k:=k) (off:=0) (x:=t2) (ht2) rfl;simpa using this)))∘Jp 1∘aJ∘bg 2∘Jf 1∘Jc O0∘Jo (vI c) (by rw [N])∘JL (h:=by exact λe=>q7y 1 e rfl B ht2 rW)) ?_)
 rintro e _ Dw ⟨y,rfl,hys,tY⟩
 refine ⟨_,rfl,_,(show Mem W Dw (.blk g3 o.cells 214::(mX A y++(T))) from tY),?_⟩
 exact (qC∘bg 3∘aP∘bW) λe=>by exact zg1 1 e rfl ((qta (x:=(⟨cp,cr,gA,gc,gs,lA,lc,cl,some ⟨f,0,none⟩,uc,cu,some ⟨g,0,none⟩,tc,ts,sA,sc,rs⟩:aF)) (decide_eq_true q) P ht2).trans (by rw [hys,N]))
def qyz (W:aiM) (n:Nat) (l:List Tk) (a:Nat) (t:Tk) (fs:List aiX) (r:aiQ) (b:aiM):Prop:=∃(A:aiW) (c:Nat),r= .returned (.slice A (n+1) c)/\n+1<=c/\Mem W b (fT A (n+1) c l:: .blk a t.cells 232::fs)
def Tz {l:List Tk} {r:aiQ} (hr:r= .returned (.slice A (n+1) c)) (a:Mem W w (fT A (n+1) c l:: .blk m t.cells 232::fs)):qyz W n l m t fs r w:=by
 obtain ⟨f,g,b,d⟩:=BQ (a.own (i:=0) rfl)
 injection b with h j e
 subst e
 exact ⟨A,c,hr,d,a⟩
def q7z (f:Mem W w fs) {i j k g off b d m c:Nat} {C:Array aiN} {xs:List aiN} {t:aiP} (h:fs[i]?=some (.blk k C t)) (hi:fs[j]?=some (.row (.slice (some ⟨g,0,none⟩) m c) m xs 232 8)) (a:i≠j) (hm:0<c) {ln lc:Nat}:
  (callFunc 262 [afJ (some ⟨k,0,none⟩) ln lc,.slice (some ⟨g,off,none⟩) b d].toArray).run abp w= .ok (.value (.bool false)) w:=by
 rw [run_callFunc_extern Tryz.func262 kr kr kr (e:=adZ #[45,45] #[4]) kr]
 show ((adZ #[45,45] #[4] #[.slice (some ⟨k,0,none⟩) ln lc,.slice (some ⟨g,off,none⟩) b d]).run abp w).andThen _=_
 rw [qsr f dK h hi a hm ln lc]
 rfl
def add0 {g k:Nat}:(some (⟨g,0,none⟩:Addr)).map (·.add k)=some ⟨g,k,none⟩:=by rw [Option.map_some,acI,aci]
def q70 (l:List Tk) (i:Nat):(l.flatMap bX).take (i*8)=(l.take i).flatMap bX:=by
 rcases ab6 (abo l) i with h|h
 ·rw [abL (by rw [nL];omega),abL om]
 ·have a:abo ((l.take i).flatMap bX)=i*8:=by rw [nL,abx];omega
  conv=>lhs;rw [<-ab8 i l,ab1,<-a]
  exact adO
def znz (h:Mem W w fs) {j g n c i:Nat} {l:List Tk} (hi:fs[j]?=some (.row (.slice (some ⟨g,0,none⟩) n c) n (l.flatMap bX) 232 8)) (h1:i<abo l) (f:abo l<=c):
  ∃b,(if c=i+1 then some (⟨g,0,none⟩:Addr) else (some (⟨g,0,none⟩:Addr)).map (·.add ((i+1)*8)))=some b/\∀k v,((l.drop (i+1)).flatMap bX)[k]?=some v->w.cell? (b.add k)=some v:=by
 by_cases e:c=i+1
 ·rw [if_pos e]
  refine ⟨_,rfl,λk v d=>?_⟩
  rw [acs om] at d
  cases d
 ·rw [if_neg e]
  refine ⟨⟨g,(i+1)*8,none⟩,by simp [Addr.add],?_⟩
  exact h.mO (a:=i+1) (ys:=[]) (by rw [abM];exact hi) ⟨abo l,abL (by rw [abE];omega)⟩ om
def zke {xs ys r:List aiN} (h:xs.length=k) {j:Nat} (a:k=j:=by rfl):(putAt (xs++ys) k r).take j=xs:=by
 subst a;subst h
 rw [M5,abv]
 exact adO
def q71 (z t:Tk) (g:Nat) (w:aiM) (a:w.heap[g]?=some (.cells t.cells 232 (0,0))):
    Calls abp 204 #[.agg z.cells,vP g 0] w (Is w (.bool (decide (z.id>t.id)))):=by
 refine (iP Tryz.func204 9) ?_
 exact (JP∘JE) λb c=>(Jp 1∘Jr∘Jg 0 O0∘Jf 0∘Jy (v:=vI t.id) (h:=by exact Pd rfl rfl kr (λ_ h=>h.mH a rfl))∘Jp 2∘fJ∘aP) tT
def q2l (A:aiW) (c:Nat) (l:List Tk) (t:Tk) (g:Nat) (w:aiM) (hr:Rd w w.heap.size 8 A (abo l) (l.flatMap bX)) (v:abo l<=1000000) (q:w.heap[g]?=some (.cells t.cells 232 (0,0))):
    Calls abp 203 #[abl A l c,.func (.func 204) #[] #[vP g 0]] w (sQ w l t.id):=by
 refine (iP Tryz.func203 19) ?_
 refine (dh 1∘bN 1∘Jl∘bM 1∘JB) λa Z b=>?_
 refine qg (λp r s=>∃(k:Nat),(k<=abo l)/\(∀j,j<k->(l.getD j Tk.zero).id<=t.id)/\p=abo l-k/\Fr r 19 [] (ahY 8 k 7 (abo l) [(4,vI 0),(0,abl A l c),(1,.func (.func 204) #[] #[vP g 0])])/\Mem w s []) (m:=abo l-0) ⟨0,abz _,λj h=>by omega,rfl,Z.sub kr,b.pk []⟩ ?_
 clear Z b;rintro p a x ⟨k,y,e,rfl,Z,b⟩
 refine Jb Z b ((dh 1∘JQ) (Ji (λi=>?_) λi=>?_))
 ·
  have n:k<abo l:=by omega
  refine (eY∘aM 2∘aL∘bg 3) ?_
  obtain ⟨gA,z,rfl,_⟩:=hr.sat k
  refine (iC k 8∘qD Tk.cells qm hr fF k Tk.zero) λa Z b=>?_
  refine fo Z 5 rfl rfl ?_
  refine zh Z (f:=204) (vs:=[.agg ((l.getD k Tk.zero).cells)]) (fst:=[]) (caps:=[vP g 0]) rfl rfl rfl kr rfl de (q71 (l.getD k Tk.zero) t g _ (b.lG q)) ?_
  rintro _ u ⟨rfl,o⟩
  refine ⟨_,rfl,?_⟩
  replace b:=b.call o
  clear Z;intro a Z
  refine Jb Z b ((lq∘Jj) (Ji (λd=>?_) λd=>?_))
  ·
   exact (JT∘aM 2∘aL∘aP∘aW) λb=>q13 n e om b.below
  refine (aQ∘JR∘dA 1∘Jp 1∘aL∘Jq) λa Z b=>?_
  exact ⟨_,om,k+1,by omega,q15 e om,rfl,Z.sub kr,b.pk []⟩
 exact (JF∘JX∘JG∘bE 1∘aW) λb=>q14 (λj B=>e j om) b.below
def qtn (W w:aiM) (A:aiW) (n c i:Nat) (l:List Tk) (t:Tk) (y:Nat) (fs:List aiX) (F:abo l=n) (G:n<=1000000) (hi:i<=n) (H:n<=c) (b:Mem W w (fT A n c l:: .blk y t.cells 232::fs)):
    Calls abp 205 #[.slice A n c,vI i,.slice (some ⟨y,0,none⟩) 1 1] w (qyz W n (ji l i t) y t fs):=by
 refine (zA b Tryz.func205 95) ?_
 refine (aM 1∘bg 2∘Jy (h:=by exact aaf dK (j:=i) rfl rfl rfl om)∘oo∘bg 1∘Jl∘Jp 1∘bU∘Jj∘JQ∘JP∘Jv 2 [(16,.bool false)]∘Jj∘aQ∘aM 1∘Jl∘Jp 1∘bU∘Jj∘bN 3∘bU∘Jj) (Je (λs=>?_) λs=>?_)
 ·
  refine (JT∘aM 2∘JD (bX t) 0 (λ_ _=>aO) dK (hr:=by exact λb=>b.bB (i:=1) (n:=1) (size:=8) rfl rfl) (h1:=by exact Sq t)) λI J K z=>(JC (h:=by exact λb=>b.dG (i:=0) (ys:=((l++[t]).flatMap bX)) rfl (q7h l t))∘Jp 1∘eP∘aP) λa Z b=>?_
  have o:=b.pt 2 [0,1]
  exact lV rfl Z rfl (Tz rfl (o.dG (i:=0) rfl (by rw [zdq (l:=l) (t:=t) (i:=i) om])))
 refine (aQ∘bN 2∘dA 1∘Jp 1∘Jy (h:=by exact Yl.cap rfl rfl kr)∘Jp 1∘lq∘Jj) (Ji (λu=>?_) λu=>?_)
 ·
  repeat (first|clear Z|clear b)
  intro a Z b
  obtain ⟨gA,rfl⟩:=b.rat 0 i (hk:=(by omega:i<n))
  refine Jb Z b ((JT∘aM 2∘Jy (h:=by exact aah dK (j:=i) rfl rfl rfl om)∘Jp 2∘dA 1∘Jp 1∘Js) λa Z b=>?_)
  refine fo Z 8 rfl rfl ?_
  refine qni Z b (kn:= .i64) (xs:=(l.take i).flatMap bX) (m:=n+1-i) rfl dK kr rfl rfl ⟨by rw [nL,abx];omega,b.mO (j:=0) (a:=0) (l:=l) (ys:=[]) (by rw [abM];rfl) ⟨i,rfl⟩ (abz _)⟩ om om om om rfl de ?_
  clear Z;intro a L e g Z p B
  replace b:=p
  have d:i+(n+1-i)=n+1:=om
  replace b:=b.bC (i:=0) (ys:=((l.take i).flatMap bX++zT (n+1-i))) rfl d (rfl)
  replace Z:=Z.sp 40 (vS e (n+1) g) rfl (iW d)
  refine Jb Z b ((Jp 1∘aJ∘bg 2∘Jy (v:= .slice (if g=i then some ⟨e,0,none⟩ else (some ⟨e,0,none⟩:aiW).map (·.add (i*8))) ((n+1)-i) (g-i)) (h:=by exact aaf dK (j:=i) rfl rfl rfl om)∘Jo (.slice (some ⟨e,i*8,none⟩) (n+1-i) (g-i)) (by rw [if_neg om,add0])∘Jp 1) λa Z b=>?_)
  refine fo Z 4 rfl rfl ?_
  refine M4 Z b (i:=0) (bX t) rfl dK rfl rfl rfl (by rw [qm,show agh 1 (n+1-i)=1 from ac4 om]) (λk v q=>by rw [acI,aci];exact b.cell (i:=2) rfl (by rw [<-aeR];exact q)) (Sq t) (by rw [qm];simp only [abq,nL,NA,abx];omega) rfl de ?_
  clear Z b;intro a M Z b
  refine Jb Z b ((qC∘Jj) λa Z b=>?_)
  refine wp_seq ?_
  refine Jb Z b ((Vs (.f .n) []) λC=>(Vp [0,1,2,5,6]∘xV 3 1∘Vy 4 (v:= .slice (if g=(i+1) then some ⟨e,0,none⟩ else (some ⟨e,0,none⟩:aiW).map (·.add ((i+1)*8))) ((n+1)- (i+1)) (g- (i+1))) (h:=by exact aaf dK (j:=(i+1)) rfl rfl rfl om)∘Vo (.slice (some ⟨e,(i+1)*8,none⟩) (n+1- (i+1)) (g- (i+1))) (by rw [if_neg om,add0])∘Vy 7 (v:= .slice (if c=i then some ⟨gA,0,none⟩ else (some ⟨gA,0,none⟩:aiW).map (·.add (i*8))) (n-i) (c-i)) (h:=by exact aaf dK (j:=i) rfl rfl rfl om)∘Vo (.slice (some ⟨gA,i*8,none⟩) (n-i) (c-i)) (by rw [if_neg om,add0])) λa Z b x=>?_)
  refine s_on Z 8 rfl ?_
  refine M4 Z b (i:=0) ((l.drop i).flatMap bX) rfl dK rfl rfl rfl (by rw [nL,abE,show agh (n-i) (n+1- (i+1))=n-i from ac4 om];omega) (b.mO (j:=1) (a:=i) (ys:=[]) (by rw [abM];rfl) ⟨abo l,abL (by rw [abE];omega)⟩ om) (λv q=>Iy _ v q) (by rw [Mc (by rw [qm];simp only [abq,nL,NA,abx];omega),nL,abE];simp only [abq,nL,NA,abx];omega) rfl de ?_
  clear Z b;intro a N Z b
  refine av (b.pt 3 [1,2]) (λx=>?_)
  refine Vb Z b x ((Vd∘iZ∘aM 2∘fJ∘aP) λa Z b=>?_)
  have o:=b.pt 3 [0,2]
  exact lV rfl Z rfl (Tz rfl (o.dG (i:=0) rfl (by rw [<-F];exact zdr om)))
 repeat (first|clear Z|clear b)
 intro a Z b
 obtain ⟨gA,rfl⟩:=b.rat 0 i (hk:=(by omega:i<n))
 refine Jb Z b ((aQ∘aM 3∘dA 1∘Jy (h:=by exact aah dK (j:=n+1) rfl rfl rfl om)∘Jp 1∘lq∘Jq) λa Z b=>?_)
 obtain ⟨D,r,p⟩:=b.oU (i:=0) (m':=n+1) rfl om om
 replace b:=p;clear p
 replace r:abo D=8:=by rw [r];omega
 refine Jb Z b ((JG∘bN 4∘dA 1∘Jy (v:= .slice (if c=(i+1) then some ⟨gA,0,none⟩ else (some ⟨gA,0,none⟩:aiW).map (·.add ((i+1)*8))) ((n+1)- (i+1)) (c- (i+1))) (h:=by exact aaf dK (j:=(i+1)) rfl rfl rfl om)∘Jo (.slice (some ⟨gA,(i+1)*8,none⟩) (n+1- (i+1)) (c- (i+1))) (by rw [if_neg om,add0])) λa Z b=>?_)
 refine fo Z 6 rfl rfl ?_
 refine zc0 Z b rfl rfl (q7z b (i:=1) (j:=0) rfl rfl de om) rfl de ?_
 clear Z;intro a Z
 refine Jb Z b ((Jp 1∘aJ∘Jj∘JT) λa Z b=>?_)
 refine wp_seq ?_
 refine Jb Z b ((Vs (.f .n) []) λE=>(Vp [0,1,2,5,6]∘xV 3 1∘Vy 4 (v:= .slice (if c=(i+1) then some ⟨gA,0,none⟩ else (some ⟨gA,0,none⟩:aiW).map (·.add ((i+1)*8))) ((n+1)- (i+1)) (c- (i+1))) (h:=by exact aaf dK (j:=(i+1)) rfl rfl rfl om)∘Vo (.slice (some ⟨gA,(i+1)*8,none⟩) (n+1- (i+1)) (c- (i+1))) (by rw [if_neg om,add0])∘Vy 7 (v:= .slice (if c=i then some ⟨gA,0,none⟩ else (some ⟨gA,0,none⟩:aiW).map (·.add (i*8))) ((n+1)-i) (c-i)) (h:=by exact aaf dK (j:=i) rfl rfl rfl om)∘Vo (.slice (some ⟨gA,i*8,none⟩) (n+1-i) (c-i)) (by rw [if_neg om,add0])) λa Z b x=>?_)
 refine s_on Z 8 rfl ?_
 refine M4 Z b (i:=0) ((l.drop i).flatMap bX) rfl dK rfl rfl rfl (by rw [nL,abE,show agh (n+1-i) (n+1- (i+1))=n+1- (i+1) from agV om];omega) (b.mO (j:=0) (a:=i) (ys:=D) rfl ⟨abo l,abL (by rw [abE];omega)⟩ om) (λv q=>Iy _ v q) (by rw [nL,abE,abq,nL];omega) rfl de ?_
 clear Z b;intro a O Z b
 refine av (b.pt 2 [1]) (λx=>?_)
 refine Vb Z b x ((Vd∘iZ∘aM 2∘Jy (v:= .slice (if c=i then some ⟨gA,0,none⟩ else (some ⟨gA,0,none⟩:aiW).map (·.add (i*8))) ((n+1)-i) (c-i)) (h:=by exact aaf dK (j:=i) rfl rfl rfl om)∘Jo (.slice (some ⟨gA,i*8,none⟩) (n+1-i) (c-i)) (by rw [if_neg om,add0])∘Jp 1) λa Z b=>?_)
 refine fo Z 4 rfl rfl ?_
 refine M4 Z b (i:=0) (bX t) rfl dK rfl rfl rfl (by rw [qm,show agh 1 (n+1-i)=1 from ac4 om]) (λk v q=>by rw [acI,aci];exact b.cell (i:=1) rfl (by rw [<-aeR];exact q)) (Sq t) (by rw [qm,Mc (by rw [nL,abE,abq,nL];omega),abq,nL];omega) rfl de ?_
 clear Z b;intro a P Z b
 refine Jb Z b ((iZ∘bg 2∘eP∘aP) λa Z b=>?_)
 have o:=b.pt 2 [0,1]
 exact lV rfl Z rfl (Tz rfl (o.dG (i:=0) rfl (q7i om r)))
def qto (W w:aiM) (g n c i:Nat) (l:List Tk) (fs:List aiX) (D:abo l=n) (u:n<=1000000) (hi:i<n) (x:n<=c) (d:Mem W w (fT (some ⟨g,0,none⟩) n c l::fs)):
    Calls abp 209 #[.slice (some ⟨g,0,none⟩) n c,vI i,vI ((i+1:Nat):Int)] w (λr y=>r= .returned (.slice (some ⟨g,0,none⟩) (n-1) c)/\Mem W y (fT (some ⟨g,0,none⟩) (n-1) c (l.eraseIdx i)::fs)):=by
 refine (zA d Tryz.func209 33) ?_
 refine (aM 1∘bg 4∘Jl∘Jy (v:= .slice (if n=i then some ⟨g,0,none⟩ else (some ⟨g,0,none⟩:aiW).map (·.add (i*8))) ((i+1)-i) (n-i)) (h:=by exact aaY dK (i:=i) (j:=i+1) (q:=n) rfl rfl rfl rfl rfl om om om)∘iZ∘Jj∘bN 3∘bU∘Jj) (Je (λe=>?_) λe=>?_)
 ·
  intro a Z d
  exact absurd e om
 refine (aQ∘aM 1∘Jl∘Jp 1∘bU∘Jj) λa Z d=>?_
 refine wp_seq ?_
 refine Jb Z d ((Vs (.f .n) []) λz=>(Vp [0,1,3,4]∘Vy 2 (h:=by exact aah dK (j:=i) rfl rfl rfl om)∘Vy 5 (h:=by exact aaf dK (j:=(i+1)) rfl rfl rfl om)) λa Z d s=>?_)
 refine s_on Z 6 rfl ?_
 obtain ⟨A,o,k⟩:=znz d (j:=0) (i:=i) rfl (by omega:i<abo l) (by omega:abo l<=c)
 replace Z:=Z.sp 25 (.slice (some A) (n- (i+1)) (c- (i+1))) rfl (by rw [o])
 replace d:=d.Hr (i:=0) (m':=i) (ys:=(l.take i).flatMap bX) rfl om (q70 l i)
 refine qvo Z d (i:=0) (news:=(l.drop (i+1)).flatMap bX) rfl dK rfl rfl rfl (by rw [nL,abE];omega) k om (λv B=>Iy _ v B) rfl de ?_
 clear Z d;intro a C Z d
 refine av (d.pt 1 []) (λs=>?_)
 refine Vb Z d s ((Vp [7]∘Vd∘aJ) ?_)
 have b:i+(n- (i+1))=n-1:=om
 intro a Z d
 replace d:=d.bC (i:=0) (ys:=(l.eraseIdx i).flatMap bX) rfl b (zds om)
 replace Z:=Z.sp 0 (vS g (n-1) c) rfl (iW b)
 refine Jb Z d ((aM 2∘Jl∘Jp 1∘Jy (v:= .slice (if c=n-1 then some ⟨g,0,none⟩ else (some ⟨g,0,none⟩:aiW).map (·.add ((n-1)*8))) (n- (n-1)) (c- (n-1))) (h:=by exact aam dK (i:=n-1) (j:=n) rfl rfl rfl rfl om om)∘Jo (.slice (some ⟨g,(n-1)*8,none⟩) (n- (n-1)) (c- (n-1))) (by rw [if_neg om,add0])) λa Z d=>?_)
 refine fo Z 5 rfl rfl ?_
 obtain ⟨E,p,m⟩:=d.oU (i:=0) (m':=n) rfl om om
 replace d:=m;clear m
 refine zje Z d (i:=0) rfl dK rfl rfl om (znx _) (by rw [abq,p,nL,aeX,if_pos om];omega) rfl λt d=>?_
 replace d:=d.Hr (i:=0) (m':=n-1) (ys:=(l.eraseIdx i).flatMap bX) rfl om (zke (by rw [nL,aeX,if_pos om];omega))
 refine Jb Z d ((qC∘bg 2∘aL∘aP) λa Z d=>?_)
 exact lV rfl Z rfl ⟨rfl,d⟩
def q72 {g n c i:Nat} {l:List Tk} {H:List aiX} (O:lW (fT (some ⟨g,0,none⟩) n c l) (fT (some ⟨g,0,none⟩) (n-1) c (l.eraseIdx i)) F H) (e:Mem W w F) (f:abo l=n) (a:n<=1000000) (hi:i<n):
  Calls abp 209 #[.slice (some ⟨g,0,none⟩) n c,vI i,vI ((i+1:Nat):Int)] w (λr b=>r= .returned (.slice (some ⟨g,0,none⟩) (n-1) c)/\Mem W b H):=by
 obtain ⟨p,q,rfl,rfl⟩:=O.split
 have d:=e.perm ac8
 obtain ⟨o,s,j,k⟩:=BQ (d.own (i:=0) rfl)
 injection j with _ _ m
 subst m
 exact (qto W w g n c i l (p++q) f a hi k d).mono λr b h=>⟨h.1,h.2.perm List.perm_middle.symm⟩
theorem At.mem {α:Type} {a:α} {l:List α} (h:At l a):a∈l:=by
 induction h with
 |z=>exact acj ..
 |s _ b=>exact ab5 _ b
def qtp {n c i m:Nat} {l:List Tk} {k:aiW->Nat->List aiX} (t:Tk) (j:Nat) (O:∀e d,lW (fT A n c l) (fT e (n+1) d (ji l i t)) F (k e d)) (V:At F (.blk m t.cells 232)) (G:Mem W w F) (H:l.length=n) (o:n<=1000000) (hi:i<=n) (y:F[j]?=some (fT A n c l):=by exact rfl) (I:(λe d=>F.set j (fT e (n+1) d (ji l i t)))=k:=by kernel_rfl):
  Calls abp 205 #[.slice A n c,vI i,.slice (some ⟨m,0,none⟩) 1 1] w (λr z=>∃e d,r= .returned (.slice e (n+1) d)/\n+1<=d/\Mem W z (k e d)):=by
 have f:=(abB.1 y).1
 obtain ⟨p,q,B,g⟩:∃p q,F=p++fT A n c l::q/\∀b,F.set j b=p++b::q:=⟨F.take j,F.drop (j+1),by rw [<-(abB.1 y).2,<-acz f,ab8],λb=>by rw [List.set_eq_take_append_cons_drop,if_pos f]⟩
 have v:=(B▸G).perm (ac8 (l₁:=p) (a:=fT A n c l) (l₂:=q))
 obtain ⟨e,d,J,K⟩:=BQ (v.own (i:=0) rfl)
 injection J with _ _ L
 subst L
 have C:=V.mem
 rw [B] at C
 have x:ag4 m t.cells 232∈p++q:=by
  rcases acg.1 C with h|h
  ·exact adQ _ h
  ·rcases abY.1 h with h|h
   ·cases h
   ·exact List.mem_append_right _ h
 obtain ⟨s,u,hs⟩:=List.append_of_mem x
 rw [hs] at v
 have M:=v.perm (agp _ (ac8 (l₁:=s) (a:=ag4 m t.cells 232) (l₂:=u)))
 refine (qtn W w A n c i l t m (s++u) H o hi K M).mono λr z ⟨e,d,e1,e2,e3⟩=>⟨e,d,e1,e2,?_⟩
 have D:=e3.perm (agp _ (ac8 (l₁:=s) (a:=ag4 m t.cells 232) (l₂:=u)).symm)
 rw [<-hs] at D
 have E:=D.perm (ac8 (l₁:=p) (l₂:=q)).symm
 rw [<-g] at E
 have N:=congrFun (congrFun I e) d
 rw [<-N]
 exact E
def zkf {H:List aiX} (t t1:Tk) (x:En) (h1:t.put x=t1) (O:lW (.blk g t.cells 232) (.blk g t1.cells 232) F H) (a:Mem W w F) (b:x.Ok):
  Calls abp 202 #[vP g 0,.agg x.cells] w (λr c=>r= .returned (.tuple #[])/\Mem W c H):=by
 subst h1
 exact zj2 t x O a b
def q73 {c n g:Nat} {l:List Tk} (a:abo l=n) (hr:Rd w w.heap.size 8 A n (l.flatMap bX)) (b:abo l<=1000000) (d:w.heap[g]?=some (.cells t.cells 232 (0,0))):Calls abp 203 #[.slice A n c,.func (.func 204) #[] #[vP g 0]] w (sQ w l t.id):=by
 subst a
 exact q2l A c l t g w hr b d
def NV {c m k b a zC I9:Nat} {Jd:aiW} {ts':List Tk} (h:sO x c m k b a) (ht:abo ts'=zC):sO {x with tA:=Jd,tc:=I9,ts:=ts'} c m k zC a:=⟨h.g,h.l,h.u,ht,h.s⟩
def NW {cp:Int} (hc:cp=(c:Int)) (h:1<=o.weight/\o.weight<=65536/\o.mask≠0/\¬2^c<=o.mask):¬(mo o.weight=false\/o.mask=0\/yg o.mask cp=true):=by
 subst hc
 rintro (a|a|a)
 ·exact of_decide_eq_false a ⟨h.1,h.2.1⟩
 ·exact h.2.2.1 a
 ·exact h.2.2.2 (of_decide_eq_true a)
def zea {cp:Int} (hc:cp=(c:Int)) (h:¬(1<=o.weight/\o.weight<=65536/\o.mask≠0/\¬2^c<=o.mask)):mo o.weight=false\/o.mask=0\/yg o.mask cp=true:=by
 subst hc
 by_cases a:1<=o.weight/\o.weight<=65536
 ·by_cases b:o.mask=0
  ·exact .inr (.inl b)
  ·exact .inr (.inr (decide_eq_true (afv λd=>h ⟨a.1,a.2,b,d⟩)))
 ·exact .inl (decide_eq_false a)
def qmt (W w:aiM) (x:aF) (gm:Nat) (J K I D L:Nat) (p:dY x J K I D L) (o:bP) (E:o.Ok) (T:List aiX) (b:Mem W w (jM gm x J K I D L++T)) (M:∀c,c<abo x.cu->fu x.ay c=true):
    Calls abp 150 #[vP gm 0,.agg o.cells] w (kK W gm T (sK x.ay o)):=by
 obtain ⟨cp,cr,gA,gc,gs,lA,lc,cl,uA,uc,cu,tA,tc,ts,sA,sc,rs⟩:=x
 replace b:Mem W w (fM gm cp cr gA J gc lA K lc uA I uc tA D tc sA L sc::aiy gA J gc gs lA K lc cl uA I uc cu tA D tc ts sA L sc rs (fR rs++(T))):=b
 obtain ⟨N,O,A,B,P⟩:=p.ln
 replace N:abo gs=J:=N;replace O:abo cl=K:=O;replace A:abo cu=I:=A;replace B:abo ts=D:=B;replace P:abo rs=L:=P
 have d:=p.ln
 have hsp:fH gs cp rs:=p.spots
 have hrg:abo rs=abo gs:=p.sh.rs
 have hcr:cr<18446744073709551616:=p.ok.aj
 obtain ⟨F,G,_,C⟩:=mM p.sh.cfg
 replace F:1<=cp:=F;replace G:cp<=64:=G;replace C:dO gs=true:=C
 have nU:=(qt C).1;have nV:=(qt C).2.1
 have qO:(abo cl:Int)=cp:=p.sh.cl;have oZ:(abo cu:Int)=cp:=p.sh.cu
 have nW:abo ts<=1000000:=p.few.t
 have hoc:=E.cpu;have hot:=E.task;have hog:=E.group;have how:=E.weight;have Q:=E.to;have R:=E.ticks;have zH:=E.mask;have qP:=E.kind;unfold aX at hoc hot hog how Q R
 have S:=p.ok.cu
 obtain ⟨j,rfl⟩:=zx (b.own (i:=3) rfl) om
 refine (mq b Tryz.func150 60) ?_
 refine (JP∘JE) λw3 g3=>(bM 2∘bN 1∘Jg 1 O0∘JI (h:=by exact λb=>EY 1 b rfl p o.cpu)) λuM hbw=>(Jp 1∘eP∘Jj) (nH (λe=>?_) λe=>?_)
 ·
  exact (JT∘bE 2∘bW) λb=>by exact qv (y:=(⟨cp,cr,gA,gc,gs,lA,lc,cl,some ⟨j,0,none⟩,uc,cu,tA,tc,ts,sA,sc,rs⟩:aF)) 1 b rfl d (if_pos (decide_eq_false e))
 replace e:0<=o.cpu/\o.cpu<cp:=e
 obtain ⟨c,q⟩:∃n:Nat,o.cpu=(n:Int):=⟨o.cpu.toNat,by omega⟩
 have rW:((c:Nat):Int)<cp:=by omega
 obtain ⟨id,m⟩:∃z,cu.getD c 0=z:=⟨_,rfl⟩
 have U:aX id:=by rw [<-m];exact S _ (qf 0 (by show c<abo cu;omega))
 intro a Z b
 unfold aX at U
 refine Jb Z b ((aQ) λa Z b=>?_)
 refine wp_seq ?_
 refine Jb Z b ((Vs .n []) λwd3=>(Vp [0]∘Vf 5 1∘Vn 1∘Vf 2 0∘Vf 3 4∘Vc 4 O1∘Vc 6 O0∘Vo (vI c) (by rw [q])∘Vy 7 (h:=by exact Yl.iO j c 1 rfl rfl rfl)∘Vy 8 (v:=vI (cu.getD c 0)) (h:=by exact aae 4 c 0 om rfl rfl rfl)∘Vo (vI id) (by rw [m])∘Vp [9]∘Vd∘aJ∘bN 2∘aL∘Jj) (Je (λV=>?_) λV=>?_))
 ·
  exact (JT∘bE 2∘bW) λb=>by exact qv (y:=(⟨cp,cr,gA,gc,gs,lA,lc,cl,some ⟨j,0,none⟩,uc,cu,tA,tc,ts,sA,sc,rs⟩:aF)) 1 b rfl d ((if_neg (nf (decide_eq_true e))).trans (if_pos (by show cu.getD o.cpu.toNat 0=0;rw [q,abH,m];omega)))
 have r:id≠0:=by omega
 have H:=qtl (x:=(⟨cp,cr,gA,gc,gs,lA,lc,cl,some ⟨j,0,none⟩,uc,cu,tA,tc,ts,sA,sc,rs⟩:aF)) (M c (by show c<abo cu;omega)) (by show cu.getD c 0≠0;rw [m];exact r)
 rw [show (aF.cu (⟨cp,cr,gA,gc,gs,lA,lc,cl,some ⟨j,0,none⟩,uc,cu,tA,tc,ts,sA,sc,rs⟩:aF)).getD c 0=id from m] at H
 obtain ⟨k,t,X,ht,Y,zI⟩:=H
 replace X:fidx ts id=(k:Int):=X;replace ht:ts[k]?=some t:=ht;replace Y:k<abo ts:=Y
 repeat (first|clear Z|clear b)
 intro a Z b
 obtain ⟨u,rfl⟩:=b.rat 5 k (hk:=(by omega:k<D))
 refine Jb Z b ((aQ∘aM 2∘JI (h:=by exact λb=>qyy 1 b rfl p id k X)) λNK hbw=>(Jp 1∘eP∘Jj) λa Z b=>?_)
 refine wp_seq ?_
 refine Jb Z b ((Vs (.t (.t (.t (.t (.f .n))))) [17]) λYa=>(Vp [0]∘Vf 5 1∘Vp [7,12]∘Vn 1∘Vf 2 0∘Vf 3 4∘Vc 4 O1∘Vc 6 O0∘Vo (vI c) (by rw [q])∘Vn 8∘Vf 9 0∘Vf 10 5∘Vc 11 O1∘Vy 13 (h:=by exact Yl.iO j c 1 rfl rfl rfl)) λa Z b HS=>?_)
 refine s_on Z 14 rfl ?_
 refine zj Z b (i:=4) rfl rfl rfl rfl kr rfl rfl (by rw [abw];omega) λabO b=>?_
 replace b:=b.dG (i:=4) (ys:=(cu.set c 0).map aZ) rfl (Mf aZ cu c 0 om)
 refine av (b.pt 7 [0,1,2,3,5,6]) (λHS=>?_)
 refine Vb Z b HS ((Vu 15 (h:=by exact λ_=>Yl.iO u k 8 rfl rfl rfl)∘Vf 16 5) λa Z b HS=>?_)
 refine s_on Z 17 rfl ?_
 refine zj Z b (i:=5) rfl rfl rfl rfl kr rfl rfl (by rw [rJ bX 8 qm];omega) λabP b=>?_
 replace b:=b.dG (i:=5) (ys:=(ts.set k {t with ready:=false}).flatMap bX) rfl (vo bX 8 qm ts k t {t with ready:=false} ht 5 de _ rfl)
 refine dU kr ?_
 refine qe kr ?_
 refine Jb Z b ((JQ∘JP∘Jg 0 O0∘Jp 1∘aJ∘Jj) (Je (λvL=>?_) λvL=>?_))
 ·
  exact (JT∘JR∘Jp 2∘Jn∘Jf 0∘Jg 5 O1∘Jp 2∘dA 1∘JO (h:=by exact λb=>q72 rC b (by rw [abK];exact B) om om)) λw55=>(Jn∘Jf 0∘Jf 5∘JW gu rC) λabQ=>(iZ∘bg 3∘aP∘bW) λb=>by exact qv (y:=(⟨cp,cr,gA,gc,gs,lA,lc,cl,some ⟨j,0,none⟩,uc,(cu.set c 0),some ⟨u,0,none⟩,tc,((ts.set k {t with ready:=false}).eraseIdx k),sA,sc,rs⟩:aF)) 1 b rfl ⟨d.g,d.l,by show abo (cu.set _ _)=I;rw [abK];exact A,by show abo ((ts.set k _).eraseIdx k)=D-1;rw [aeX,abK,if_pos om];omega,d.s⟩ (zdt (x:=(⟨cp,cr,gA,gc,gs,lA,lc,cl,some ⟨j,0,none⟩,uc,cu,some ⟨u,0,none⟩,tc,ts,sA,sc,rs⟩:aF)) (decide_eq_true e) q m r X ht om)
 exact (aQ∘bE 3∘bW) λb=>by exact qv (y:=(⟨cp,cr,gA,gc,gs,lA,lc,cl,some ⟨j,0,none⟩,uc,(cu.set c 0),some ⟨u,0,none⟩,tc,(ts.set k {t with ready:=false}),sA,sc,rs⟩:aF)) 1 b rfl ⟨d.g,d.l,by show abo (cu.set _ _)=I;rw [abK];exact A,by show abo (ts.set k _)=D;rw [abK];exact B,d.s⟩ (q16 (x:=(⟨cp,cr,gA,gc,gs,lA,lc,cl,some ⟨j,0,none⟩,uc,cu,some ⟨u,0,none⟩,tc,ts,sA,sc,rs⟩:aF)) (decide_eq_true e) q m r X ht om)
def qwh (W w:aiM) (x:aF) (H:Nat) (M N O E J:Nat) (R:dY x M N O E J) (o:bP) (ho:o.Ok) (T:List aiX) (b:Mem W w (jM H x M N O E J++T)):
    Calls abp 148 #[vP H 0,.agg o.cells] w (kK W H T (yY x.ay o)):=by
 obtain ⟨cp,cr,gA,gc,gs,lA,lc,cl,uA,uc,cu,tA,tc,ts,sA,sc,rs⟩:=x
 replace b:Mem W w (fM H cp cr gA M gc lA N lc uA O uc tA E tc sA J sc::aiy gA M gc gs lA N lc cl uA O uc cu tA E tc ts sA J sc rs (fR rs++(T))):=b
 obtain ⟨mP,hll,nT,hlt,hls⟩:=R.ln
 replace mP:abo gs=M:=mP;replace hll:abo cl=N:=hll;replace nT:abo cu=O:=nT;replace hlt:abo ts=E:=hlt;replace hls:abo rs=J:=hls
 have u:=R.ln
 have hsp:fH gs cp rs:=R.spots
 have hrg:abo rs=abo gs:=R.sh.rs
 have hcr:cr<18446744073709551616:=R.ok.aj
 obtain ⟨hcp1,S,_,V⟩:=mM R.sh.cfg
 replace hcp1:1<=cp:=hcp1;replace S:cp<=64:=S;replace V:dO gs=true:=V
 have nU:=(qt V).1;have nV:=(qt V).2.1
 have qO:(abo cl:Int)=cp:=R.sh.cl;have oZ:(abo cu:Int)=cp:=R.sh.cu
 have nW:abo ts<=1000000:=R.few.t
 have hoc:=ho.cpu;have hot:=ho.task;have hog:=ho.group;have how:=ho.weight;have o7:=ho.to;have o8:=ho.ticks;have zH:=ho.mask;have qP:=ho.kind;unfold aX at hoc hot hog how o7 o8
 obtain ⟨cn,X⟩:∃n:Nat,cp=(n:Int):=⟨cp.toNat,by omega⟩
 obtain ⟨d,rfl⟩:=zx (b.own (i:=5) rfl) om
 refine (mq b Tryz.func148 139) ?_
 refine (JP∘JE) λw3 g3=>(Jp 2∘bg 1∘Jn∘Jf 0∘Jp 1∘eP∘Jj∘JQ∘JB∘aM 1∘Jg 1 O0∘JI (h:=by exact λb=>EY 1 b rfl R o.cpu)) λNU I=>(Jp 2∘fJ∘Jj) (nH (λk=>?_) λk=>?_)
 ·
  exact (JT∘bE 2∘bW) λb=>by exact qv (y:=(⟨cp,cr,gA,gc,gs,lA,lc,cl,uA,uc,cu,tA,tc,ts,some ⟨d,0,none⟩,sc,rs⟩:aF)) 1 b rfl u (if_pos (decide_eq_false k))
 replace k:0<=o.cpu/\o.cpu<cp:=k
 obtain ⟨c,F⟩:∃n:Nat,o.cpu=(n:Int):=⟨o.cpu.toNat,by omega⟩
 have rW:((c:Nat):Int)<cp:=by omega
 refine (JF∘JP∘Jg 2 O0∘JI (h:=by exact λb=>Ny o.task _)) λw24 I=>(Jp 2∘eP∘Jj) (nH (λB=>?_) λB=>?_)
 ·
  exact (JT∘bE 2∘bW) λb=>by exact qv (y:=(⟨cp,cr,gA,gc,gs,lA,lc,cl,uA,uc,cu,tA,tc,ts,some ⟨d,0,none⟩,sc,rs⟩:aF)) 1 b rfl u ((if_neg (nf (decide_eq_true k))).trans (if_pos (decide_eq_false B)))
 refine (JF) λa Z b=>?_
 refine qy (λaS wS=>Fr aS 139 [] ((26,.bool (!(decide (0<=o.group/\o.group<abo rs))))::(21,.bool false)::(15,.bool false)::(6,vP H 0)::aic g3 H [])/\Mem W wS (.blk g3 o.cells 214::fM H cp cr gA M gc lA N lc uA O uc tA E tc (some ⟨d,0,none⟩) J sc::aiy gA M gc gs lA N lc cl uA O uc cu tA E tc ts (some ⟨d,0,none⟩) J sc rs (fR rs++(T)))) ?_ ?_
 ·
  refine Jb Z b ((Vs .n []) λGV=>(Vf 0 3∘Vc 1 O0∘Vp [2,3]) λa Z b e=>?_)
  rcases Z.tf 30 rfl with ⟨Dx,Z⟩|⟨Dx,Z⟩
  ·
   have TA:=of_decide_eq_true Dx
   refine Vb Z b e ((Vq [4,5,6,7,8,9,10,11,12,13] [(26,.bool true)]∘Vd∘lq) λa Z b=>?_)
   have Z:=Z.sp 26 (.bool (!(decide (0<=o.group/\o.group<abo rs)))) rfl (congrArg abN (by rw [decide_eq_false om];rfl))
   exact ⟨Z.sub kr,b.pt 7 [0,1,2,3,4,5,6]⟩
  have TA:=of_decide_eq_false Dx
  refine ap Z (λ_=>e) [4,6] (bf 14 [0,1,2,3,4,6]) [(33,vP H 0),(31,vP g3 3)] λa Z=>?_
  refine dH Z e 5 0 (v:=vI o.group) λa Z=>?_
  refine oO Z e 7 λa Z=>?_
  refine ap Z (λ_=>e) [8] (bt 14 [9,10,11,12,13]) [(35,vP H 6)] λa Z=>?_
  refine dH Z e 9 1 λa Z=>?_
  refine p9 Z e 10 λa Z=>?_
  refine ap Z (λ_=>e) [11,12,13] (bt 14 []) [(26,.bool (decide ((o.group:Int)>=(J:Int))))] λa Z=>?_
  refine qe kr ?_
  have Z:=Z.sp 26 (.bool (!(decide (0<=o.group/\o.group<abo rs)))) rfl (congrArg abN (by rw [<-decide_not];exact decide_eq_decide.2 om))
  exact ⟨Z.sub kr,b.pt 7 [0,1,2,3,4,5,6]⟩
 clear Z b;rintro a w6 ⟨Z,b⟩
 refine Jb Z b (nH (λD=>?_) λD=>?_)
 ·
  exact (JT∘bE 2∘bW) λb=>by exact qv (y:=(⟨cp,cr,gA,gc,gs,lA,lc,cl,uA,uc,cu,tA,tc,ts,some ⟨d,0,none⟩,sc,rs⟩:aF)) 1 b rfl u ((if_neg (nf (decide_eq_true k))).trans ((if_neg (nf (decide_eq_true B))).trans (if_pos (by show ¬(0<=o.group/\o.group<(abo (rs.map aeb):Nat));rw [abw];exact D))))
 obtain ⟨g,hgg⟩:∃n:Nat,o.group=(n:Int):=⟨o.group.toNat,by omega⟩
 refine (JF) λa Z b=>?_
 refine qy (λaS wS=>Fr aS 139 [] ((40,.bool (!(decide (1<=o.weight/\o.weight<=65536/\o.mask≠0/\¬2^cn<=o.mask))))::(26,.bool false)::(21,.bool false)::(15,.bool false)::(6,vP H 0)::aic g3 H [])/\Mem W wS (.blk g3 o.cells 214::fM H cp cr gA M gc lA N lc uA O uc tA E tc (some ⟨d,0,none⟩) J sc::aiy gA M gc gs lA N lc cl uA O uc cu tA E tc ts (some ⟨d,0,none⟩) J sc rs (fR rs++(T)))) ?_ ?_
 ·
  refine Jb Z b ((Vs .n []) λNP=>(Vf 0 4∘Vc 1 O0) λa Z b e=>?_)
  refine s_on Z 2 rfl ?_
  refine lF Z [vI o.weight] rfl rfl (Nh o.weight _) ?_
  rintro _ w43 ⟨rfl,I⟩
  refine ⟨_,rfl,?_⟩
  replace b:=b.call I
  clear Z;intro a Z
  refine av (b.pt 7 [0,1,2,3,4,5,6]) (λe=>?_)
  refine Vb Z b e ((Vp [3,4]) λa Z b e=>?_)
  rcases Z.tf 45 rfl with ⟨Dy,Z⟩|⟨Dy,Z⟩
  ·
   have vL:=of_decide_eq_false ((Bool.not_eq_true' _).mp Dy)
   refine Vb Z b e ((Vq [5,6,7,8,9,10,11,12,13,14,15,16,17,18,19] [(40,.bool true)]∘Vd∘aJ) λa Z b=>?_)
   have Z:=Z.sp 40 (.bool (!(decide (1<=o.weight/\o.weight<=65536/\o.mask≠0/\¬2^cn<=o.mask)))) rfl (congrArg abN (by rw [decide_eq_false (λh=>by omega)];rfl))
   exact ⟨Z.sub kr,b.pt 7 [0,1,2,3,4,5,6]⟩
  have vL:=of_decide_eq_true ((Bool.not_eq_false' _).mp Dy)
  refine ap Z (λ_=>e) [5] (bf 20 [0,1,2,3,4,5]) [(46,vP g3 7)] λa Z=>?_
  refine dH Z e 6 0 (v:=vQ o.mask) λa Z=>?_
  refine ap Z (λ_=>e) [7,8,9] (bf 20 [0,1,2,3,4,5,6,7,8,9]) [(50,.bool ((o.mask:Int)==(0:Int)))] λa Z=>?_
  refine Jb Z b (Je (λTB=>?_) λTB=>?_)
  ·
   intro a Z b
   refine ap Z (λ_=>e) [10,11,12,13,14,15,16,17,18,19] (bt 20 []) [(40,.bool true)] λa Z=>?_
   refine qe kr ?_
   have Z:=Z.sp 40 (.bool (!(decide (1<=o.weight/\o.weight<=65536/\o.mask≠0/\¬2^cn<=o.mask)))) rfl (congrArg abN (by rw [decide_eq_false (λh=>by omega)];rfl))
   exact ⟨Z.sub kr,b.pt 7 [0,1,2,3,4,5,6]⟩
  intro a Z b
  refine ap Z (λ_=>e) [10,12] (bt 20 [11,13,14,15,16,17,18,19]) [(53,vP H 0),(51,vP g3 7)] λa Z=>?_
  refine dH Z e 11 0 (v:=vQ o.mask) λa Z=>?_
  refine oO Z e 13 λa Z=>?_
  refine ap Z (λ_=>e) [14,15] (bt 20 [16,17,18,19]) [(56,vP H 0)] λa Z=>?_
  refine dH Z e 16 1 λa Z=>?_
  replace Z:=Z.sp 57 (vI cn) rfl (by rw [X];try rfl)
  refine s_on Z 17 rfl (jq Z b [vQ o.mask,vI cn] (.bool (decide (2^cn<=o.mask))) rfl rfl (qyg o.mask cn zH ⟨by omega,by omega⟩ _) λGY I b a Z=>?_)
  refine av (b.pt 7 [0,1,2,3,4,5,6]) (λe=>?_)
  refine ap Z (λ_=>e) [18,19] (bt 20 []) [(40,.bool (decide (2^cn<=o.mask)))] λa Z=>?_
  refine qe kr ?_
  have Z:=Z.sp 40 (.bool (!(decide (1<=o.weight/\o.weight<=65536/\o.mask≠0/\¬2^cn<=o.mask)))) rfl (congrArg abN (by rw [<-decide_not];exact decide_eq_decide.2 ⟨λh1 h2=>h2.2.2.2 h1,λh1=>afv λh2=>h1 ⟨by omega,by omega,by omega,h2⟩⟩))
  exact ⟨Z.sub kr,b.pt 7 [0,1,2,3,4,5,6]⟩
 clear Z b;rintro a w8 ⟨Z,b⟩
 refine Jb Z b (nH (λG=>?_) λG=>?_)
 ·
  exact (JT∘bE 2∘bW) λb=>by exact qv (y:=(⟨cp,cr,gA,gc,gs,lA,lc,cl,uA,uc,cu,tA,tc,ts,some ⟨d,0,none⟩,sc,rs⟩:aF)) 1 b rfl u ((if_neg (nf (decide_eq_true k))).trans ((if_neg (nf (decide_eq_true B))).trans ((if_neg (by show ¬¬(0<=o.group/\o.group<(abo (rs.map aeb):Nat));rw [abw];exact not_not_intro D)).trans (if_pos (zea X G)))))
 obtain ⟨z,yC⟩:∃n:Nat,o.weight=(n:Int):=⟨o.weight.toNat,by omega⟩
 have hz:1<=z/\z<=65536:=by omega
 have hmb:=afa o.mask (2^c)
 refine (JF∘aM 1∘Jg 2 O0∘JI (h:=by exact λb=>IE 1 b rfl R o.task)) λw64 I=>(Jp 2∘fJ∘Jj) (Ji (λK=>?_) λK=>?_)
 ·
  replace K:fidx ts o.task>=0:=K
  exact (JT∘bE 2∘bW) λb=>by exact qv (y:=(⟨cp,cr,gA,gc,gs,lA,lc,cl,uA,uc,cu,tA,tc,ts,some ⟨d,0,none⟩,sc,rs⟩:aF)) 1 b rfl u ((if_neg (nf (decide_eq_true k))).trans ((if_neg (nf (decide_eq_true B))).trans ((if_neg (by show ¬¬(0<=o.group/\o.group<(abo (rs.map aeb):Nat));rw [abw];exact not_not_intro D)).trans ((if_neg (NW X G)).trans (if_pos (by show 0<=fidx ts o.task;omega))))))
 replace K:¬(fidx ts o.task>=0):=K
 refine (JF∘JP∘Jg 7 O0∘Jf 1∘Jc O0∘Jo (vI c) (by rw [F])∘Jy (v:=vQ (o.mask/2^c:Nat)) (h:=by exact aat (m:=o.mask) (n:=c) rfl rfl rfl (by show _<=64;omega))∘Jp 1∘Jo (vQ ((o.mask/2^c)%2:Nat)) (by exact Mh (n:=1) (j:=1) rfl de om)∘Jp 2∘aJ∘Jj) (Je (λTD=>?_) λTD=>?_)
 ·
  exact (JT∘bE 2∘bW) λb=>by exact qv (y:=(⟨cp,cr,gA,gc,gs,lA,lc,cl,uA,uc,cu,tA,tc,ts,some ⟨d,0,none⟩,sc,rs⟩:aF)) 1 b rfl u ((if_neg (nf (decide_eq_true k))).trans ((if_neg (nf (decide_eq_true B))).trans ((if_neg (by show ¬¬(0<=o.group/\o.group<(abo (rs.map aeb):Nat));rw [abw];exact not_not_intro D)).trans ((if_neg (NW X G)).trans ((if_neg (by show ¬0<=fidx ts o.task;omega)).trans (if_pos (zg4 rfl F om)))))))
 obtain ⟨em,hem⟩:∃l,lC (⟨cp,cr,gA,gc,gs,lA,lc,cl,uA,uc,cu,tA,tc,ts,some ⟨d,0,none⟩,sc,rs⟩:aF).ay g c=l:=⟨_,rfl⟩
 have uy:=λh hh=>SH (x:=(⟨cp,cr,gA,gc,gs,lA,lc,cl,uA,uc,cu,tA,tc,ts,some ⟨d,0,none⟩,sc,rs⟩:aF)) R (by omega:g<J) hem h hh
 have uz:=SK (x:=(⟨cp,cr,gA,gc,gs,lA,lc,cl,uA,uc,cu,tA,tc,ts,some ⟨d,0,none⟩,sc,rs⟩:aF)) R (by omega:g<J) hem
 obtain ⟨⟨yA,yc,yl⟩,hy⟩:∃y,rs.getD g Rw.zero=y:=⟨_,rfl⟩
 have hys:=hsp g om;rw [hy] at hys
 have hyl:(abo yl:Int)=cp:=hys.1
 repeat (first|clear Z|clear b)
 intro a Z b
 obtain ⟨gy,rfl⟩:=b.jQ 7 rfl om hy om
 obtain ⟨Y,hyz⟩:∃z,yl[c]?=some z:=⟨_,abr om⟩
 have nK:=hys.2 Y (abJ hyz)
 have hyv:=nK.1.v;have sN:=nK.1.r;have sS:=nK.1.floor
 obtain ⟨C,ht1⟩:∃t,(⟨o.task,o.group,0,o.cpu,o.mask,true,0,0⟩:Tk).put (⟨Y.floor,0,z⟩:En)=t:=⟨_,rfl⟩
 have Jm:C.id=o.task:=by rw [<-ht1];rfl
 refine Jb Z b ((aQ∘aM 1∘Jf 3∘Jc O0∘Jo (vI g) (by rw [hgg])∘Jf 1∘Jc O0∘Jo (vI c) (by rw [F])∘JK (h:=by exact λb=>SG 1 b rfl R (by show ((c:Nat):Int)<cp;omega) om hem)) λJt Jz w79 TF=>(Jp 1∘aJ∘Jr∘Jg 2 O1∘Jg 3 O1∘Jg 1 O1∘Jg 7 O1∘fD #[vI o.task,vI o.group,vI 0,vI o.cpu,vQ o.mask,.bool true,vQ 0,vW 0]∘JA aiG) λw8 g8=>(JV fF aO) λTG=>(lq∘Jj) λa Z b=>?_)
 refine qy (λaS wS=>∃(g9:Nat),Fr aS 139 [] ((9,vP g9 0)::(8,vP g8 0)::(7,abl Jt em Jz)::(66,.bool false)::(60,.bool false)::(40,.bool false)::(26,.bool false)::(21,.bool false)::(15,.bool false)::(6,vP H 0)::aic g3 H [])/\Mem W wS (.blk g9 ((⟨Y.floor,0,z⟩:En).cells) 333::.blk g8 #[vI o.task,vI o.group,vI 0,vI o.cpu,vQ o.mask,.bool true,vQ 0,vW 0] 232::abm Jt em Jz bL 3 1::.blk g3 o.cells 214::fM H cp cr gA M gc lA N lc uA O uc tA E tc (some ⟨d,0,none⟩) J sc::aiy gA M gc gs lA N lc cl uA O uc cu tA E tc ts (some ⟨d,0,none⟩) J sc rs (fR rs++(T)))) ?_ ?_
 ·
  refine Jb Z b ((Vs .n [20]) λDc=>(Vp [0]∘Vf 4 3∘Vf 8 1∘Vf 13 4∘Vn 1∘Vf 2 6∘Vc 3 O3∘Vc 5 O2∘Vo (vI g) (by rw [hgg])∘Vy 6 (h:=by exact Yl.iO d g 1 rfl rfl rfl)∘Vy 7 (v:= .slice ((rs.getD g Rw.zero).A) ((rs.getD g Rw.zero).l.length) ((rs.getD g Rw.zero).c)) (h:=by exact aae 8 g Rw.zero om rfl rfl rfl)∘Vo (vS gy (abo yl) yc) (by rw [hy])∘Vc 9 O2∘Vo (vI c) (by rw [F])∘Vy 10 (h:=by exact Yl.iO gy c 3 rfl rfl rfl)∘Vf 11 2∘Vy 12 (v:=vQ Y.floor) (h:=by exact Pd rfl rfl kr (λ_ h=>h.uS 9 (j:=2) rfl om hy (hyz) rfl))∘Vc 14 O2∘Vo (vI z) (by rw [yC])) λa Z b e=>?_)
  refine zf [15,19] kr rfl ?_
  refine all_cons ?_ ?_
  ·refine qu Z (i:=15) rfl rfl ?_
   refine jq Z b [vQ Y.floor,vI z] (.tuple #[.agg ((⟨Y.floor,0,z⟩:En).cells),vI 0]) rfl rfl (qyq Y.floor z sS hz _) λJN I b a Z=>?_
   refine av (b.pt 9 [0,1,2,3,4,5,6,7,8]) (λe=>?_)
   refine Vb Z b e ((Vp [16]∘Vx 17∘Vx 18∘VA 19 .n #[vQ 0,vW 0,vW 0]) λw9 g9=>λa Z b e=>?_)
   refine s_on Z 20 rfl (bS Z b 0 rfl rfl rfl rfl rfl qp rfl rfl (mD (⟨Y.floor,0,z⟩:En)) λDz b=>?_)
   refine dU kr ?_
   refine ap Z (bZ kr) [21] (bt 22 []) [] λa Z=>?_
   refine qe kr ?_
   exact ⟨g9,Z.sub kr,b.pt 10 [0,1,2,3,4,5,6,7,8,9]⟩
  refine all_cons ?_ all_nil
  refine qu Z (i:=19) rfl rfl ?_
  refine gX Z b #[vQ 0,vW 0,vW 0] ?_
  clear Z b;intro a w9 g9 Z b
  refine av (b.pt 10 [1,2,3,4,5,6,7,8,9]) (λe=>?_)
  refine Vb Z b e ((VI 15 (.f .n) (h:=by exact λb=>qyq Y.floor z sS hz _)) λJN I=>(Vp [16]∘Vx 17∘Vx 18) λa Z b e=>?_)
  refine s_on Z 20 rfl (bS Z b 0 rfl rfl rfl rfl rfl qp rfl rfl (mD (⟨Y.floor,0,z⟩:En)) λDz b=>?_)
  refine dU kr ?_
  refine ap Z (bZ kr) [21] (bt 22 []) [] λa Z=>?_
  refine qe kr ?_
  exact ⟨g9,Z.sub kr,b.pt 10 [0,1,2,3,4,5,6,7,8,9]⟩
 clear Z b;rintro a w16 ⟨g9,Z,b⟩
 refine Jb Z b ((JP∘eH qp O0∘JO (h:=by exact λb=>zkf (⟨o.task,o.group,0,o.cpu,o.mask,true,0,0⟩:Tk) C (⟨Y.floor,0,z⟩:En) ht1 gu b (Sk sS hz))) λTH=>(nE∘bg 1∘Jn∘Jg 5 O4∘Jy (h:=by exact Yl.makeFunc (fst:=[]) (caps:=[vP g8 0]) rfl rfl rfl)∘JL (h:=by exact λb=>q73 hlt (b.rd (i:=8) rfl) nW (b.blk (i:=1) rfl))) ?_)
 rintro b _ TI ⟨⟨ii,rfl,U,hi1,hi2⟩,I⟩
 refine ⟨_,rfl,_,b.call I,?_⟩
 refine (Jp 1∘lq∘Jj∘bN 2∘aL∘Jj) (Ji (λJY=>?_) λJY=>?_)
 ·
  obtain ⟨ix,hix⟩:∃n,wG ts C.id=n:=⟨_,rfl⟩
  have DC:=qtb ts C.id
  rw [hix] at U DC
  rw [if_pos om] at U
  refine (JT∘JR∘Jp 1∘Jn∘Jg 5 O4∘Jl∘Jo (vI ix) (by rw [show E=ix by omega])∘Jp 1∘fJ∘Jj) λa Z b=>?_
  refine wp_seq ?_
  refine Jb Z b ((Vs (.t (.t (.t (.t (.t (.t (.t (.t (.f .n))))))))) [11]) λTJ=>(Vp [0,1,5]∘Vn 2∘Vf 3 5∘Vc 4 O4∘mK 6 fF O1) λa Z b e=>?_)
  refine s_on Z 7 rfl (jA Z b dK [(0,.agg C.cells)] C.cells ?_)
  clear Z b;intro a TK L Z b
  refine av (b.pt 11 [1,2,3,4,5,6,7,8,10]) (λe=>?_)
  refine s_on Z 8 rfl ?_
  refine lF Z [.slice tA E tc,vI ix,vS L 1 1] rfl rfl (qtp (i:=ix) (l:=ts) C 9 (λ_ _=>Qd) O0 b hlt om om) ?_
  rintro _ TL ⟨p,q,rfl,J2,P⟩
  refine ⟨_,rfl,?_⟩
  replace b:=P
  clear Z;intro a Z
  refine av (b.pt 11 [1,2,3,4,5,6,7,8,10]) (λe=>?_)
  refine Vb Z b e ((Vn 9∘Vf 10 5) λa Z b e=>?_)
  refine s_on Z 11 rfl (eO Z b 5 λDF b=>?_)
  refine dU kr ?_
  refine qe kr ?_
  refine Jb Z b ((aM 2∘Jf 1∘Jc O4∘Jo (vI c) (by rw [F])∘JL (h:=by exact λb=>NR 5 b rfl (j:=3) rfl de (NV (Jd:=p) (I9:=q) (ts':=ji ts ix C) (zC:=E+1) u (by rw [NC om];omega)) (uy) (uz) V hrg hsp hcr S (by show ((c:Nat):Int)<cp;omega))) ?_)
  rintro b _ DI ⟨Q,rfl,hl2,hsp2,nX,P⟩
  refine ⟨_,rfl,_,(show Mem W DI (.blk L C.cells 232::.blk g9 ((⟨Y.floor,0,z⟩:En).cells) 333::.blk g8 C.cells 232::abm Jt em Jz bL 3 1::.blk g3 o.cells 214::fM H cp cr gA M gc lA N lc uA O uc p (E+1) q (some ⟨d,0,none⟩) J sc::aiy gA M gc gs lA N lc cl uA O uc cu p (E+1) q (ji ts ix C) (some ⟨d,0,none⟩) J sc Q (fR Q++(T))) from P),?_⟩
  exact (iZ∘bg 2∘aP∘bW) λb=>by exact qv (y:=(⟨cp,cr,gA,gc,gs,lA,lc,cl,uA,uc,cu,p,q,(ji ts ix C),some ⟨d,0,none⟩,sc,Q⟩:aF)) 5 b rfl (Nz (NV (Jd:=p) (I9:=q) (ts':=ji ts ix C) (zC:=E+1) u (by rw [NC om];omega)) hl2) ((qte (x:=(⟨cp,cr,gA,gc,gs,lA,lc,cl,uA,uc,cu,tA,tc,ts,some ⟨d,0,none⟩,sc,rs⟩:aF)) (t1:=C) (decide_eq_true k) (decide_eq_true B) D (NW X G) (by show fidx ts o.task<0;omega) (Tc F om) hgg F (congrArg Sp.floor (yu (x:=(⟨cp,cr,gA,gc,gs,lA,lc,cl,uA,uc,cu,tA,tc,ts,some ⟨d,0,none⟩,sc,rs⟩:aF)) (by show g<abo rs;omega) hy hyz)) (by rw [<-ht1,yC];rfl) hem).trans (by rw [show wG ts o.task=ix by rw [<-Jm];exact hix];exact congrArg (λs=>(s,(0:Int),0)) nX.symm))
 obtain ⟨ix,hix⟩:∃n,wG ts C.id=n:=⟨_,rfl⟩
 have DC:=qtb ts C.id
 rw [hix] at U DC
 rw [if_neg om] at U
 refine (Jk 11 (vI ix) (h:=by rw [show ii=(ix:Int) by omega])∘aQ) λa Z b=>?_
 refine wp_seq ?_
 refine Jb Z b ((Vs (.t (.t (.t (.t (.t (.t (.t (.t (.f .n))))))))) [11]) λTJ=>(Vp [0,1,5]∘Vn 2∘Vf 3 5∘Vc 4 O4∘mK 6 fF O1) λa Z b e=>?_)
 refine s_on Z 7 rfl (jA Z b dK [(0,.agg C.cells)] C.cells ?_)
 clear Z b;intro a TK L Z b
 refine av (b.pt 11 [1,2,3,4,5,6,7,8,10]) (λe=>?_)
 refine s_on Z 8 rfl ?_
 refine lF Z [.slice tA E tc,vI ix,vS L 1 1] rfl rfl (qtp (i:=ix) (l:=ts) C 9 (λ_ _=>Qd) O0 b hlt om om) ?_
 rintro _ TL ⟨p,q,rfl,J2,P⟩
 refine ⟨_,rfl,?_⟩
 replace b:=P
 clear Z;intro a Z
 refine av (b.pt 11 [1,2,3,4,5,6,7,8,10]) (λe=>?_)
 refine Vb Z b e ((Vn 9∘Vf 10 5) λa Z b e=>?_)
 refine s_on Z 11 rfl (eO Z b 5 λDF b=>?_)
 refine dU kr ?_
 refine qe kr ?_
 refine Jb Z b ((aM 2∘Jf 1∘Jc O4∘Jo (vI c) (by rw [F])∘JL (h:=by exact λb=>NR 5 b rfl (j:=3) rfl de (NV (Jd:=p) (I9:=q) (ts':=ji ts ix C) (zC:=E+1) u (by rw [NC om];omega)) (uy) (uz) V hrg hsp hcr S (by show ((c:Nat):Int)<cp;omega))) ?_)
 rintro b _ DI ⟨Q,rfl,hl2,hsp2,nX,P⟩
 refine ⟨_,rfl,_,(show Mem W DI (.blk L C.cells 232::.blk g9 ((⟨Y.floor,0,z⟩:En).cells) 333::.blk g8 C.cells 232::abm Jt em Jz bL 3 1::.blk g3 o.cells 214::fM H cp cr gA M gc lA N lc uA O uc p (E+1) q (some ⟨d,0,none⟩) J sc::aiy gA M gc gs lA N lc cl uA O uc cu p (E+1) q (ji ts ix C) (some ⟨d,0,none⟩) J sc Q (fR Q++(T))) from P),?_⟩
 exact (iZ∘bg 2∘aP∘bW) λb=>by exact qv (y:=(⟨cp,cr,gA,gc,gs,lA,lc,cl,uA,uc,cu,p,q,(ji ts ix C),some ⟨d,0,none⟩,sc,Q⟩:aF)) 5 b rfl (Nz (NV (Jd:=p) (I9:=q) (ts':=ji ts ix C) (zC:=E+1) u (by rw [NC om];omega)) hl2) ((qte (x:=(⟨cp,cr,gA,gc,gs,lA,lc,cl,uA,uc,cu,tA,tc,ts,some ⟨d,0,none⟩,sc,rs⟩:aF)) (t1:=C) (decide_eq_true k) (decide_eq_true B) D (NW X G) (by show fidx ts o.task<0;omega) (Tc F om) hgg F (congrArg Sp.floor (yu (x:=(⟨cp,cr,gA,gc,gs,lA,lc,cl,uA,uc,cu,tA,tc,ts,some ⟨d,0,none⟩,sc,rs⟩:aF)) (by show g<abo rs;omega) hy hyz)) (by rw [<-ht1,yC];rfl) hem).trans (by rw [show wG ts o.task=ix by rw [<-Jm];exact hix];exact congrArg (λs=>(s,(0:Int),0)) nX.symm))
def J3:EI abp 277 215 .nilFunc 1 8:=⟨by kernel_rfl,by kernel_rfl,rfl,by omega⟩
def qQ (k:Nat):FuncId:=[148,149,150,150,151,152,153,154,155,156].getD k 0
def fewer (h:k<10):k=0\/k=1\/k=2\/k=3\/k=4\/k=5\/k=6\/k=7\/k=8\/k=9:=by omega
def q2m (h:k<10):callable abp (qQ k)=true:=by
 rcases fewer h with rfl|rfl|rfl|rfl|rfl|rfl|rfl|rfl|rfl|rfl<;>kernel_rfl
def zkg (gm:Nat) {k:Nat} (h:k<10):(#[.func (.func 148) #[vP gm 0] #[],.func (.func 149) #[vP gm 0] #[],.func (.func 150) #[vP gm 0] #[],.func (.func 150) #[vP gm 0] #[],.func (.func 151) #[vP gm 0] #[],.func (.func 152) #[vP gm 0] #[],.func (.func 153) #[vP gm 0] #[],.func (.func 154) #[vP gm 0] #[],.func (.func 155) #[vP gm 0] #[],.func (.func 156) #[vP gm 0] #[]]:Array aiN)[k]?=some (.func (.func (qQ k)) #[vP gm 0] #[]):=by
 rcases fewer h with rfl|rfl|rfl|rfl|rfl|rfl|rfl|rfl|rfl|rfl<;>rfl
section
variable {W w:aiM} {F T:List aiX} {x y:aF} {ng nl nu nt ns gm:Nat} {o:bP}
def q2n (n:Nat) (f:Mem W w F) (g:F.drop n=jM gm x ng nl nu nt ns++T) (c:dY x ng nl nu nt ns) (e:GoodS x.ay) (d:o.Ok) (h:k<10) (hk:o.kind=k+1):Calls abp (qQ k) #[vP gm 0,.agg o.cells] w (kK W gm (F.take n++T) (dL x.ay o)):=by
 have a:=f.front n g
 have b:=(NG e.sh.sort).2 e.cur
 unfold dL
 rcases fewer h with rfl|rfl|rfl|rfl|rfl|rfl|rfl|rfl|rfl|rfl<;>rw [hk]
 ·exact qwh W w x gm ng nl nu nt ns c o d _ a
 ·exact qwe W w x gm ng nl nu nt ns c o d _ a
 ·exact qmt W w x gm ng nl nu nt ns c o d _ a b
 ·exact qmt W w x gm ng nl nu nt ns c o d _ a b
 ·exact q2g W w x gm ng nl nu nt ns c o d _ a b
 ·exact q2f W w x gm ng nl nu nt ns c o d _ a
 ·exact qnk W w x gm ng nl nu nt ns c o d _ a
 ·exact qqe W w x gm ng nl nu nt ns c o d _ a
 ·exact qqg W w x gm ng nl nu nt ns c o d _ a
 ·exact qqh W w x gm ng nl nu nt ns c o d _ a
def zn0 (c:Mem W w (mX gm y++T)) (hy:GoodS y.ay):Calls abp 157 #[vP gm 0] w (λr b=>∃z:aF,r= .returned (.tuple #[])/\z.ay=gF y.ay/\Mem W b (mX gm z++T)):=
 (q2e W w y gm _ _ _ _ _ (NH hy.sh) T c).mono λr b ⟨a,e,d,_,hs,hm⟩=>⟨{y with rs:=a},e,hs,Mem.toB hm ⟨rfl,rfl,rfl,rfl,d⟩⟩
def wM (s:bH) (out:iT):Prop:=out.2.2≠0->out.1=s/\out.2.1=0
def q2o (s:bH) (o:bP):wM s (dL s o):=by
 have key:∀e:Nat,wM s (s,0,e):=λe _=>⟨rfl,rfl⟩
 have a:∀(t:bH) (g:Int),wM s (t,g,0):=λt g h=>absurd rfl h
 unfold dL
 split
 ·unfold yY;repeat' split
  all_goals first|exact key _|exact a _ _
 ·unfold yZ;repeat' split
  all_goals first|exact key _|exact a _ _
 ·unfold sK;repeat' split
  all_goals first|exact key _|exact a _ _
 ·unfold sK;repeat' split
  all_goals first|exact key _|exact a _ _
 ·unfold jO;repeat' split
  all_goals first|exact key _|exact a _ _|(dsimp only;split<;>exact a _ _)
 ·unfold kS;repeat' split
  all_goals first|exact key _|exact a _ _
 ·unfold y5;repeat' split
  all_goals first|exact key _|exact a _ _
 ·unfold y7;repeat' split
  all_goals first|exact key _|exact a _ _
 ·unfold y8;repeat' split
  all_goals first|exact key _|exact a _ _
 ·unfold wu;repeat' split
  all_goals first|exact key _|exact a _ _
 ·exact key _
def q74 (h:(dL s o).2.2≠0):(dL s o).1=s/\(dL s o).2.1=0:=q2o s o h
def q75 {s:bH} (h:o.kind<1\/10<o.kind):sM s o=(s,0,2):=by
 have e:dL s o=(s,0,2):=by
  unfold dL
  split<;>first|rfl|omega
 unfold sM
 rw [e]
 rfl
theorem TM (h:(dL s o).2.2≠0):sM s o=(s,0,(dL s o).2.2):=by unfold sM;rw [if_pos h]
theorem TN (h:(dL s o).2.2=0):sM s o=(gF (dL s o).1,(dL s o).2.1,0):=by unfold sM;rw [if_neg om]
end
abbrev aif:=λa b=>(.blk a #[.func (.func 148) #[vP b 0] #[],.func (.func 149) #[vP b 0] #[],.func (.func 150) #[vP b 0] #[],.func (.func 150) #[vP b 0] #[],.func (.func 151) #[vP b 0] #[],.func (.func 152) #[vP b 0] #[],.func (.func 153) #[vP b 0] #[],.func (.func 154) #[vP b 0] #[],.func (.func 155) #[vP b 0] #[],.func (.func 156) #[vP b 0] #[]] 215:aiX)
def zeb (W w:aiM) (x:aF) (gm:Nat) (ng nl nu nt ns:Nat) (B:dY x ng nl nu nt ns) (J:GoodS x.ay) (o:bP) (C:o.Ok) (T:List aiX) (b:Mem W w (jM gm x ng nl nu nt ns++T)):
    Calls abp 102 #[vP gm 0,.agg o.cells] w (kK W gm T (sM x.ay o)):=by
 obtain ⟨cp,cr,gA,gc,gs,lA,lc,cl,uA,uc,cu,tA,tc,ts,sA,sc,rs⟩:=x
 replace b:Mem W w (fM gm cp cr gA ng gc lA nl lc uA nu uc tA nt tc sA ns sc::aiy gA ng gc gs lA nl lc cl uA nu uc cu tA nt tc ts sA ns sc rs (fR rs++(T))):=b
 obtain ⟨n,p,q,r,s⟩:=B.ln
 replace n:abo gs=ng:=n;replace p:abo cl=nl:=p;replace q:abo cu=nu:=q;replace r:abo ts=nt:=r;replace s:abo rs=ns:=s
 have K:=C.kind
 refine (mq b Tryz.func102 67) ?_
 refine (JP∘JE) λN D=>(bM 2∘bN 1∘Jy (v:= .bool false) (h:=by exact aaD rfl rfl rfl)∘Jp 2∘Jn∘Jg 7 O1∘Jp 2∘aJ∘Jj∘aQ∘aM 1∘Jy (h:=by exact Yl.makeFunc (fst:=[vP gm 0]) (caps:=[]) rfl rfl rfl)∘Jp 1∘Jy (h:=by exact Yl.makeFunc (fst:=[vP gm 0]) (caps:=[]) rfl rfl rfl)∘Jp 1∘Jy (h:=by exact Yl.makeFunc (fst:=[vP gm 0]) (caps:=[]) rfl rfl rfl)∘Jp 1∘Jy (h:=by exact Yl.makeFunc (fst:=[vP gm 0]) (caps:=[]) rfl rfl rfl)∘Jp 1∘Jy (h:=by exact Yl.makeFunc (fst:=[vP gm 0]) (caps:=[]) rfl rfl rfl)∘Jp 1∘Jy (h:=by exact Yl.makeFunc (fst:=[vP gm 0]) (caps:=[]) rfl rfl rfl)∘Jp 1∘Jy (h:=by exact Yl.makeFunc (fst:=[vP gm 0]) (caps:=[]) rfl rfl rfl)∘Jp 1∘Jy (h:=by exact Yl.makeFunc (fst:=[vP gm 0]) (caps:=[]) rfl rfl rfl)∘Jp 1∘Jy (h:=by exact Yl.makeFunc (fst:=[vP gm 0]) (caps:=[]) rfl rfl rfl)∘Jp 1∘Jy (h:=by exact Yl.makeFunc (fst:=[vP gm 0]) (caps:=[]) rfl rfl rfl)∘JU J3 #[.func (.func 148) #[vP gm 0] #[],.func (.func 149) #[vP gm 0] #[],.func (.func 150) #[vP gm 0] #[],.func (.func 150) #[vP gm 0] #[],.func (.func 151) #[vP gm 0] #[],.func (.func 152) #[vP gm 0] #[],.func (.func 153) #[vP gm 0] #[],.func (.func 154) #[vP gm 0] #[],.func (.func 155) #[vP gm 0] #[],.func (.func 156) #[vP gm 0] #[]]) λL e=>(Jp 1∘aJ∘Jj∘JQ∘JP∘Jg 0 O1∘Jp 2) (Ji (λt=>?_) λt=>?_)
 ·
  exact (Jp 7∘aJ∘Jj∘JT∘bE 2∘bW) λb=>by exact qv (y:=(⟨cp,cr,gA,gc,gs,lA,lc,cl,uA,uc,cu,tA,tc,ts,sA,sc,rs⟩:aF)) 2 b rfl B.ln (q75 om)
 refine (Jg 0 O1∘Jw .i64∘Jp 1∘Jl∘Jp 2∘aJ∘Jj) (Ji (λu=>?_) λu=>?_)
 ·
  exact (JT∘bE 2∘bW) λb=>by exact qv (y:=(⟨cp,cr,gA,gc,gs,lA,lc,cl,uA,uc,cu,tA,tc,ts,sA,sc,rs⟩:aF)) 2 b rfl B.ln (q75 om)
 obtain ⟨k,E⟩:∃k:Nat,o.kind=k+1:=⟨o.kind-1,by omega⟩
 have g:k<10:=by omega
 refine (aQ) λa Z b=>?_
 refine wp_seq ?_
 refine FX b [aif e gm,.blk D o.cells 214] [0,1] [] λb j=>?_
 refine ap Z (λ_=>j) [0,1] (bf 13 [0,1]) [(52,vP D 0),(51,vS e 10 10)] λa Z=>?_
 refine dH Z j 2 1 (v:=vB o.kind) λa Z=>?_
 refine pK Z (λ_=>j) (i:=3) rfl rfl (d:=54) rfl de kr (λ_ _ _ h=>h) (v:=vB (IntKind.u8.wrap ((o.kind:Int)-1))) (λ_=>Yl.pure kr) λa Z=>?_
 replace Z:=Z.sp 54 (vB k) rfl (by rw [IntKind.wrap_u8];congr 1;omega)
 refine iw Z j 4 rfl (v:=vP e (k*1)) (Yl.iO e k 1 rfl rfl rfl) λa Z=>?_
 refine iw Z j 5 rfl (v:= .func (.func (qQ k)) #[vP gm 0] #[]) (Pd rfl rfl kr (λ_ h=>h.cell (i:=0) rfl (by rw [ac0];exact zkg gm g))) λa Z=>?_
 refine iw Z j 6 rfl (v:= .agg o.cells) (Pe rfl rfl mW rfl (λ_ h=>qj (h.blk (i:=1) rfl))) λa Z=>?_
 refine s_on Z 7 rfl ?_
 refine zh Z (f:=(qQ k)) (vs:=[.agg o.cells]) (fst:=[vP gm 0]) (caps:=[]) rfl rfl rfl (q2m g) rfl de (q2n 2 b rfl B J C g E) ?_
 rintro _ G ⟨y,rfl,l,m⟩
 refine ⟨_,rfl,?_⟩
 replace b:=(show Mem W G (aif e gm::.blk D o.cells 214::(mX gm y++(T))) from m.back)
 clear Z;intro a Z
 refine av (b.pk [0,1]) (λj=>?_)
 refine ap Z (λ_=>j) [8,9,10,11,12] (bt 13 []) (ahY 8 ((dL (⟨cp,cr,gA,gc,gs,lA,lc,cl,uA,uc,cu,tA,tc,ts,sA,sc,rs⟩:aF).ay o).2.2) 7 ((dL (⟨cp,cr,gA,gc,gs,lA,lc,cl,uA,uc,cu,tA,tc,ts,sA,sc,rs⟩:aF).ay o).2.1) []) λa Z=>?_
 refine qe kr ?_
 refine Jb Z b ((bN 2∘aL∘Jj) (Jh (λc=>?_) λc=>?_))
 ·
  replace c:(dL (⟨cp,cr,gA,gc,gs,lA,lc,cl,uA,uc,cu,tA,tc,ts,sA,sc,rs⟩:aF).ay o).2.2≠0:=by omega
  exact (JT∘bE 3∘bW) λb=>by rw [TM c];exact ⟨y,rfl,l.trans (q74 c).1,b.iY 2 rfl⟩
 replace c:(dL (⟨cp,cr,gA,gc,gs,lA,lc,cl,uA,uc,cu,tA,tc,ts,sA,sc,rs⟩:aF).ay o).2.2=0:=by omega
 have A:=c
 have H:GoodS y.ay:=by rw [l];exact SE C J A
 refine (aQ∘aM 1∘JL (h:=by exact λb=>zn0 (b.iY 2 rfl) H)) ?_
 rintro b _ M ⟨z,rfl,I,m⟩
 refine ⟨_,rfl,_,m,?_⟩
 exact (nE∘bg 3∘aP∘bW) λb=>by rw [TN A];exact ⟨z,rfl,I.trans (by rw [l]),b⟩
def DJ (w:aiM) (e:aiP) (sz n:Nat) (xs:List aiN) (r:aiQ) (a:aiM):Prop:=
 (∃A c,r= .returned (.slice A n c)/\a.ownsRow w.heap.size e sz (.slice A n c) n xs/\n<=c)/\Below w.heap.size w a
def NY {e:aiP} {sz:Nat} {xs:List aiN} (hr:Rd w w.heap.size sz A n xs) (h:A.isNone=true) (hb:Below w.heap.size w W):DJ w e sz n xs (.returned (.slice none 0 0)) W:=by
 have b:n=0:=by
  rcases ach n with a|a
  ·exact a
  ·obtain ⟨d,rfl,_⟩:=hr.row a
   cases h
 subst b
 have c:xs=[]:=af0.1 (by rw [hr.len];omega)
 subst c
 exact ⟨⟨none,0,rfl,acH _ _ _ _,abu _⟩,hb⟩
def j4 (z:List Rw) (m:Nat):List Rw:=z++abD m Rw.zero
def qy1 (z:List Rw) (m:Nat):abo (j4 z m)=abo z+m:=by unfold j4;rw [abq,ab9]
def qy2 {α:Type} (F:α->aiN) (z:α) (m:Nat):(madeCells #[F z] (m*1)).toList=(abD m z).map F:=by
 rw [ac0]
 unfold madeCells
 refine ad8 (by simp) λi a b=>?_
 simp [Nat.mod_one]
def q76 (m:Nat):(madeCells #[.slice none 0 0] (m*1)).toList=(j4 [] m).map aac:=qy2 aac Rw.zero m
def q2p (m:Nat):(madeCells (afJ none 0 0).cells (m*1)).toList=(j4 [] m).map aac:=q76 m
def zec {z:List Rw} (y:Rw) (h:0<m):(j4 z m).set (abo z) y=j4 (z++[y]) (m-1):=by
 obtain ⟨k,rfl⟩:∃k,m=k+1:=⟨m-1,by omega⟩
 unfold j4
 rw [ae1,if_neg om,aeg,List.replicate_succ,afz,abv]
 rfl
def q77 (z:List Rw):j4 z 0=z:=by unfold j4;rw [List.replicate_zero,abM]
def q78 {i gc lc uc tc:Nat} {lA uA tA:aiW} (hz:abo z=i) (hi:i=n) (h1:abo x.gs<=gc) (a:abo x.cl<=lc) (b:abo x.cu<=uc) (d:abo x.ts<=tc) (e:∀q∈z,abo q.l<=q.c) (f:x.rs.map aeb=z.map aeb)
  (hm:Mem w W (.row (.slice gA (abo x.gs) gc) (abo x.gs) (x.gs.flatMap fQ) 198 2:: .row (.slice lA (abo x.cl) lc) (abo x.cl) (x.cl.map aZ) 3 1:: .row (.slice uA (abo x.cu) uc) (abo x.cu) (x.cu.map aZ) 3 1:: .row (.slice tA (abo x.ts) tc) (abo x.ts) (x.ts.flatMap bX) 232 8:: .row (.slice (some ⟨g,0,none⟩) n n) n ((j4 z (n-i)).map aac) 176 1::lD 200 z)):
  zgw w x (.returned (.agg #[.int .i64 x.au,.int .u64 (x.aj:Int),.slice gA (abo x.gs) gc,.slice lA (abo x.cl) lc,.slice uA (abo x.cu) uc,.slice tA (abo x.ts) tc,.slice (some ⟨g,0,none⟩) n n])) W:=by
 subst hz
 subst hi
 rw [aeg,q77] at hm
 exact ⟨⟨x.au,x.aj,gA,gc,x.gs,lA,lc,x.cl,uA,uc,x.cu,tA,tc,x.ts,some ⟨g,0,none⟩,abo z,z⟩,rfl,⟨⟨rfl,rfl,rfl⟩,rfl,rfl,rfl,f⟩,⟨h1,a,b,d,abu _,e⟩,hm⟩
def qwk (A:aiW) (c:Nat) (l:List Gr) (w:aiM) (hr:Rd w w.heap.size 2 A (abo l) (l.flatMap fQ)) (k:abo l<=1000000):
    Calls abp 192 #[abl A l c] w (DJ w 198 2 (abo l) (l.flatMap fQ)):=by
 refine (fE Tryz.func192 8) ?_
 refine (dh 1∘bN 1∘Jy (v:= .bool A.isNone) (h:=by exact aaz rfl rfl rfl)∘aL∘Jj) (Ju (λe=>?_) λe=>?_)
 ·
  exact (JT∘bE 1∘aW) λb=>NY hr (by simpa using e) b.below
 refine (aQ∘JP) λa Z b=>?_
 refine fo Z 0 rfl rfl ?_
 refine Ma Z b rfl jv rfl de ?_
 clear Z b;intro a m n Z b
 refine Jb Z b ((Jp 1∘JD (l.flatMap fQ) 0 (λ_ _=>aO) jv (hr:=by exact λb=>b.old hr) (h1:=by exact Iw _)) λo g j f=>?_)
 have d:0+abo l=abo l:=aci _
 rw [d] at f
 exact (JC (h:=by exact λb=>b.bC (i:=0) (ys:=l.flatMap fQ) rfl d (rfl))∘Jk 7 (.slice g (abo l) j) (h:=by exact iW d)∘Jp 1∘fJ∘aP∘aW) λb=>by exact ⟨⟨_,_,rfl,b.own (i:=0) rfl,f⟩,b.below⟩
def qkn (A:aiW) (c:Nat) (l:List Int) (w:aiM) (hr:Rd w w.heap.size 1 A (abo l) (l.map aZ)) (k:abo l<=1000000):
    Calls abp 193 #[abl A l c] w (DJ w 3 1 (abo l) (l.map aZ)):=by
 refine (fE Tryz.func193 8) ?_
 refine (dh 1∘bN 1∘Jy (v:= .bool A.isNone) (h:=by exact aaz rfl rfl rfl)∘aL∘Jj) (Ju (λe=>?_) λe=>?_)
 ·
  exact (JT∘bE 1∘aW) λb=>NY hr (by simpa using e) b.below
 refine (aQ∘JP) λa Z b=>?_
 refine fo Z 0 rfl rfl ?_
 refine Ma Z b rfl j6 rfl de ?_
 clear Z b;intro a m n Z b
 refine Jb Z b ((Jp 1∘JD (l.map aZ) 0 (λ_ _=>aO) j6 (hr:=by exact λb=>b.old hr) (h1:=by exact R5 _)) λo g j f=>?_)
 have d:0+abo l=abo l:=aci _
 rw [d] at f
 exact (JC (h:=by exact λb=>b.bC (i:=0) (ys:=l.map aZ) rfl d (rfl))∘Jk 7 (.slice g (abo l) j) (h:=by exact iW d)∘Jp 1∘fJ∘aP∘aW) λb=>by exact ⟨⟨_,_,rfl,b.own (i:=0) rfl,f⟩,b.below⟩
def qwl (A:aiW) (c:Nat) (l:List Tk) (w:aiM) (hr:Rd w w.heap.size 8 A (abo l) (l.flatMap bX)) (k:abo l<=1000000):
    Calls abp 194 #[abl A l c] w (DJ w 232 8 (abo l) (l.flatMap bX)):=by
 refine (fE Tryz.func194 8) ?_
 refine (dh 1∘bN 1∘Jy (v:= .bool A.isNone) (h:=by exact aaz rfl rfl rfl)∘aL∘Jj) (Ju (λe=>?_) λe=>?_)
 ·
  exact (JT∘bE 1∘aW) λb=>NY hr (by simpa using e) b.below
 refine (aQ∘JP) λa Z b=>?_
 refine fo Z 0 rfl rfl ?_
 refine Ma Z b rfl dK rfl de ?_
 clear Z b;intro a m n Z b
 refine Jb Z b ((Jp 1∘JD (l.flatMap bX) 0 (λ_ _=>aO) dK (hr:=by exact λb=>b.old hr) (h1:=by exact Iy _)) λo g j f=>?_)
 have d:0+abo l=abo l:=aci _
 rw [d] at f
 exact (JC (h:=by exact λb=>b.bC (i:=0) (ys:=l.flatMap bX) rfl d (rfl))∘Jk 7 (.slice g (abo l) j) (h:=by exact iW d)∘Jp 1∘fJ∘aP∘aW) λb=>by exact ⟨⟨_,_,rfl,b.own (i:=0) rfl,f⟩,b.below⟩
def qwm (A:aiW) (c:Nat) (l:List Sp) (w:aiM) (hr:Rd w w.heap.size 3 A (abo l) (l.flatMap jc)) (k:abo l<=1000000):
    Calls abp 195 #[abl A l c] w (DJ w 200 3 (abo l) (l.flatMap jc)):=by
 refine (fE Tryz.func195 8) ?_
 refine (dh 1∘bN 1∘Jy (v:= .bool A.isNone) (h:=by exact aaz rfl rfl rfl)∘aL∘Jj) (Ju (λe=>?_) λe=>?_)
 ·
  exact (JT∘bE 1∘aW) λb=>NY hr (by simpa using e) b.below
 refine (aQ∘JP) λa Z b=>?_
 refine fo Z 0 rfl rfl ?_
 refine Ma Z b rfl lZ rfl de ?_
 clear Z b;intro a m n Z b
 refine Jb Z b ((Jp 1∘JD (l.flatMap jc) 0 (λ_ _=>aO) lZ (hr:=by exact λb=>b.old hr) (h1:=by exact R4 _)) λo g j f=>?_)
 have d:0+abo l=abo l:=aci _
 rw [d] at f
 exact (JC (h:=by exact λb=>b.bC (i:=0) (ys:=l.flatMap jc) rfl d (rfl))∘Jk 7 (.slice g (abo l) j) (h:=by exact iW d)∘Jp 1∘fJ∘aP∘aW) λb=>by exact ⟨⟨_,_,rfl,b.own (i:=0) rfl,f⟩,b.below⟩
theorem qot (x:aF) (w:aiM) (J:fA w x) (H:cK x):
    Calls abp 147 #[.agg x.cells] w (zgw w x):=by
 have hfg:=H.g;have hfl:=H.l;have hfu:=H.u;have hft:=H.t;have hfs:=H.s
 refine (fE Tryz.func147 45) ?_
 refine (JP∘JE) λw1 g1=>(JA aiF) λw2 M=>(Jr∘Jf 0∘Jg 2 O1∘JK (h:=by exact λb=>qwk x.gA x.gc x.gs _ (b.old J.g) (H.g))) λF G w9 U=>(Jf 0∘Jf 2) λa Z b=>?_
 refine fo Z 6 rfl rfl ?_
 refine rz Z b (i:=2) rfl rfl rfl rfl kr rfl rfl (by simp [aF.cells]) λaoI b=>?_
 refine Jb Z b ((qC∘Jj) λa Z b=>?_)
 refine wp_seq ?_
 refine Jb Z b ((Vs .n [10,12,14]) λwd2=>(Vf 0 3∘Vf 3 4∘Vf 6 5∘Vc 1 O2∘Vc 4 O2∘Vc 7 O2∘VK 2 .n (h:=by exact λb=>qkn x.lA x.lc x.cl _ (b.old J.l) (H.l))) λd e ME N=>(Vf 9 3∘VK 5 (.f .n) (h:=by exact λb=>qkn x.uA x.uc x.cu _ (b.old J.u) (H.u))) λj k w17 O=>(VK 8 (.f (.f .n)) (h:=by exact λb=>qwl x.tA x.tc x.ts _ (b.old J.t) (H.t))) λo p Cr P=>λa Z b HS=>?_)
 refine s_on Z 10 rfl ?_
 refine rz Z b (i:=5) rfl rfl rfl rfl kr rfl rfl (by simp [aF.cells]) λV b=>?_
 refine dU kr ?_
 refine ap Z (bZ kr) [11] (bt 15 [12,13,14]) [(22,vP g1 4)] λa Z=>?_
 refine s_on Z 12 rfl ?_
 refine rz Z b (i:=5) rfl rfl rfl rfl kr rfl rfl (by simp [aF.cells]) λW b=>?_
 refine dU kr ?_
 refine ap Z (bZ kr) [13] (bt 15 [14]) [(23,vP g1 5)] λa Z=>?_
 refine s_on Z 14 rfl ?_
 refine rz Z b (i:=5) rfl rfl rfl rfl kr rfl rfl (by simp [aF.cells]) λX b=>?_
 refine dU kr ?_
 refine qe kr ?_
 refine Jb Z b ((JP∘Jg 6 O5∘Jl) λa Z b=>?_)
 refine fo Z 3 rfl rfl ?_
 refine xO Z b (m:=abo x.rs) rfl oz rfl rfl om om rfl de ?_
 clear Z b;intro a EU D Z b
 refine Jb Z b ((Jp 1∘aJ∘Jq) λa Z b=>?_)
 rw [q2p] at b
 replace b:=b.oN 200 3
 replace b:Mem w _ (.row (vS D (abo x.rs) (abo x.rs)) (abo x.rs) ((j4 [] (abo x.rs)).map aac) 176 1:: abn o x.ts p bX 232 8:: abm j x.cu k aZ 3 1:: abm d x.cl e aZ 3 1:: abn F x.gs G fQ 198 2:: .blk M aiF 48:: .blk g1 #[vI x.au,vQ x.aj,abl F x.gs G,abl d x.cl e,abl j x.cu k,abl o x.ts p,abl x.sA x.rs x.sc] 48::lD 200 []):=b
 refine Jb Z b ((JG∘JQ∘JP∘Jg 6 O6∘Jl∘bM 1∘JB) λa Z b=>?_)
 refine qg (λmS aS wS=>∃(i:Nat) (z:List Rw),(i<=abo x.rs)/\(abo z=i)/\(z.map aeb=(x.rs.take i).map aeb)/\(∀q∈z,abo q.l<=q.c)/\mS=abo x.rs-i/\Fr aS 45 [] [(31,vI i),(30,vI (abo x.rs)),(29,abl x.sA x.rs x.sc),(3,vS D (abo x.rs) (abo x.rs)),(2,vP M 0),(1,vP g1 0)]/\Mem w wS (.row (vS D (abo x.rs) (abo x.rs)) (abo x.rs) ((j4 z (abo x.rs-i)).map aac) 176 1:: abn o x.ts p bX 232 8:: abm j x.cu k aZ 3 1:: abm d x.cl e aZ 3 1:: abn F x.gs G fQ 198 2:: .blk M aiF 48:: .blk g1 #[vI x.au,vQ x.aj,abl F x.gs G,abl d x.cl e,abl j x.cu k,abl o x.ts p,abl x.sA x.rs x.sc] 48::lD 200 z)) (m:=abo x.rs-0) ⟨0,[],abz _,rfl,rfl,(λq h=>by cases h),rfl,Z.sub kr,b.pt 7 [0,1,2,3,4,5,6]⟩ ?_
 clear Z b;rintro mS a w_ ⟨i,z,hi,K,hz,Q,rfl,Z,b⟩
 refine Jb Z b ((dh 1∘JQ) (Ji (λR=>?_) λR=>?_))
 ·
  have E:i<abo x.rs:=by omega
  obtain ⟨y,T⟩:∃q,x.rs.getD i Rw.zero=q:=⟨_,rfl⟩
  have Y:Rd w w.heap.size 3 y.A (abo y.l) (y.l.flatMap jc):=by rw [<-T];exact J.row E
  have hyl:abo y.l<=1000000:=by rw [<-T];exact H.r _ (qf Rw.zero E)
  refine (eY∘aM 1) ?_
  obtain ⟨Ib,Ic,L,_⟩:=Rd.sat J.s i
  have I:=J.s;rw [L] at I
  refine (Jk 29 (.slice (some ⟨Ib,Ic,none⟩) (abo x.rs) x.sc) (h:=by rw [L];try rfl)∘iC i 1∘Jy (v:= .slice ((x.rs.getD i Rw.zero).A) ((x.rs.getD i Rw.zero).l.length) ((x.rs.getD i Rw.zero).c)) (h:=by exact aad I i Rw.zero E rfl rfl)∘Jo (.slice y.A (abo y.l) y.c) (by rw [T])∘bM 2∘JR∘Jp 3∘JK (h:=by exact λb=>qwm y.A y.c y.l _ (b.old Y) (hyl))) λB C NQ S=>(nG i 1) λa Z b=>?_
  refine fo Z 5 rfl rfl ?_
  refine zj Z b (i:=1) rfl rfl rfl rfl kr rfl rfl (by rw [abw,qy1];omega) λaoK b=>?_
  replace b:=b.dG (i:=1) (ys:=(j4 (z++[(⟨B,C,y.l⟩:Rw)]) (abo x.rs- (i+1))).map aac) rfl ((Mf aac _ i (⟨B,C,y.l⟩:Rw) (by rw [qy1];omega)).trans (by rw [show i=abo z from K.symm,zec (⟨B,C,y.l⟩:Rw) om];rfl))
  refine Jb Z b ((qC∘Jq∘JC (h:=by exact λb=>b.pt (fs':=(abn B y.l C jc 200 3:: .row (vS D (abo x.rs) (abo x.rs)) (abo x.rs) ((j4 (z++[(⟨B,C,y.l⟩:Rw)]) (abo x.rs- (i+1))).map aac) 176 1:: abn o x.ts p bX 232 8:: abm j x.cu k aZ 3 1:: abm d x.cl e aZ 3 1:: abn F x.gs G fQ 198 2:: .blk M aiF 48:: .blk g1 #[vI x.au,vQ x.aj,abl F x.gs G,abl d x.cl e,abl j x.cu k,abl o x.ts p,abl x.sA x.rs x.sc] 48::lD 200 z)) 8 [0,1,2,3,4,5,6,7])∘JC (h:=by exact λb=>aaE (fs:=[.row (vS D (abo x.rs) (abo x.rs)) (abo x.rs) ((j4 (z++[(⟨B,C,y.l⟩:Rw)]) (abo x.rs- (i+1))).map aac) 176 1,abn o x.ts p bX 232 8,abm j x.cu k aZ 3 1,abm d x.cl e aZ 3 1,abn F x.gs G fQ 198 2,.blk M aiF 48,.blk g1 #[vI x.au,vQ x.aj,abl F x.gs G,abl d x.cl e,abl j x.cu k,abl o x.ts p,abl x.sA x.rs x.sc] 48]) b)∘JC (h:=by exact λb=>(show Mem w _ (.row (vS D (abo x.rs) (abo x.rs)) (abo x.rs) ((j4 (z++[(⟨B,C,y.l⟩:Rw)]) (abo x.rs- (i+1))).map aac) 176 1:: abn o x.ts p bX 232 8:: abm j x.cu k aZ 3 1:: abm d x.cl e aZ 3 1:: abn F x.gs G fQ 198 2:: .blk M aiF 48:: .blk g1 #[vI x.au,vQ x.aj,abl F x.gs G,abl d x.cl e,abl j x.cu k,abl o x.ts p,abl x.sA x.rs x.sc] 48::lD 200 (z++[(⟨B,C,y.l⟩:Rw)])) from b))∘JG∘JR∘dA 1∘Jp 1∘aL∘Jq) λa Z b=>?_)
  replace Z:=Z.sp 29 (abl x.sA x.rs x.sc) rfl (by rw [L])
  exact ⟨_,om,i+1,(z++[(⟨B,C,y.l⟩:Rw)]),by omega,by rw [abq,K];rfl,by rw [abZ,hz,zdh E,T];rfl,λq h=>(acg.1 h).elim (Q q) (λh=>by rw [afA] at h;subst h;exact S),rfl,Z.sub kr,b.pt 7 [0,1,2,3,4,5,6]⟩
 have hzt:x.rs.take i=x.rs:=abL om
 have hil:i=abo x.rs:=by omega
 refine (JF∘JX∘JG∘aM 1∘Jf 6∘JW uK uK) λaoM=>(nE∘Jr∘Jy (v:= .agg #[vI x.au,vQ x.aj,abl F x.gs G,abl d x.cl e,abl j x.cu k,abl o x.ts p,vS D (abo x.rs) (abo x.rs)]) (h:=by exact Pe rfl rfl eU rfl (λ_ h=>qj (h.blk (i:=6) rfl)))∘JV eU rC) λAq=>(mJ∘aP) λa Z b=>?_
 exact iV rfl Z (.cellS (i:=5) Z b rfl rfl eU rfl) (q78 (x:=x) (n:=abo x.rs) (i:=i) K hil U N O P Q (by rw [hzt] at hz;exact hz.symm) (b.pt 7 [4,3,2,1,0]))
def q79 (w:aiM) (x:aF) (r:aiQ) (w':aiM):Prop:=∃y:aF,r= .returned (.tuple #[.agg y.cells,.int .i64 0])/\je x y/\gD y/\Mem w w' (jP y)
def zg5 (w:aiM) (s:bH) (r:aiQ) (w':aiM):Prop:=∃(gm:Nat) (y:aF),r= .returned (.tuple #[.pointer (some ⟨gm,0,none⟩),.int .i64 0])/\y.ay=s/\Mem w w' (mX gm y)
def J4 (w:aiM) (r:aiQ) (w':aiM):Prop:=r= .returned (.tuple #[.pointer none,.int .i64 2])/\Below w.heap.size w w'
def oF (w:aiM) (b:Bool) (s:bH) (r:aiQ) (w':aiM):Prop:=if b=true then zg5 w s r w' else J4 w r w'
def zed {w':aiM} {b:Bool} {s:bH} (h:b=false) (hb:Below w.heap.size w w'):oF w b s (.returned (.tuple #[.pointer none,.int .i64 2])) w':=by
 unfold oF
 rw [if_neg (by rw [h];decide)]
 exact ⟨rfl,hb⟩
def q8a {w':aiM} {b:Bool} {gm:Nat} {y:aF} (h:b=true) (hs:y.ay=s) (hm:Mem w w' (mX gm y)):oF w b s (.returned (.tuple #[.pointer (some ⟨gm,0,none⟩),.int .i64 0])) w':=by
 unfold oF
 rw [if_pos h]
 exact ⟨gm,y,rfl,hs,hm⟩
section
variable {W w w':aiM} {F T fs gs:List aiX} {x y:aF} {gm:Nat}
theorem Mem.J5 (n:Nat) (h:Mem W w F) (a:F.drop n=mX gm x++T):fA w x:=h.uw n a ⟨rfl,rfl,rfl,rfl,rfl⟩
theorem Mem.DK (n:Nat) (h:Mem W w F) (a:F.drop n=mX gm x++T):w.heap[gm]?=some (.cells #[.int .i64 x.au,.int .u64 (x.aj:Int),.slice x.gA (abo x.gs) x.gc,.slice x.lA (abo x.cl) x.lc,.slice x.uA (abo x.cu) x.uc,.slice x.tA (abo x.ts) x.tc,.slice x.sA (abo x.rs) x.sc,.bool true] 273 (0,0)):=h.oD n a ⟨rfl,rfl,rfl,rfl,rfl⟩
theorem Mem.zmi (h:Mem W w fs) {g:Nat} {C ds:Array aiN} {t:aiP} (hb:W.heap[g]?=some (.cells C t (0,0))) (b:C.toList.take ds.size=ds.toList):w.rangeAt g 0 ds.toList:=λj u a=>by
 have c:=h.zo5 hb
 refine c j u ?_
 rw [<-b,List.getElem?_take] at a
 split at a
 ·exact a
 ·cases a
def aaT (h:Mem W w fs) (k:Mem w w' gs):Mem W w' gs:=(h.qM k).iY (abo fs) (by rw [afE])
end
def q8b {α:Type} (f:α->List aiN) (sz:Nat) (a:∀x,abo (f x)=sz) (g:0<sz) (z:α) (m:Nat):(madeCells (f z).toArray (m*sz)).toList=(abD m z).flatMap f:=by
 unfold madeCells
 have d:abo ((abD m z).flatMap f)=m*sz:=by rw [rJ f sz a,ab9]
 refine ad8 (by rw [d];simp) λi k e=>?_
 have h:i<m*sz:=by rw [<-d];exact e
 have j:i/sz<abo (abD m z):=by rw [ab9];exact Nat.div_lt_of_lt_mul (by rw [ahl];exact h)
 have c:=ad1 i g
 have b:=Eb f sz a (abD m z) (i/sz) (i%sz) j c
 rw [show i/sz*sz+i%sz=i by rw [ahl];exact Nat.div_add_mod i sz,abr e,List.getElem_replicate] at b
 rw [abr (by rw [a];exact c)] at b
 injection b with b
 rw [b]
 simp [a]
 rw [abr (by rw [a];exact c)]
 rfl
def zkh (m:Nat):(madeCells (Value.agg #[.int .u64 0,.int .u32 0,.int .u64 0]).cells (m*3)).toList=(abD m Sp.zero).flatMap jc:=q8b jc 3 (λ_=>rfl) de Sp.zero m
def q8c (m:Nat):(madeCells #[.int .i64 0] (m*1)).toList=(abD m (0:Int)).map aZ:=qy2 aZ 0 m
def q8d (x:aF) (d:Nat) (w:aiM) (f:cK x) (g:fA w x) (hm:w.heap[d]?=some (.cells #[vI x.au,vQ x.aj,abl x.gA x.gs x.gc,abl x.lA x.cl x.lc,abl x.uA x.cu x.uc,abl x.tA x.ts x.tc,abl x.sA x.rs x.sc,.bool true] 273 (0,0))):
    Calls abp 103 #[vP d 0] w (q79 w x):=by
 refine (fE Tryz.func103 19) ?_
 refine (JP∘JA aiF) λl j=>(bM 1∘bN 1∘Jy (v:= .bool false) (h:=by exact aaD rfl rfl rfl)∘Jp 2∘Jn∘Jf 7∘Jy (v:= .bool true) (h:=by exact Pd rfl rfl kr (λ_ h=>h.mH hm rfl))∘Jp 2∘aJ∘Jj∘aQ∘aM 1∘Jn∘Jf 0∘Jy (v:= .agg x.cells) (h:=by exact Pe rfl rfl eU rfl (λ_ h=>h.zmi hm rfl))∘JL (h:=by exact λb=>qot x _ (g.old b) (f))) ?_
 rintro b _ k ⟨y,rfl,heq,c,hm⟩
 refine ⟨_,rfl,_,(show Mem w _ (.blk j aiF 48::jP y) from b.qM hm),?_⟩
 refine (JV eU aO (h1:=by exact EL y)) λe=>(Jp 1∘lq∘aP) λa Z b=>?_
 exact dR rfl Z (.cellS (i:=0) Z b rfl rfl eU rfl) (.tmp Z rfl) (⟨y,rfl,heq,c,b.pt 1 []⟩)
def zki {cp:Int} {cr gc:Nat} {gA:aiW} {gs:List Gr} (a:abo gs<=1000000):cK (⟨cp,cr,gA,gc,gs,none,0,[],none,0,[],none,0,[],none,0,[]⟩:aF):=⟨a,abz _,abz _,abz _,abz _,λy b=>by cases b⟩
def zn1 {cp:Int} {cr gc:Nat} {gs:List Gr} (hr:Rd w w.heap.size 2 gA (abo gs) (gs.flatMap fQ)):fA w (⟨cp,cr,gA,gc,gs,none,0,[],none,0,[],none,0,[],none,0,[]⟩:aF):=⟨hr,Rd.nil,Rd.nil,Rd.nil,Rd.nil,λy a=>by cases a⟩
theorem zn2 {a:List Sp} {cr gc c m g:Nat} {gs:List Gr} (b:Mem W w F) (hr:Rd W W.heap.size 2 gA (abo gs) (gs.flatMap fQ)) {q:Nat} (d:abo z=q) (i j k n:Nat) (h1:F[i]?=some (.row (.slice (some ⟨m,0,none⟩) (abo a) (abo a)) (abo a) ((abD (abo a) (0:Int)).map aZ) 3 1)) (e:F[j]?=some (.row (.slice (some ⟨g,0,none⟩) (abo a) (abo a)) (abo a) ((abD (abo a) (0:Int)).map aZ) 3 1)) (f:F[k]?=some (.row (.slice A q c) q (z.map aac) 176 1)) (h:F.drop n=lD 200 z):fA w (⟨(abo a:Int),cr,gA,gc,gs,some ⟨m,0,none⟩,abo a,(abD (abo a) (0:Int)),some ⟨g,0,none⟩,abo a,(abD (abo a) (0:Int)),none,0,[],A,c,z⟩:aF):=
 ⟨b.old hr,by show Rd w _ 1 _ (acW _) _;rw [ab9];exact b.rd h1,by show Rd w _ 1 _ (acW _) _;rw [ab9];exact b.rd e,Rd.nil,by show Rd w _ 1 _ (abo z) _;rw [d];exact b.rd f,λy l=>b.kg (List.mem_of_mem_drop (h▸q6x l))⟩
def zkj {a:List Sp} {cr gc c m g:Nat} {gA A:aiW} {gs:List Gr} (hr:abD (abo a) Sp.zero=a) (hk:abo z=abo gs) (hz:∀q∈z,q.l=a):(⟨(abo a:Int),cr,gA,gc,gs,some ⟨m,0,none⟩,abo a,(abD (abo a) (0:Int)),some ⟨g,0,none⟩,abo a,(abD (abo a) (0:Int)),none,0,[],A,c,z⟩:aF).ay=newS (abo a:Int) cr gs:=by
 have d:z.map aeb=abD (abo gs) a:=by
  rw [List.eq_replicate_iff]
  refine ⟨by rw [abw];exact hk,λb e=>?_⟩
  obtain ⟨q,f,rfl⟩:=ab7.1 e
  exact hz q f
 unfold aF.ay newS
 dsimp only
 rw [d,abH,hr]
def zkk (cp:Int) (cr:Nat) (gA:aiW) (gc:Nat) (gs:List Gr) (w:aiM) (N:(⟨cp,cr,gA,gc,gs,none,0,[],none,0,[],none,0,[],none,0,[]⟩:aF).ay.Ok) (X:abo gs<=1000000) (hr:Rd w w.heap.size 2 gA (abo gs) (gs.flatMap fQ)):
    Calls abp 99 #[.agg #[vI cp,vQ cr,.slice gA (abo gs) gc]] w (oF w (gK (⟨cp,cr,gA,gc,gs,none,0,[],none,0,[],none,0,[],none,0,[]⟩:aF).ay) (newS cp cr gs)):=by
 have Y:=N.aj
 refine (fE Tryz.func99 34) ?_
 refine (JP∘JE) λw1 g1=>(bM 2∘JQ∘JP∘eH yV O0∘JI (h:=by exact λc=>qfy (⟨cp,cr,gA,gc,gs,none,0,[],none,0,[],none,0,[],none,0,[]⟩:aF) N (zki X) _ (zn1 (c.old hr)))) λw6 hbw=>(Jp 1∘bU∘Jj) (Ju (λu=>?_) λu=>?_)
 ·
  exact (JT∘bE 2∘bW) λc=>zed (by simpa using u) c.below
 obtain ⟨A,B,_,I⟩:=mM (x:=(⟨cp,cr,gA,gc,gs,none,0,[],none,0,[],none,0,[],none,0,[]⟩:aF)) (by simpa using u)
 replace A:1<=cp:=A;replace B:cp<=64:=B;replace I:dO gs=true:=I
 have hgl:=(qt I).2.1
 have O:gK (⟨cp,cr,gA,gc,gs,none,0,[],none,0,[],none,0,[],none,0,[]⟩:aF).ay=true:=by simpa using u
 obtain ⟨b,C⟩:∃l:List Sp,abD cp.toNat Sp.zero=l:=⟨_,rfl⟩
 obtain rfl:cp=(abo b:Int):=by rw [<-C,ab9];omega
 have P:abD (abo b) Sp.zero=b:=C
 refine (aQ) λa Z c=>?_
 refine wp_seq ?_
 refine Jb Z c ((Vs .n [9]) λwd3=>λa Z c j=>?_)
 refine FY (f:=0) (l:=(bt 10 [])) (λs t=>∃(d:Nat) (e:Nat) (g:Nat),Fr s 34 [] [(4,vP g 0),(7,.bool false),(3,vI 0),(2,.pointer none),(1,vP g1 0),(0,.agg #[vI (abo b),vQ cr,abl gA gs gc])]/\Mem w t [.blk g #[vI (abo b),vQ cr,abl gA gs gc,vS d (abo b) (abo b),vS e (abo b) (abo b),vN,vN] 48,.row (vS e (abo b) (abo b)) (abo b) ((madeCells #[vI 0] (abo b*1)).toList) 3 1,.row (vS d (abo b) (abo b)) (abo b) ((madeCells #[vI 0] (abo b*1)).toList) 3 1,.blk g1 #[vI (abo b),vQ cr,abl gA gs gc] 44]) ?_ λD=>?_
 ·
  clear Z c j;rintro a U ⟨d,e,g,Z,c⟩
  refine qe kr ?_
  rw [q8c] at c
  replace c:=c.nil 176 1
  replace c:=c.oN 200 3
  replace c:Mem w _ (.row (vN) 0 [] 176 1:: .blk g #[vI (abo b),vQ cr,abl gA gs gc,vS d (abo b) (abo b),vS e (abo b) (abo b),vN,vN] 48:: .row (vS e (abo b) (abo b)) (abo b) ((abD (abo b) (0:Int)).map aZ) 3 1:: .row (vS d (abo b) (abo b)) (abo b) ((abD (abo b) (0:Int)).map aZ) 3 1:: .blk g1 #[vI (abo b),vQ cr,abl gA gs gc] 44::lD 200 []):=c
  refine Jb Z c ((JQ∘JP∘Jg 2 O4∘Jl∘bM 1∘JB) λa Z c=>?_)
  refine qg (λmS s t=>∃(k:Nat) (z:List Rw) (Q:aiW) (M:Nat),(k<=abo gs)/\(abo z=k)/\(∀q∈z,q.l=b)/\(k<=M)/\mS=abo gs-k/\Fr s 34 [] [(19,vI k),(18,vI (abo gs)),(4,vP g 0),(7,.bool false),(3,vI 0),(2,.pointer none),(1,vP g1 0)]/\Mem w t (.row (.slice Q k M) k (z.map aac) 176 1:: .blk g #[vI (abo b),vQ cr,abl gA gs gc,vS d (abo b) (abo b),vS e (abo b) (abo b),vN,.slice Q k M] 48:: .row (vS e (abo b) (abo b)) (abo b) ((abD (abo b) (0:Int)).map aZ) 3 1:: .row (vS d (abo b) (abo b)) (abo b) ((abD (abo b) (0:Int)).map aZ) 3 1:: .blk g1 #[vI (abo b),vQ cr,abl gA gs gc] 44::lD 200 z)) (m:=abo gs-0) ⟨0,[],none,0,abz _,rfl,(λq h=>by cases h),abu _,rfl,Z.sub kr,c.pt 5 [0,1,2,3,4]⟩ ?_
  clear Z c;rintro mS a w_ ⟨k,z,Q,M,hk,J,hz,hcs,rfl,Z,c⟩
  refine Jb Z c ((dh 1∘JQ) (Ji (λR=>?_) λR=>?_))
  ·
   refine (eY∘Vs (.f .n) [8]) λGV=>(Vf 0 6∘Vf 2 0∘Vc 1 O0∘Vc 3 O3) λa Z c j=>?_
   refine s_on Z 4 rfl ?_
   refine xO Z c (m:=abo b) rfl lZ rfl rfl om om rfl de ?_
   clear Z c;intro a Qy o Z c
   refine av (c.pt 6 [2,3,4,5]) (λj=>?_)
   refine s_on Z 5 rfl (jA Z c oz [(0,vS o (abo b) (abo b))] #[vS o (abo b) (abo b)] ?_)
   clear Z c;intro a NK g26 Z c
   refine av (c.pt 7 [3,4,5,6]) (λj=>?_)
   refine s_on Z 6 rfl (rO Z c (i:=2) rfl oz rfl rfl rfl (news:=([(⟨some ⟨o,0,none⟩,abo b,b⟩:Rw)].map aac)) (c.bB (i:=0) (n:=1) (size:=1) rfl rfl) (zgx _) om om rfl de ?_)
   clear Z c;intro a EU p r Z c S
   refine av (c.pt 7 [3,4,5,6]) (λj=>?_)
   refine Vb Z c j ((Vf 7 6) λa Z c j=>?_)
   refine s_on Z 8 rfl (eO Z c 3 λDm c=>?_)
   refine dU kr ?_
   refine qe kr ?_
   replace c:=c.dG (i:=1) (ys:=b.flatMap jc) rfl ((zkh _).trans (by rw [P]))
   replace c:=c.dG (i:=2) (ys:=(z++[(⟨some ⟨o,0,none⟩,abo b,b⟩:Rw)]).map aac) rfl (by rw [abZ])
   replace c:=c.pt (fs':=(.row (vS o (abo b) (abo b)) (abo b) (b.flatMap jc) 200 3:: .row (.slice p (k+1) r) (k+1) ((z++[(⟨some ⟨o,0,none⟩,abo b,b⟩:Rw)]).map aac) 176 1:: .blk g #[vI (abo b),vQ cr,abl gA gs gc,vS d (abo b) (abo b),vS e (abo b) (abo b),vN,.slice p (k+1) r] 48:: .row (vS e (abo b) (abo b)) (abo b) ((abD (abo b) (0:Int)).map aZ) 3 1:: .row (vS d (abo b) (abo b)) (abo b) ((abD (abo b) (0:Int)).map aZ) 3 1:: .blk g1 #[vI (abo b),vQ cr,abl gA gs gc] 44::lD 200 z)) 7 [1,2,3,4,5,6]
   replace c:=aaE (fs:=[.row (.slice p (k+1) r) (k+1) ((z++[(⟨some ⟨o,0,none⟩,abo b,b⟩:Rw)]).map aac) 176 1,.blk g #[vI (abo b),vQ cr,abl gA gs gc,vS d (abo b) (abo b),vS e (abo b) (abo b),vN,.slice p (k+1) r] 48,.row (vS e (abo b) (abo b)) (abo b) ((abD (abo b) (0:Int)).map aZ) 3 1,.row (vS d (abo b) (abo b)) (abo b) ((abD (abo b) (0:Int)).map aZ) 3 1,.blk g1 #[vI (abo b),vQ cr,abl gA gs gc] 44]) c
   replace c:Mem w _ (.row (.slice p (k+1) r) (k+1) ((z++[(⟨some ⟨o,0,none⟩,abo b,b⟩:Rw)]).map aac) 176 1:: .blk g #[vI (abo b),vQ cr,abl gA gs gc,vS d (abo b) (abo b),vS e (abo b) (abo b),vN,.slice p (k+1) r] 48:: .row (vS e (abo b) (abo b)) (abo b) ((abD (abo b) (0:Int)).map aZ) 3 1:: .row (vS d (abo b) (abo b)) (abo b) ((abD (abo b) (0:Int)).map aZ) 3 1:: .blk g1 #[vI (abo b),vQ cr,abl gA gs gc] 44::lD 200 (z++[(⟨some ⟨o,0,none⟩,abo b,b⟩:Rw)])):=c
   refine Jb Z c ((JG∘JR∘dA 1∘Jp 1∘aJ∘Jq) λa Z c=>?_)
   exact ⟨_,om,k+1,(z++[(⟨some ⟨o,0,none⟩,abo b,b⟩:Rw)]),p,r,by omega,by rw [abq,J];rfl,λq h=>(acg.1 h).elim (hz q) (λh=>by rw [afA] at h;subst h;rfl),S,rfl,Z.sub kr,c.pt 5 [0,1,2,3,4]⟩
  have V:abo z=abo gs:=by omega
  refine (JF∘JX∘JG∘JP∘eH eU O1∘Jo (.agg ((⟨(abo b:Int),cr,gA,gc,gs,some ⟨d,0,none⟩,abo b,(abD (abo b) (0:Int)),some ⟨e,0,none⟩,abo b,(abD (abo b) (0:Int)),none,0,[],Q,M,z⟩:aF).cells)) (by unfold aF.cells;rw [ab9,J];try rfl)∘JL (h:=by exact λc=>qot (⟨(abo b:Int),cr,gA,gc,gs,some ⟨d,0,none⟩,abo b,(abD (abo b) (0:Int)),some ⟨e,0,none⟩,abo b,(abD (abo b) (0:Int)),none,0,[],Q,M,z⟩:aF) _ (zn2 c hr J 3 2 0 5 rfl rfl rfl rfl) (⟨X,by rw [ab9];omega,by rw [ab9];omega,abz _,by show abo z<=1000000;omega,λq hq=>by rw [hz q hq];omega⟩))) ?_
  rintro c _ GX ⟨y,rfl,heq,hcap,hm⟩
  refine ⟨_,rfl,_,(aaT c hm),?_⟩
  exact (fD #[vI y.au,vQ y.aj,abl y.gA y.gs y.gc,abl y.lA y.cl y.lc,abl y.uA y.cu y.uc,abl y.tA y.ts y.tc,abl y.sA y.rs y.sc,.bool true]∘JE) λGh g33=>(bM 2∘JZ∘bW) λc=>q8a (y:=y) O ((Nl heq).trans (zkj P V hz)) (c.pt 1 [0])
 refine FY (f:=2) (l:=(bt 10 [7,9])) (λs t=>∃(d:Nat) (g:Nat) (e:Nat),Fr s 34 [] [(14,vS e (abo b) (abo b)),(4,vP g 0),(11,vS d (abo b) (abo b)),(8,.agg #[vI (abo b),vQ cr,abl gA gs gc]),(7,.bool false),(3,vI 0),(2,.pointer none),(1,vP g1 0),(0,.agg #[vI (abo b),vQ cr,abl gA gs gc])]/\Mem w t [.row (vS e (abo b) (abo b)) (abo b) ((madeCells #[vI 0] (abo b*1)).toList) 3 1,.blk g aiF 48,.row (vS d (abo b) (abo b)) (abo b) ((madeCells #[vI 0] (abo b*1)).toList) 3 1,.blk g1 #[vI (abo b),vQ cr,abl gA gs gc] 44]) ?_ λE=>?_
 ·
  clear Z c j;rintro a U ⟨d,g,e,Z,c⟩
  have j:=c.pk (fs':=[.blk g1 #[vI (abo b),vQ cr,abl gA gs gc] 44]) [3]
  refine Vb Z c j ((Vy 7 (v:= .agg #[vI (abo b),vQ cr,abl gA gs gc,vS d (abo b) (abo b),vS e (abo b) (abo b),vN,vN]) (h:=by exact Yl.build (vs:=[(0,.agg #[vI (abo b),vQ cr,abl gA gs gc]),(1,vS d (abo b) (abo b)),(2,vS e (abo b) (abo b))]) rfl kr kr)) λa Z c j=>?_)
  refine s_on Z 9 rfl (bS Z c 1 rfl rfl rfl rfl rfl eU rfl rfl (by simp [abX]) λT c=>?_)
  refine dU kr ?_
  exact D _ _ ⟨d,e,g,Z.sub kr,c.pk [1,0,2,3]⟩
 refine FY (f:=3) (l:=(bt 10 [7,8,9])) (λs t=>∃(d:Nat) (e:Nat),Fr s 34 [] [(14,vS e (abo b) (abo b)),(11,vS d (abo b) (abo b)),(8,.agg #[vI (abo b),vQ cr,abl gA gs gc]),(7,.bool false),(3,vI 0),(2,.pointer none),(1,vP g1 0),(0,.agg #[vI (abo b),vQ cr,abl gA gs gc])]/\Mem w t [.row (vS e (abo b) (abo b)) (abo b) ((madeCells #[vI 0] (abo b*1)).toList) 3 1,.row (vS d (abo b) (abo b)) (abo b) ((madeCells #[vI 0] (abo b*1)).toList) 3 1,.blk g1 #[vI (abo b),vQ cr,abl gA gs gc] 44]) ?_ λF=>?_
 ·
  clear Z c j;rintro a U ⟨d,e,Z,c⟩
  have j:=c.pk (fs':=[.blk g1 #[vI (abo b),vQ cr,abl gA gs gc] 44]) [2]
  refine Vb Z c j ((Vy 7 (v:= .agg #[vI (abo b),vQ cr,abl gA gs gc,vS d (abo b) (abo b),vS e (abo b) (abo b),vN,vN]) (h:=by exact Yl.build (vs:=[(0,.agg #[vI (abo b),vQ cr,abl gA gs gc]),(1,vS d (abo b) (abo b)),(2,vS e (abo b) (abo b))]) rfl kr kr)∘VA 8 (.f (.f .n)) aiF) λW g=>λa Z c j=>?_)
  refine s_on Z 9 rfl (bS Z c 0 rfl rfl rfl rfl rfl eU rfl rfl (by simp [abX]) λT c=>?_)
  refine dU kr ?_
  exact D _ _ ⟨d,e,g,Z.sub kr,c.pk [0,1,2,3]⟩
 refine FY (f:=3) (l:=(bt 10 [6,7,9])) (λs t=>∃(d:Nat) (g:Nat),Fr s 34 [] [(4,vP g 0),(11,vS d (abo b) (abo b)),(13,vI (abo b)),(8,.agg #[vI (abo b),vQ cr,abl gA gs gc]),(7,.bool false),(3,vI 0),(2,.pointer none),(1,vP g1 0),(0,.agg #[vI (abo b),vQ cr,abl gA gs gc])]/\Mem w t [.blk g aiF 48,.row (vS d (abo b) (abo b)) (abo b) ((madeCells #[vI 0] (abo b*1)).toList) 3 1,.blk g1 #[vI (abo b),vQ cr,abl gA gs gc] 44]) ?_ λG=>?_
 ·
  clear Z c j;rintro a U ⟨d,g,Z,c⟩
  have j:=c.pk (fs':=[.blk g1 #[vI (abo b),vQ cr,abl gA gs gc] 44]) [2]
  refine s_on Z 6 rfl ?_
  refine xO Z c (m:=abo b) rfl j6 rfl rfl om om rfl de ?_
  clear Z c;intro a K e Z c
  refine av (c.pk [3]) (λj=>?_)
  exact E _ _ ⟨d,g,e,Z.sub kr,c.pk [0,1,2,3]⟩
 refine FY (f:=3) (l:=(bt 10 [3,7,9])) (λs t=>∃(e:Nat) (g:Nat),Fr s 34 [] [(4,vP g 0),(14,vS e (abo b) (abo b)),(10,vI (abo b)),(8,.agg #[vI (abo b),vQ cr,abl gA gs gc]),(7,.bool false),(3,vI 0),(2,.pointer none),(1,vP g1 0),(0,.agg #[vI (abo b),vQ cr,abl gA gs gc])]/\Mem w t [.blk g aiF 48,.row (vS e (abo b) (abo b)) (abo b) ((madeCells #[vI 0] (abo b*1)).toList) 3 1,.blk g1 #[vI (abo b),vQ cr,abl gA gs gc] 44]) ?_ λH=>?_
 ·
  clear Z c j;rintro a U ⟨e,g,Z,c⟩
  have j:=c.pk (fs':=[.blk g1 #[vI (abo b),vQ cr,abl gA gs gc] 44]) [2]
  refine s_on Z 3 rfl ?_
  refine xO Z c (m:=abo b) rfl j6 rfl rfl om om rfl de ?_
  clear Z c;intro a L d Z c
  refine av (c.pk [3]) (λj=>?_)
  exact E _ _ ⟨d,g,e,Z.sub kr,c.pk [2,1,0,3]⟩
 refine Vb Z c j ((Vf 1 0∘Vf 4 0∘mK 0 yV O0∘Vc 2 O0∘Vc 5 O0) λa Z c j=>?_)
 refine zf [3,6,8] kr rfl ?_
 refine all_cons ?_ ?_
 ·refine qu Z (i:=3) rfl rfl ?_
  refine xO Z c (m:=abo b) rfl j6 rfl rfl om om rfl de ?_
  clear Z c;intro a L d Z c
  refine av (c.pk [1]) (λj=>?_)
  refine zf [6,8] kr rfl ?_
  refine all_cons ?_ ?_
  ·refine qu Z (i:=6) rfl rfl ?_
   refine xO Z c (m:=abo b) rfl j6 rfl rfl om om rfl de ?_
   clear Z c;intro a K e Z c
   refine av (c.pk [2]) (λj=>?_)
   exact F _ _ ⟨d,e,Z.sub kr,c.pk [0,1,2]⟩
  refine all_cons ?_ all_nil
  refine qu Z (i:=8) rfl rfl ?_
  refine gX Z c aiF ?_
  clear Z c;intro a W g Z c
  refine av (c.pk [2]) (λj=>?_)
  exact G _ _ ⟨d,g,Z.sub kr,c.pk [0,1,2]⟩
 refine all_cons ?_ ?_
 ·refine qu Z (i:=6) rfl rfl ?_
  refine xO Z c (m:=abo b) rfl j6 rfl rfl om om rfl de ?_
  clear Z c;intro a K e Z c
  refine av (c.pk [1]) (λj=>?_)
  refine zf [3,8] kr rfl ?_
  refine all_cons ?_ ?_
  ·refine qu Z (i:=3) rfl rfl ?_
   refine xO Z c (m:=abo b) rfl j6 rfl rfl om om rfl de ?_
   clear Z c;intro a L d Z c
   refine av (c.pk [2]) (λj=>?_)
   exact F _ _ ⟨d,e,Z.sub kr,c.pk [1,0,2]⟩
  refine all_cons ?_ all_nil
  refine qu Z (i:=8) rfl rfl ?_
  refine gX Z c aiF ?_
  clear Z c;intro a W g Z c
  refine av (c.pk [2]) (λj=>?_)
  exact H _ _ ⟨e,g,Z.sub kr,c.pk [0,1,2]⟩
 refine all_cons ?_ all_nil
 refine qu Z (i:=8) rfl rfl ?_
 refine gX Z c aiF ?_
 clear Z c;intro a W g Z c
 refine av (c.pk [1]) (λj=>?_)
 refine zf [3,6] kr rfl ?_
 refine all_cons ?_ ?_
 ·refine qu Z (i:=3) rfl rfl ?_
  refine xO Z c (m:=abo b) rfl j6 rfl rfl om om rfl de ?_
  clear Z c;intro a L d Z c
  refine av (c.pk [2]) (λj=>?_)
  exact G _ _ ⟨d,g,Z.sub kr,c.pk [1,0,2]⟩
 refine all_cons ?_ all_nil
 refine qu Z (i:=6) rfl rfl ?_
 refine xO Z c (m:=abo b) rfl j6 rfl rfl om om rfl de ?_
 clear Z c;intro a K e Z c
 refine av (c.pk [2]) (λj=>?_)
 exact H _ _ ⟨e,g,Z.sub kr,c.pk [1,0,2]⟩
structure dQ where
 au:Nat
 groups:Nat
 aj:Nat
 ps:List Nat
 ws:List Nat
def dQ.cells (n:dQ):Array aiN:=(.int .u8 (n.au:Int):: .int .u8 (n.groups:Int):: .int .u32 (n.aj:Int)::(n.ps.map (λz:Nat=>abT .u8 (z:Int))++n.ws.map (λz:Nat=>abT .u16 (z:Int)))).toArray
structure dQ.Ok (n:dQ):Prop where
 au:n.au<256
 groups:n.groups<256
 aj:n.aj<4294967296
 pl:abo n.ps=5
 wl:abo n.ws=5
 ps:∀z∈n.ps,z<256
 ws:∀z∈n.ws,z<65536
section
variable {n:dQ} {i g:Nat} {gs:List Gr} {ds:List Nat} {x:Gr}
theorem dQ.J6 (h:n.Ok) (hi:i<5):n.cells[3+i*1]?=some (.int .u8 (n.ps.getD i 0:Int))/\n.ps.getD i 0<256:=by
 have a:i<abo n.ps:=by rw [h.pl];exact hi
 refine ⟨?_,h.ps _ (qf 0 a)⟩
 grind [dQ.cells,getD_at]
theorem dQ.DL (h:n.Ok) (hi:i<5):n.cells[8+i*1]?=some (.int .u16 (n.ws.getD i 0:Int))/\n.ws.getD i 0<65536:=by
 have a:i<abo n.ws:=by rw [h.wl];exact hi
 refine ⟨?_,h.ws _ (qf 0 a)⟩
 rw [ac0,show 8+i=(5+i)+3 by omega]
 rw [<-aeR]
 unfold dQ.cells
 dsimp only
 rw [adV,adV,adV,adP (by rw [abw,h.pl];omega),abw,h.pl,Nat.add_sub_cancel_left,acM,getD_at 0 a]
 rfl
def gG (ps ws:List Nat):Nat->List Gr×List Nat
 |0=>([⟨0,1⟩],[0])
 |i+1=>
  let q:=gG ps ws i
  let u:=ps.getD i 0%abo q.1
  let up:=if q.2.getD u 0=4 then 0 else u
  (q.1++[⟨(up:Int),((1+ws.getD i 0:Nat):Int)⟩],q.2++[q.2.getD up 0+1])
def qy3:∀(f g:Nat),g<abo gs->(∀i,0<i->i<=g->fq gs i)->jJ (gs++[x]) f g=jJ gs f g
 |0,_,_,_=>rfl
 | f + 1, g, b, a => by
  rw [jJ,jJ]
  split
  ·rfl
  ·rename_i d
   have c:=a g om (abu _)
   unfold fq at c
   rw [abt,adT b,<-abt]
   rw [qy3 f _ om (λi hi e=>a i hi om)]
theorem NZ {α:Type} {l:List α} {x d:α} {g:Nat} (a:g<abo l):(l++[x]).getD g d=l.getD g d:=by grind
theorem qtq {α:Type} {l:List α} {x d:α}:(l++[x]).getD (abo l) d=x:=by grind
structure jB (gs:List Gr) (ds:List Nat):Prop where
 len:abo ds=abo gs
 ok:dO gs=true
 dep:∀g,g<abo gs->ds.getD g 0=jh gs g
def qy4:jB [⟨0,1⟩] [0]:=⟨rfl,by decide,λg a=>by
 obtain rfl:g=0:=by simp at a;omega
 rfl⟩
theorem jB.le (h:jB gs ds) (b:g<abo gs):ds.getD g 0<=4:=by
 rw [h.dep g b]
 have a:=(qt h.ok).2.2.2 g b
 unfold qH at a
 rw [Bool.or_eq_true,beq_iff_eq,decide_eq_true_eq] at a
 rcases a with rfl|a
 ·exact abz _
 ·exact a.2.2.2
theorem jB.snoc {up w:Nat} (h:jB gs ds) (k:up<abo gs) (p:ds.getD up 0<4) (q:w<65536) (r:abo gs<256):jB (gs++[⟨(up:Int),((1+w:Nat):Int)⟩]) (ds++[ds.getD up 0+1]):=by
 obtain ⟨s,t,l,u⟩:=qt h.ok
 have a:abo (gs++[(⟨(up:Int),((1+w:Nat):Int)⟩:Gr)])=abo gs+1:=by rw [abq];rfl
 have m:∀g,g<abo gs->∀i,0<i->i<=g->fq gs i:=λg c=>yX h.ok c
 have b:∀g,g<abo gs->jh (gs++[⟨(up:Int),((1+w:Nat):Int)⟩]) g=jh gs g:=λg c=>qy3 g g c (m g c)
 have d:(gs++[(⟨(up:Int),((1+w:Nat):Int)⟩:Gr)]).getD (abo gs) Gr.zero=⟨(up:Int),((1+w:Nat):Int)⟩:=qtq
 have j:∀i,0<i->i<=abo gs->fq (gs++[⟨(up:Int),((1+w:Nat):Int)⟩]) i:=λi hi o=>by
  grind [fq,NZ]
 have e:jh (gs++[⟨(up:Int),((1+w:Nat):Int)⟩]) (abo gs)=ds.getD up 0+1:=by
  rw [Ru j om,d]
  show jh (gs++[⟨(up:Int),((1+w:Nat):Int)⟩]) ((up:Int)).toNat+1=_
  rw [abH,b up k,h.dep up k]
 refine ⟨by rw [abq,a,h.len];rfl,?_,λg c=>?_⟩
 ·unfold dO
  rw [a,NZ om,decide_eq_true ⟨by omega,by omega,l⟩,acn]
  refine vU λg c=>?_
  grind [qH,NZ,mo]
 ·rw [a] at c
  rcases ab6 g (abo gs) with f|f
  ·rw [NZ (by rw [h.len];exact f),b g f,h.dep g f]
  ·obtain rfl:g=abo gs:=by omega
   rw [e,<-h.len,qtq]
theorem q8e {ps ws:List Nat} (e:∀z∈ws,z<65536):∀i,i<=5->jB (gG ps ws i).1 (gG ps ws i).2/\(gG ps ws i).1.length=i+1
 |0,_=>⟨qy4,rfl⟩
 | i + 1, hi => by
  obtain ⟨a,f⟩:=q8e (ps:=ps) e i om
  have d:ps.getD i 0% (gG ps ws i).1.length<(gG ps ws i).1.length:=ad1 _ om
  have b:ws.getD i 0<65536:=by
   grind [qf]
  have j:(gG ps ws i).2.getD 0 0=0:=by rw [a.dep 0 om];rfl
  have key:∀up,up<(gG ps ws i).1.length->(gG ps ws i).2.getD up 0<4->jB ((gG ps ws i).1++[⟨(up:Int),((1+ws.getD i 0:Nat):Int)⟩]) ((gG ps ws i).2++[(gG ps ws i).2.getD up 0+1]):=λup h c=>a.snoc h c b om
  rw [gG]
  dsimp only
  refine ⟨?_,by rw [abq,f];rfl⟩
  by_cases c:(gG ps ws i).2.getD (ps.getD i 0% (gG ps ws i).1.length) 0=4
  ·grind
  ·rw [if_neg c];exact key _ d (by have:=a.le d;omega)
def qou {ps ws:List Nat} {u up:Nat} (b:gG ps ws i=(gs,ds)) (c:ps.getD i 0%abo gs=u) (a:(if ds.getD u 0=4 then 0 else u)=up):gG ps ws (i+1)=(gs++[⟨(up:Int),((1+ws.getD i 0:Nat):Int)⟩],ds++[ds.getD up 0+1]):=by
 rw [gG,b]
 dsimp only
 rw [c,a]
end
def dQ.gs (n:dQ):List Gr:=(gG n.ps n.ws (n.groups%6)).1
def dQ.cp (n:dQ):Nat:=1+n.au%4
theorem dQ.right {n:dQ} (h:n.Ok):dO n.gs=true/\abo n.gs=n.groups%6+1:=by
 have:=q8e (ps:=n.ps) h.ws (n.groups%6) om
 exact ⟨this.1.ok,this.2⟩
def bP.zero:bP:=⟨0,0,0,0,0,0,0,0⟩
def rX (x:bP):List aiN:=x.cells.toList
def zkl (x:bP):abo (rX x)=8:=rfl
theorem q8f (l:List bP):∀u∈l.flatMap rX,u.oneCell'=true:=by
 intro u a
 obtain ⟨x,_,b⟩:=acV.1 a
 exact zg0 x u b
structure jl where
 kind:Nat
 cpu:Nat
 task:Nat
 group:Nat
 to:Nat
 weight:Nat
 ticks:Nat
 mask:Nat
structure jl.Ok (x:jl):Prop where
 kind:x.kind<256
 cpu:x.cpu<256
 task:x.task<256
 group:x.group<256
 to:x.to<256
 weight:x.weight<65536
 ticks:x.ticks<4294967296
 mask:x.mask<256
def jl.zero:jl:=⟨0,0,0,0,0,0,0,0⟩
def jl.cells (x:jl):Array aiN:= #[.int .u8 (x.kind:Int),.int .u8 (x.cpu:Int),.int .u8 (x.task:Int),.int .u8 (x.group:Int),.int .u8 (x.to:Int),.int .u16 (x.weight:Int),.int .u32 (x.ticks:Int),.int .u8 (x.mask:Int)]
def zK (x:jl):List aiN:=x.cells.toList
def TP (x:jl):abo (zK x)=8:=rfl
def zkm (x:jl):∀v∈x.cells.toList,v.oneCell'=true:=by simp [jl.cells,abX]
def jR:List Nat:=[1,1,1,2,2,3,3,4,5,5,5,5,6,6,6,6,7,8,9,10]
def jl.Bd (x:jl):Nat:=if 0<x.mask%4 then (1*2^ (1+x.to%4)-1)|||1*2^ (x.cpu%4) else x.mask
def jl.op (x:jl):bP:=⟨jR.getD (x.kind%20) 0,((x.cpu%4:Nat):Int),((1+x.task%12:Nat):Int),((x.group%6:Nat):Int),((1+x.weight:Nat):Int),((x.to%4:Nat):Int),((1+x.ticks%16777216:Nat):Int),x.Bd⟩
def qy5 (h:k<20):(#[.int .u8 1,.int .u8 1,.int .u8 1,.int .u8 2,.int .u8 2,.int .u8 3,.int .u8 3,.int .u8 4,.int .u8 5,.int .u8 5,.int .u8 5,.int .u8 5,.int .u8 6,.int .u8 6,.int .u8 6,.int .u8 6,.int .u8 7,.int .u8 8,.int .u8 9,.int .u8 10]:Array aiN)[k]?=some (.int .u8 (jR.getD k 0:Int)):=by
 have:∀k,k<20->(#[.int .u8 1,.int .u8 1,.int .u8 1,.int .u8 2,.int .u8 2,.int .u8 3,.int .u8 3,.int .u8 4,.int .u8 5,.int .u8 5,.int .u8 5,.int .u8 5,.int .u8 6,.int .u8 6,.int .u8 6,.int .u8 6,.int .u8 7,.int .u8 8,.int .u8 9,.int .u8 10]:Array aiN)[k]?=some (.int .u8 (jR.getD k 0:Int)):=by
  intro k a
  match k,a with
  |0,_|1,_|2,_|3,_|4,_|5,_|6,_|7,_|8,_|9,_|10,_|11,_|12,_|13,_|14,_|15,_|16,_|17,_|18,_|19,_=>rfl
  |k+20,h=>omega
 exact this k h
def zee (k:Nat):jR.getD k 0<=10:=by
 rcases ab6 k 20 with h|h
 ·have:∀k,k<20->jR.getD k 0<=10:=by decide
  exact this k h
 ·rw [abt,adR h];decide
def zn3 {x:jl} (h:x.Ok):x.Bd<256:=by
 unfold jl.Bd
 split
 ·have a:2^ (1+x.to%4)<=2^4:=adq de om
  have b:2^ (x.cpu%4)<=2^3:=adq de om
  exact Nat.or_lt_two_pow (n:=8) om om
 ·exact h.mask
theorem jl.zpe {x:jl} (h:x.Ok):x.op.Ok:=by
 have a:=zee (x.kind%20)
 have b:=zn3 h
 have c:=h.weight
 refine ⟨?_,?_,?_,?_,?_,?_,?_,?_⟩
 ·show jR.getD (x.kind%20) 0<256;omega
 ·show aX ((x.cpu%4:Nat):Int);unfold aX;omega
 ·show aX ((1+x.task%12:Nat):Int);unfold aX;omega
 ·show aX ((x.group%6:Nat):Int);unfold aX;omega
 ·show aX ((1+x.weight:Nat):Int);unfold aX;omega
 ·show aX ((x.to%4:Nat):Int);unfold aX;omega
 ·show aX ((1+x.ticks%16777216:Nat):Int);unfold aX;omega
 ·show x.Bd<_;omega
def mQ (l:List jl) (most:Nat):List bP:=(l.take most).map jl.op
def q8g {l:List jl} {most:Nat} (h:∀x∈l,x.Ok):∀o∈mQ l most,o.Ok:=λo a=>by
 obtain ⟨x,b,rfl⟩:=ab7.1 a
 exact jl.zpe (h x (acG b))
def q8h:SI abp 100 13:=⟨by kernel_rfl,by kernel_rfl⟩
def zn4:EI abp 101 275 (.agg #[.int .u8 0,.int .u8 0,.int .u8 0,.int .u8 0,.int .u8 0,.int .u16 0,.int .u32 0,.int .u8 0]) 8 16:=⟨by kernel_rfl,by kernel_rfl,rfl,by omega⟩
def zg7:SI abp 275 8:=⟨by kernel_rfl,by kernel_rfl⟩
def zef (l:List jl) (m:Nat):abT .i64 (if ((m:Int)<(abo l:Int)) then (m:Int) else (abo l:Int))= .int .i64 ((abo (l.take m):Nat):Int):=by
 rw [abx]
 congr 1
 split<;>omega
def q8i {z:Nat} (h:z<=4):1*2^z<=18446744073709551615:=by
 have a:2^z<=2^4:=adq de h
 omega
def Bf (w:aiM) (cp:Int) (cr:Nat) (gs:List Gr) (r:aiQ) (a:aiM):Prop:=(∃A c,r= .returned (.agg #[vI cp,vQ cr,.slice A (abo gs) c])/\a.ownsRow w.heap.size 198 2 (.slice A (abo gs) c) (abo gs) (gs.flatMap fQ)/\abo gs<=c)/\Below w.heap.size w a
def zeg {cp:Int} {cr k c:Nat} {gs a:List Gr} (b:gs=a) (d:abo gs=k) (e:W.ownsRow w.heap.size 198 2 (.slice A k c) k (gs.flatMap fQ)) (hc:k<=c) (hb:Below w.heap.size w W):Bf w cp cr a (.returned (.agg #[vI cp,vQ cr,.slice A k c])) W:=by
 subst b
 subst d
 exact ⟨⟨A,c,rfl,e,hc⟩,hb⟩
abbrev air:=λa b c d e f g h i j k l m n=>(.blk a #[vI b,vQ c,.slice d e f] 44::.row g e h 198 2::.blk i #[vI 0,vQ 0,vN] j::.blk k l m::n:List aiX)
def q2q (n:dQ) (E:n.Ok) (w:aiM):
    Calls abp 100 #[.agg n.cells] w (Bf w (n.cp:Int) n.aj n.gs):=by
 have ao9:=E.aj;have apa:=E.au;have apb:=E.groups
 refine (fE Tryz.func100 63) ?_
 refine (JP∘JE) λw1 g1=>(JA #[vI 0,vQ 0,vN]) λw2 G=>(Jr∘Jg 0 O1∘Jw .i64∘Jp 1∘Jo (vI (n.au%4:Nat)) (by exact zi .i64 _ 4)∘Jp 1∘Jo (vI (1+(n.au%4):Nat)) (by exact zc om om)∘Jg 2 O1∘Jw .u64∘fD #[vI 0,vI 1]∘JU jv #[vI 0,vI 1]) λw16 s=>(fD #[vI (1+(n.au%4):Nat),vQ n.aj,vS s 1 1]∘JA #[vI 0,vQ 0,vN]) λw3 H=>(JV yV aO) λS=>(aJ∘Jr∘JU j6 #[vI 0]) λxW J=>(Jp 1∘aL∘Jq∘JC (h:=by exact λb=>b.fU (i:=2) (n:=1) (size:=2) rfl rfl de)∘JC (h:=by exact λb=>b.fU (i:=0) (n:=1) (size:=1) rfl rfl de)∘JC (h:=by exact λb=>(show Mem w _ [.row (vS J 1 1) 1 ([0].map bL) 3 1,.blk H #[vI (1+(n.au%4):Nat),vQ n.aj,vS s 1 1] 44,.row (vS s 1 1) 1 ([(⟨0,1⟩:Gr)].flatMap fQ) 198 2,.blk G #[vI 0,vQ 0,vN] 44,.blk g1 n.cells 100] from b))∘JG∘JQ∘JP∘Jg 1 O4∘Jw .i64∘Jp 1∘Jo (vI (n.groups%6:Nat)) (by exact zi .i64 _ 6)∘bM 1∘JB) λa Z b=>?_
 refine qg (λmS aS wS=>∃(i:Nat) (gs:List Gr) (c:List Nat) (X:aiW) (F:Nat) (Y:aiW) (Q:Nat),(i<=n.groups%6)/\(gG n.ps n.ws i=(gs,c))/\(jB gs c)/\(abo gs=i+1)/\(abo c=i+1)/\(i+1<=F)/\(i+1<=Q)/\mS=n.groups%6-i/\Fr aS 63 [] (ahY 23 i 22 (n.groups%6:Nat) [(4,.slice Y (i+1) Q),(3,vP H 0),(2,vP G 0),(1,vP g1 0)])/\Mem w wS (.row (.slice Y (i+1) Q) (i+1) (c.map bL) 3 1::air H (1+(n.au%4):Nat) n.aj X (i+1) F (.slice X (i+1) F) (gs.flatMap fQ) G 44 g1 n.cells 100 [])) (m:=n.groups%6-0) ⟨0,[⟨0,1⟩],[0],(some ⟨s,0,none⟩),1,(some ⟨J,0,none⟩),1,abz _,rfl,qy4,rfl,rfl,abu _,abu _,rfl,Z.sub kr,b.pk [0,1,2,3,4]⟩ ?_
 clear Z b;rintro mS a w_ ⟨i,gs,c,X,F,Y,Q,hi,T,x,A,K,U,hyc,rfl,Z,b⟩
 refine Jb Z b ((dh 1∘JQ) (Ji (λL=>?_) λL=>?_))
 ·
  have M:i<5:=by omega
  have hpv:=(dQ.J6 E M).2
  have N:=(dQ.DL E M).2
  obtain ⟨u,R⟩:∃u,n.ps.getD i 0%abo gs=u:=⟨_,rfl⟩
  have V:u<abo gs:=by rw [<-R];exact ad1 _ om
  have hdu:=x.le V
  obtain ⟨up,B⟩:∃z,(if c.getD u 0=4 then 0 else u)=z:=⟨_,rfl⟩
  refine (eY∘aM 2∘aL∘Jj) λa Z b=>?_
  refine wp_seq ?_
  refine Jb Z b ((Vs .n []) λGV=>(Vp [0]∘Vf 1 3∘Vf 5 2∘Vy 2 (v:=vP g1 (3+i*1)) (h:=by exact (Yl.tL (ad:=⟨g1,3,none⟩) (m:=5) (y:=i) (sz:=1) rfl rfl rfl kr om).as (by rw [acI]))∘Vy 3 (v:=vB (n.ps.getD i 0)) (h:=by exact Pd rfl rfl kr (λ_ h=>h.cell (i:=4) rfl (dQ.J6 E om).1))∘Vw 4 .i64∘Vc 6 O1∘Vl 7∘Vy 8 (v:=vI ((n.ps.getD i 0)% (i+1):Nat)) (h:=by exact aax (m:=(n.ps.getD i 0)) (n:=(i+1)) rfl rfl rfl om)∘Vo (vI u) (by rw [<-R,A])∘Vp [9]∘Vd∘aJ∘bN 2) ?_)
  repeat (first|clear Z|clear b)
  intro a Z b
  obtain ⟨gY,rfl⟩:=b.rat 0 u
  refine Jb Z b ((nG u 1∘Jy (h:=by exact aae 0 u 0 om rfl rfl rfl)∘Jp 1∘fJ∘Jj) (Je (λO=>?_) λO=>?_))
  ·
   have d:up=0:=by rw [<-B,if_pos om]
   have W:c.getD 0 0=0:=by rw [x.dep 0 om];rfl
   have l:up<abo gs:=by omega
   have o:c.getD up 0<4:=by rw [d,W];decide
   refine (JT∘JR∘Jp 1∘Jq∘Jk 6 (vI up) (h:=by rw [d];try rfl)∘JG∘aM 3∘nG up 1∘Jy (h:=by exact aae 0 up 0 om rfl rfl rfl)∘dA 1∘JU j6 #[vI ((c.getD up 0)+1:Nat)]) λEB p=>(JD ([c.getD up 0+1].map bL) 1 (λ_ _=>gu) j6 (hr:=by exact λb=>b.bB (i:=0) (n:=1) (size:=1) rfl rfl) (h1:=by simp [abX,bL])) λw47 e g q=>(Jp 1∘aJ∘Jq∘JC (h:=by exact λb=>b.dG (i:=1) (ys:=(c++[c.getD up 0+1]).map bL) rfl (by rw [abZ]))∘JC (h:=by exact λb=>(show Mem w _ (ahU p ((c.getD up 0)+1:Nat)::.row (.slice e ((i+1)+1) g) ((i+1)+1) ((c++[c.getD up 0+1]).map bL) 3 1::air H (1+(n.au%4):Nat) n.aj X (i+1) F (.slice X (i+1) F) (gs.flatMap fQ) G 44 g1 n.cells 100 []) from b))∘JG∘Vs (.t (.t (.t (.f .n)))) [13]) λP=>(Vf 0 2∘Vp [2,3]∘Vf 4 8∘Vc 1 O2∘Vy 5 (v:=vP g1 (8+i*1)) (h:=by exact (Yl.tL (ad:=⟨g1,8,none⟩) (m:=5) (y:=i) (sz:=1) rfl rfl rfl kr om).as (by rw [acI]))∘Vy 6 (v:= .int .u16 (n.ws.getD i 0)) (h:=by exact Pd rfl rfl kr (λ_ h=>h.cell (i:=4) rfl (dQ.DL E om).1))∘Vw 7 .i64∘Vp [8]∘Vo (vI (1+(n.ws.getD i 0):Nat)) (by exact zc om om)∘Vy 9 (v:= .agg #[vI up,vI (1+(n.ws.getD i 0):Nat)]) (h:=by exact Yl.build (vs:=(ahY 0 up 1 (1+(n.ws.getD i 0):Nat) [])) rfl kr kr)) λa Z b C=>?_
   refine s_on Z 10 rfl (jA Z b jv [(0,.agg #[vI up,vI (1+(n.ws.getD i 0):Nat)])] #[vI up,vI (1+(n.ws.getD i 0):Nat)] ?_)
   clear Z b;intro a GY I Z b
   refine av (b.pk [1,2,3,5,6]) (λC=>?_)
   refine s_on Z 11 rfl (rO Z b (i:=4) rfl jv rfl rfl rfl (news:=([(⟨(up:Int),((1+n.ws.getD i 0:Nat):Int)⟩:Gr)].flatMap fQ)) (b.bB (i:=0) (n:=1) (size:=2) rfl rfl) (Iw _) om om rfl de ?_)
   clear Z b;intro a TQ j k Z b r
   refine av (b.pk [1,2,3,5,6]) (λC=>?_)
   refine Vb Z b C ((Vf 12 2) λa Z b C=>?_)
   refine s_on Z 13 rfl (eO Z b 3 λD b=>?_)
   refine dU kr ?_
   refine qe kr ?_
   replace b:=b.dG (i:=4) (ys:=(gs++[(⟨(up:Int),((1+n.ws.getD i 0:Nat):Int)⟩:Gr)]).flatMap fQ) rfl (by rw [ab1])
   replace b:Mem w _ (.blk I #[vI up,vI (1+(n.ws.getD i 0):Nat)] 198::ahU p ((c.getD up 0)+1:Nat)::.row (.slice e ((i+1)+1) g) ((i+1)+1) ((c++[c.getD up 0+1]).map bL) 3 1::air H (1+(n.au%4):Nat) n.aj j ((i+1)+1) k (.slice j ((i+1)+1) k) ((gs++[(⟨(up:Int),((1+n.ws.getD i 0:Nat):Int)⟩:Gr)]).flatMap fQ) G 44 g1 n.cells 100 []):=b
   refine Jb Z b ((JG∘JR∘dA 1∘Jp 1∘aJ∘Jq) λa Z b=>?_)
   exact ⟨_,om,i+1,(gs++[(⟨(up:Int),((1+n.ws.getD i 0:Nat):Int)⟩:Gr)]),(c++[c.getD up 0+1]),j,k,e,g,by omega,qou T R B,x.snoc l o N om,by rw [abq,A];rfl,by rw [abq,K];rfl,r,q,rfl,Z.sub kr,b.pk [2,3,4,5,6]⟩
  have d:up=u:=by rw [<-B,if_neg om]
  have l:up<abo gs:=by omega
  have o:c.getD up 0<4:=by rw [d];omega
  refine (Jk 6 (vI up) (h:=by rw [d])∘aQ∘aM 3∘nG up 1∘Jy (h:=by exact aae 0 up 0 om rfl rfl rfl)∘dA 1∘JU j6 #[vI ((c.getD up 0)+1:Nat)]) λEB p=>(JD ([c.getD up 0+1].map bL) 1 (λ_ _=>gu) j6 (hr:=by exact λb=>b.bB (i:=0) (n:=1) (size:=1) rfl rfl) (h1:=by simp [abX,bL])) λw47 e g q=>(Jp 1∘aJ∘Jq∘JC (h:=by exact λb=>b.dG (i:=1) (ys:=(c++[c.getD up 0+1]).map bL) rfl (by rw [abZ]))∘JC (h:=by exact λb=>(show Mem w _ (ahU p ((c.getD up 0)+1:Nat)::.row (.slice e ((i+1)+1) g) ((i+1)+1) ((c++[c.getD up 0+1]).map bL) 3 1::air H (1+(n.au%4):Nat) n.aj X (i+1) F (.slice X (i+1) F) (gs.flatMap fQ) G 44 g1 n.cells 100 []) from b))∘JG∘Vs (.t (.t (.t (.f .n)))) [13]) λP=>(Vf 0 2∘Vp [2,3]∘Vf 4 8∘Vc 1 O2∘Vy 5 (v:=vP g1 (8+i*1)) (h:=by exact (Yl.tL (ad:=⟨g1,8,none⟩) (m:=5) (y:=i) (sz:=1) rfl rfl rfl kr om).as (by rw [acI]))∘Vy 6 (v:= .int .u16 (n.ws.getD i 0)) (h:=by exact Pd rfl rfl kr (λ_ h=>h.cell (i:=4) rfl (dQ.DL E om).1))∘Vw 7 .i64∘Vp [8]∘Vo (vI (1+(n.ws.getD i 0):Nat)) (by exact zc om om)∘Vy 9 (v:= .agg #[vI up,vI (1+(n.ws.getD i 0):Nat)]) (h:=by exact Yl.build (vs:=(ahY 0 up 1 (1+(n.ws.getD i 0):Nat) [])) rfl kr kr)) λa Z b C=>?_
  refine s_on Z 10 rfl (jA Z b jv [(0,.agg #[vI up,vI (1+(n.ws.getD i 0):Nat)])] #[vI up,vI (1+(n.ws.getD i 0):Nat)] ?_)
  clear Z b;intro a GY I Z b
  refine av (b.pk [1,2,3,5,6]) (λC=>?_)
  refine s_on Z 11 rfl (rO Z b (i:=4) rfl jv rfl rfl rfl (news:=([(⟨(up:Int),((1+n.ws.getD i 0:Nat):Int)⟩:Gr)].flatMap fQ)) (b.bB (i:=0) (n:=1) (size:=2) rfl rfl) (Iw _) om om rfl de ?_)
  clear Z b;intro a TQ j k Z b r
  refine av (b.pk [1,2,3,5,6]) (λC=>?_)
  refine Vb Z b C ((Vf 12 2) λa Z b C=>?_)
  refine s_on Z 13 rfl (eO Z b 3 λD b=>?_)
  refine dU kr ?_
  refine qe kr ?_
  replace b:=b.dG (i:=4) (ys:=(gs++[(⟨(up:Int),((1+n.ws.getD i 0:Nat):Int)⟩:Gr)]).flatMap fQ) rfl (by rw [ab1])
  replace b:Mem w _ (.blk I #[vI up,vI (1+(n.ws.getD i 0):Nat)] 198::ahU p ((c.getD up 0)+1:Nat)::.row (.slice e ((i+1)+1) g) ((i+1)+1) ((c++[c.getD up 0+1]).map bL) 3 1::air H (1+(n.au%4):Nat) n.aj j ((i+1)+1) k (.slice j ((i+1)+1) k) ((gs++[(⟨(up:Int),((1+n.ws.getD i 0:Nat):Int)⟩:Gr)]).flatMap fQ) G 44 g1 n.cells 100 []):=b
  refine Jb Z b ((JG∘JR∘dA 1∘Jp 1∘aJ∘Jq) λa Z b=>?_)
  exact ⟨_,om,i+1,(gs++[(⟨(up:Int),((1+n.ws.getD i 0:Nat):Int)⟩:Gr)]),(c++[c.getD up 0+1]),j,k,e,g,by omega,qou T R B,x.snoc l o N om,by rw [abq,A];rfl,by rw [abq,K];rfl,r,q,rfl,Z.sub kr,b.pk [2,3,4,5,6]⟩
 have hie:i=n.groups%6:=by omega
 have hgs:gs=n.gs:=by unfold dQ.gs;rw [<-hie,T]
 refine (JF∘JX∘JG∘JP∘eH yV O1∘JV yV og) λacd=>(mJ∘aP) λa Z b=>?_
 exact iV rfl Z (.cellS (i:=3) Z b rfl rfl yV rfl) (zeg hgs A (b.own (i:=2) rfl) U b.below)
def aa6 {α:Type} {l:List α} {m:Nat}:l.take (min m (abo l))=l.take m:=by
 rcases Nat.le_total m (abo l) with h|h
 ·rw [ac4 h]
 ·rw [agV h,adv,abL h]
def qov (l:List jl) (most:Nat):abo (mQ l most)=abo (l.take most):=abw ..
def q8j {e:aiP} {q a:List bP} (h:q=a) (b:abo q=n) (d:W.ownsRow w.heap.size e 8 (.slice A n c) n (q.flatMap rX)) (hc:n<=c) (hb:Below w.heap.size w W):DJ w e 8 (abo a) (a.flatMap rX) (.returned (.slice A n c)) W:=by
 subst h
 subst b
 exact ⟨⟨A,c,rfl,d,hc⟩,hb⟩
abbrev aiv:=λa=>((5,vB 3)::(6,vB 3)::(7,vB 4)::(8,vB 5)::(9,vB 5)::(10,vB 5)::(11,vB 5)::(12,vB 6)::(13,vB 6)::(14,vB 6)::(15,vB 6)::(16,vB 7)::(17,vB 8)::(18,vB 9)::(19,vB 10)::a:List (Nat×aiN))
abbrev aiC:=λa b c d e f g h i j k l m n o p=>(.blk a #[vB (jR.getD (b%20) 0),vI (c%4:Nat),vI (1+(d%12):Nat),vI (e%6:Nat),vI (1+f:Nat),vI (g%4:Nat),vI (1+(h%16777216):Nat),vQ i] 214::.blk j k 275::.row (.slice l (m+1) n) (m+1) o 214 8::p:List aiX)
abbrev aiJ:Array aiN:=#[vB 1,vB 1,vB 1,vB 2,vB 2,vB 3,vB 3,vB 4,vB 5,vB 5,vB 5,vB 5,vB 6,vB 6,vB 6,vB 6,vB 7,vB 8,vB 9,vB 10]
def q2r (A:aiW) (c:Nat) (l:List jl) (most:Nat) (w:aiM) (Y:∀x∈l,x.Ok) (hr:Rd w w.heap.size 8 A (abo l) (l.flatMap zK)) (hc:abo l<=c) (hn:abo l<=9223372036854775807) (hm:most<=1000):
    Calls abp 101 #[abl A l c,vI most] w (DJ w 214 8 (abo (mQ l most)) ((mQ l most).flatMap rX)):=by
 have J:abo (l.take most)<=most/\abo (l.take most)<=abo l:=by rw [abx];omega
 have r:Rd w w.heap.size 8 A (abo (l.take most)) ((l.take most).flatMap zK):=by have h:=hr.upto (k:=abo (l.take most)) om;rw [Zi zK 8 TP,abx,aa6] at h;rw [abx];exact h
 have C:∀x∈l.take most,x.Ok:=λx B=>Y x (acG B)
 obtain ⟨e,p⟩:∃z,l.take most=z:=⟨_,rfl⟩
 rw [p] at r J C
 refine (iP Tryz.func101 79) ?_
 refine (aM 1∘bg 1∘Jq∘JC (h:=by exact λb=>b.nil 214 8)∘JG∘bN 2∘Jl∘Jp 1∘Jy (v:=vI (if (most:Int)<(abo l:Int) then (most:Int) else (abo l:Int))) (h:=by exact Yl.min rfl rfl rfl)∘Jo (vI (abo e)) (by rw [<-p];exact zef l most)∘Jy (h:=by exact aah zn4 (j:=abo e) rfl rfl rfl om)∘Jl∘bM 1∘JB) λa Z b=>?_
 refine qg (λR aS wS=>∃(k:Nat) (q:List bP) (X:aiW) (I:Nat),(k<=abo e)/\(q=(e.take k).map jl.op)/\(k<=I)/\R=abo e-k/\Fr aS 79 [] (ahY 16 k 15 (abo e) [(14,abl A e c),(5,.slice X k I),(4,vN)])/\Mem w wS [.row (.slice X k I) k (q.flatMap rX) 214 8]) (m:=abo e-0) ⟨0,[],none,0,abz _,rfl,abu _,rfl,Z.sub kr,b.pk [0]⟩ ?_
 clear Z b;rintro R a w_ ⟨k,q,X,I,hk,K,L,rfl,Z,b⟩
 refine Jb Z b ((dh 1∘JQ) (Ji (λD=>?_) λD=>?_))
 ·
  have s:k<abo e:=by omega
  obtain ⟨x,B⟩:∃z,e.getD k jl.zero=z:=⟨_,rfl⟩
  have d:x.Ok:=by rw [<-B];exact C _ (qf jl.zero s)
  have hx1:=d.kind;have hx2:=d.cpu;have hx3:=d.task;have hx4:=d.group;have hx5:=d.to;have hx6:=d.weight;have hx7:=d.ticks;have hx8:=d.mask
  have hp1:1<=2^ (1+x.to%4):=Nat.one_le_two_pow
  have M:=q8i (show 1+x.to%4<=4 by omega)
  have N:=q8i (show x.cpu%4<=4 by omega)
  refine (eY∘JP) ?_
  obtain ⟨gA,oA,rfl,_⟩:=r.sat k
  refine (iC k 8∘qD jl.cells TP r zg7 k jl.zero∘Jo (.agg x.cells) (by rw [B])∘JA #[vB 0,vB 0,vB 0,vB 0,vB 0,.int .u16 0,vW 0,vB 0]) λw7 S=>(JV zg7 aO (h1:=by exact zkm x)) λT=>(bU∘Jr∘Jg 1 O0∘Jw .i64∘Jp 1∘Jo (vI (x.cpu%4:Nat)) (by exact zi .i64 _ 4)∘Jg 2 O0∘Jw .i64∘Jp 1∘Jo (vI (x.task%12:Nat)) (by exact zi .i64 _ 12)∘Jp 1∘Jo (vI (1+(x.task%12):Nat)) (by exact zc om om)∘Jg 3 O0∘Jw .i64∘Jp 1∘Jo (vI (x.group%6:Nat)) (by exact zi .i64 _ 6)∘Jg 4 O0∘Jw .i64∘Jp 1∘Jo (vI (x.to%4:Nat)) (by exact zi .i64 _ 4)∘Jg 5 O0∘Jw .i64∘Jp 1∘Jo (vI (1+x.weight:Nat)) (by exact zc om om)∘Jg 6 O0∘Jp 1∘Jo (vW (x.ticks%16777216:Nat)) (by exact zi .u32 _ 16777216)∘Jw .i64∘Jp 1∘Jo (vI (1+(x.ticks%16777216):Nat)) (by exact zc om om)∘Jg 7 O0∘Jw .u64∘fD #[vB 0,vI (x.cpu%4:Nat),vI (1+(x.task%12):Nat),vI (x.group%6:Nat),vI (1+x.weight:Nat),vI (x.to%4:Nat),vI (1+(x.ticks%16777216):Nat),vQ x.mask]∘JA #[vB 0,vI 0,vI 0,vI 0,vI 0,vI 0,vI 0,vQ 0]) λw8 U=>(JV mW aO) λO=>(aJ∘Jj∘JQ∘JP∘Jg 7 O1∘Jp 1∘Jo (vB (x.mask%4:Nat)) (by exact zi .u8 _ 4)∘Jp 1∘bU∘Jj) (Ji (λE=>?_) λE=>?_)
  ·
   have t:x.Bd=(1*2^ (1+x.to%4)-1)|||1*2^ (x.cpu%4):=by unfold jl.Bd;rw [if_pos om]
   refine (JT∘JP∘Jg 5 O0∘Jp 1∘Jo (vI (1+(x.to%4):Nat)) (by exact zc om om)∘Jy (v:=vQ (1*2^ (1+(x.to%4)):Nat)) (h:=by exact aaC (m:=1) (n:=(1+(x.to%4))) rfl rfl rfl (by show _<=64;omega) (M))∘Al 1∘Jf 7∘JW aO vE) λV=>(qC∘Jj∘Vs .n [7]) λNP=>(Vf 0 7∘Vf 2 1∘Vc 1 O0∘Vc 3 O0∘Vy 4 (v:=vQ (1*2^ (x.cpu%4):Nat)) (h:=by exact aaC (m:=1) (n:=(x.cpu%4)) rfl rfl rfl (by show _<=64;omega) (N))∘Vp [5]∘Vo (vQ ((1*2^ (1+(x.to%4))-1)|||(1*2^ (x.cpu%4)):Nat)) (by exact Xu (m:=1*2^ (1+(x.to%4))-1) (n:=1*2^ (x.cpu%4)) om om)∘Vf 6 7) λa Z b HS=>?_
   refine s_on Z 7 rfl (eO Z b 0 λW b=>?_)
   refine dU kr ?_
   refine qe kr ?_
   refine Jb Z b ((JG∘JP∘Jy (v:= .agg aiJ) (h:=by exact aas (n:=20) (sz:=1) (vs:=((0,vB 1)::(1,vB 1)::(2,vB 1)::(3,vB 2)::(4,vB 2)::aiv [])) rfl rfl kr kr)∘Jg 0 O1∘Jp 1∘Jo (vB (x.kind%20:Nat)) (by exact zi .u8 _ 20)∘Jy (v:=vB (jR.getD (x.kind%20) 0)) (h:=by exact Yl.zh3 (m:=20) (y:=x.kind%20) rfl rfl rfl kr om (qy5 om))∘Jf 0∘JW aO aO) λF=>(iZ∘Jj∘JR∘Jp 1∘Jy (v:= .agg #[vB (jR.getD (x.kind%20) 0),vI (x.cpu%4:Nat),vI (1+(x.task%12):Nat),vI (x.group%6:Nat),vI (1+x.weight:Nat),vI (x.to%4:Nat),vI (1+(x.ticks%16777216):Nat),vQ ((1*2^ (1+(x.to%4))-1)|||(1*2^ (x.cpu%4)):Nat)]) (h:=by exact Pe rfl rfl mW rfl (λ_ h=>qj (h.blk (i:=0) rfl)))∘Jo (.agg x.op.cells) (by unfold bP.cells jl.op;rw [t];try rfl)∘JU sP x.op.cells) λP u=>(JD ([x.op].flatMap rX) 3 (λ_ _=>og) sP (hr:=by exact λb=>b.bB (i:=0) (n:=1) (size:=8) rfl rfl) (h1:=by exact q8f _)) λQ f g o=>(Jp 1∘aJ∘Jq∘JC (h:=by exact λb=>b.dG (i:=3) (ys:=(q++[x.op]).flatMap rX) rfl (by rw [ab1]))∘JC (h:=by exact λb=>(show Mem w _ (.blk u x.op.cells 214::aiC U x.kind x.cpu x.task x.group x.weight x.to x.ticks ((1*2^ (1+(x.to%4))-1)|||(1*2^ (x.cpu%4)):Nat) S x.cells f k g ((q++[x.op]).flatMap rX) []) from b))∘JG∘JR∘dA 1∘Jp 1∘aL∘Jq) λa Z b=>?_)
   exact ⟨_,om,k+1,(q++[x.op]),f,g,by omega,by rw [K,qc6 jl.zero s,B,abZ];rfl,o,rfl,Z.sub kr,b.pk [3]⟩
  have t:x.Bd=x.mask:=by unfold jl.Bd;rw [if_neg om]
  refine (aQ∘JP∘Jy (v:= .agg aiJ) (h:=by exact aas (n:=20) (sz:=1) (vs:=((0,vB 1)::(1,vB 1)::(2,vB 1)::(3,vB 2)::(4,vB 2)::aiv [])) rfl rfl kr kr)∘Jg 0 O1∘Jp 1∘Jo (vB (x.kind%20:Nat)) (by exact zi .u8 _ 20)∘Jy (v:=vB (jR.getD (x.kind%20) 0)) (h:=by exact Yl.zh3 (m:=20) (y:=x.kind%20) rfl rfl rfl kr om (qy5 om))∘Jf 0∘JW aO aO) λF=>(qC∘Jj∘JR∘Jp 1∘eH mW O0∘Jo (.agg x.op.cells) (by unfold bP.cells jl.op;rw [t];try rfl)∘JU sP x.op.cells) λP u=>(JD ([x.op].flatMap rX) 3 (λ_ _=>og) sP (hr:=by exact λb=>b.bB (i:=0) (n:=1) (size:=8) rfl rfl) (h1:=by exact q8f _)) λQ f g o=>(Jp 1∘fJ∘Jq∘JC (h:=by exact λb=>b.dG (i:=3) (ys:=(q++[x.op]).flatMap rX) rfl (by rw [ab1]))∘JC (h:=by exact λb=>(show Mem w _ (.blk u x.op.cells 214::aiC U x.kind x.cpu x.task x.group x.weight x.to x.ticks x.mask S x.cells f k g ((q++[x.op]).flatMap rX) []) from b))∘JG∘JR∘dA 1∘Jp 1∘aL∘Jq) λa Z b=>?_
  exact ⟨_,om,k+1,(q++[x.op]),f,g,by omega,by rw [K,qc6 jl.zero s,B,abZ];rfl,o,rfl,Z.sub kr,b.pk [3]⟩
 have G:k=abo e:=by omega
 have H:q=mQ l most:=by rw [K,G,adv,<-p];rfl
 exact (JF∘JX∘JG∘aM 2∘aL∘aP∘aW) λb=>q8j H (by rw [H,qov,p,<-G]) (b.own (i:=0) rfl) L b.below
def zeh (b:o.Ok) (h:GoodS s):GoodS (sM s o).1:=by
 by_cases a:(dL s o).2.2=0
 ·rw [TN a];exact (SE b h a).rise
 ·rw [TM a];exact h
theorem zei (a:o.Ok) (h:GoodS s) (hr:lu s=true):lu (sM s o).1=true:=by grind [TM,TN,q17,dL,SE]
def zej {cp:Int} {gs:List Gr} (h1:1<=cp/\cp<=64) (u:cr<=1099511627776) (s:dO gs=true) (v:∀g∈gs,g.Ok):GoodS (newS cp cr gs)/\lu (newS cp cr gs)=true:=by
 obtain ⟨c,rfl⟩:∃c:Nat,cp=(c:Int):=⟨cp.toNat,by omega⟩
 have m:∀g,g<abo gs->(newS (c:Int) cr gs).sp.getD g []=abD c Sp.zero:=λg a=>by
  show (abD (abo gs) (abD ((c:Int)).toNat Sp.zero)).getD g []=_
  rw [abt,af3,if_pos a]
  rfl
 have k:∀g o,(newS (c:Int) cr gs).spot g o=Sp.zero:=λg o=>by
  unfold bH.spot
  rcases ab6 g (abo gs) with a|a
  ·rw [m g a,abt,af3]
   split<;>rfl
  ·rw [show (newS (c:Int) cr gs).sp.getD g []=[] by
    show (abD (abo gs) _).getD g []=_
    rw [abt,adR (by rw [ab9];exact a)];rfl]
   rfl
 have hz:(Sp.zero).Ok:=⟨by decide,by decide,by decide⟩
 have e:(newS (c:Int) cr gs).sp.length=abo gs:=ab9 ..
 have b:GoodS (newS (c:Int) cr gs):=by
  refine ⟨⟨⟨by show aX (c:Int);unfold aX;omega,by show cr<_;omega,v,λx f=>?_,λx f=>?_,λx f=>(by cases f),λl w x f=>?_⟩,h1,u,s,?_,?_,e,λo p=>?_,λg a=>?_,λg o a _=>?_,λi j _ y=>absurd y (Nat.not_lt_zero _),λt ht=>(by cases ht)⟩,λd q=>?_⟩
  ·rw [acX f];unfold aX;decide
  ·rw [acX f];unfold aX;decide
  ·rw [acX w] at f
   rw [acX f];exact hz
  ·show (abo (abD ((c:Int)).toNat (0:Int)):Int)=(c:Int);rw [ab9];rfl
  ·show (abo (abD ((c:Int)).toNat (0:Int)):Int)=(c:Int);rw [ab9];rfl
  ·have:(newS (c:Int) cr gs).cl.getD o 0=0:=acX (qf 0 p)
   rw [this];decide
  ·rw [e] at a;rw [m g a,ab9];rfl
  ·rw [k]
   rw [e] at a
   unfold eZ
   have r:=qI s a
   rw [abG]
   refine ⟨?_,by simp [Sp.zero]⟩
   unfold cB
   rw [decide_eq_true_eq]
   exact ⟨r.1,r.2,by show ((0:Nat):Int)<_;have:=r.1;show (0:Int)<(gs.getD g Gr.zero).weight;omega,.inr rfl⟩
  ·exact .inl (acX (qf 0 q))
 refine ⟨b,?_⟩
 unfold lu
 rw [(ND b.sh.ok).2 b.sh,acn]
 refine vU λd q=>?_
 rw [(NG b.sh.sort).2 b.cur d q,acn]
 refine vU λg a=>?_
 have hm:aU (newS (c:Int) cr gs) g d=[]:=by
  have key:∀n g,abo gs-g<=n->aU (newS (c:Int) cr gs) g d=[]:=by
   intro n
   induction n with
   |zero=>
    intro g a
    rw [M8,e,acs (by rw [List.length_range];omega)]
    rfl
   |succ n z=>
    intro g a
    rw [M8,show (newS (c:Int) cr gs).ts=[] from rfl]
    rw [List.filterMap_nil,List.nil_append,List.filterMap_eq_nil_iff]
    intro h A
    obtain ⟨i,hi,rfl⟩:=acp A
    rw [List.getElem_drop,List.getElem_range]
    unfold lH
    rw [if_neg]
    rintro ⟨_,B⟩
    exact absurd (z (g+1+i) om) (by simpa using B)
  exact key _ g (abu _)
 unfold kR
 rw [decide_eq_true_eq]
 exact .inl hm
def zkn {cp:Int} {gc:Nat} {gs:List Gr} (h:(⟨cp,cr,gA,gc,gs,none,0,[],none,0,[],none,0,[],none,0,[]⟩:aF).ay.Ok/\abo gs<=1000000/\gK (⟨cp,cr,gA,gc,gs,none,0,[],none,0,[],none,0,[],none,0,[]⟩:aF).ay=true) (hr:Rd w w.heap.size 2 gA (abo gs) (gs.flatMap fQ)):Calls abp 99 #[.agg #[vI cp,vQ cr,.slice gA (abo gs) gc]] w (zg5 w (newS cp cr gs)):=
 (zkk cp cr gA gc gs w h.1 h.2.1 hr).mono λr a k=>by unfold oF at k;rwa [if_pos h.2.2] at k
def zko {cp:Int} {gA:aiW} {gc:Nat} {gs:List Gr} (h1:1<=cp/\cp<=64) (c:cr<=1099511627776) (b:dO gs=true) (d:∀g∈gs,g.Ok):(⟨cp,cr,gA,gc,gs,none,0,[],none,0,[],none,0,[],none,0,[]⟩:aF).ay.Ok/\abo gs<=1000000/\gK (⟨cp,cr,gA,gc,gs,none,0,[],none,0,[],none,0,[],none,0,[]⟩:aF).ay=true:=by
 have f:=(qt b).2.1
 refine ⟨⟨by show aX cp;unfold aX;omega,by show cr<_;omega,d,λx a=>(by cases a),λx a=>(by cases a),λx a=>(by cases a),λl e=>(by cases e)⟩,by omega,?_⟩
 unfold gK
 rw [abG,decide_eq_true_eq]
 exact ⟨⟨h1.1,h1.2,c⟩,b⟩
section
variable {W w:aiM} {F T:List aiX} {x:aF} {gm:Nat}
def TR (n:Nat) (b:Mem W w F) (c:F.drop n=mX gm x++T) (a:GoodS x.ay) {o:bP} (d:o.Ok):Calls abp 102 #[vP gm 0,.agg o.cells] w (kK W gm (F.take n++T) (sM x.ay o)):=
 zeb W w x gm _ _ _ _ _ (NH a.sh) a o d _ (b.front n c)
def zkp (n:Nat) (a:Mem W w F) (b:F.drop n=mX gm x++T) (c:GoodS x.ay):Calls abp 103 #[vP gm 0] w (q79 w x):=
 q8d x gm w (NH c.sh).few (a.J5 n b) (a.DK n b)
end
section
variable {W w w':aiM} {F T A B G:List aiX} {x y:aF} {gm:Nat} {s:bH}
theorem Mem.wN (n:Nat) (h:Mem W w F) (k:Mem w w' G) (b:F.drop n=T):Mem W w' (F.take n++(G++T)):=by
 have a:=h.qM k
 rw [<-ab8 n F,b,abv] at a
 exact a.perm (List.Perm.append_left _ List.perm_append_comm)
def TS (n:Nat) (a:Mem W w F) (b:F.drop n=mX gm x++T) (hs:x.ay=s) (c:GoodS s) {o:bP} (d:o.Ok):Calls abp 102 #[.pointer (some ⟨gm,0,none⟩),.agg o.cells] w (kK W gm (F.take n++T) (sM s o)):=by
 subst hs
 exact TR n a b c d
def J7 (w:aiM) (s:bH) (r:aiQ) (w':aiM):Prop:=∃y:aF,r= .returned (.tuple #[.agg y.cells,.int .i64 0])/\y.ay=s/\gD y/\Mem w w' (jP y)
def zkq (n:Nat) (a:Mem W w F) (b:F.drop n=mX gm x++T) (hs:x.ay=s) (c:GoodS s):Calls abp 103 #[.pointer (some ⟨gm,0,none⟩)] w (J7 w s):=by
 subst hs
 exact (zkp n a b c).mono λr w' ⟨y,d,e,f,g⟩=>⟨y,d,Nl e,f,g⟩
end
def dQ.new (n:dQ):bH:=newS (n.cp:Int) n.aj n.gs
theorem Bg {gs:List Gr} (h:dO gs=true):∀g∈gs,g.Ok:=λx b=>by
 obtain ⟨g,a,rfl⟩:=wH Gr.zero b
 have d:=qI h a
 have e:=(qt h).2.1
 refine ⟨?_,by unfold aX;omega⟩
 rcases ach g with rfl|c
 ·rw [(qt h).2.2.1];unfold aX;decide
 ·have:=M6 ((qt h).2.2.2 g a) c
  unfold fq at this
  unfold aX;omega
theorem dQ.good {n:dQ} (h:n.Ok):GoodS n.new/\lu n.new=true:=by
 have a:=dQ.right h
 have b:=h.aj
 exact zej (by unfold dQ.cp;omega) om a.1 (Bg a.1)
theorem dQ.cfg {n:dQ} {gA:aiW} {gc:Nat} (h:n.Ok):(⟨(n.cp:Int),n.aj,gA,gc,n.gs,none,0,[],none,0,[],none,0,[],none,0,[]⟩:aF).ay.Ok/\abo n.gs<=1000000/\gK (⟨(n.cp:Int),n.aj,gA,gc,n.gs,none,0,[],none,0,[],none,0,[],none,0,[]⟩:aF).ay=true:=by
 have a:=dQ.right h
 have b:=h.aj
 exact zko (by unfold dQ.cp;omega) om a.1 (Bg a.1)
def q8k (l:List jl) (most:Nat):abo (mQ l most)<=most:=by
 rw [qov,abx]
 omega
def q8l {n:dQ} (h:n.Ok):n.cells.size=13:=by
 unfold dQ.cells
 rw [List.size_toArray]
 simp [h.pl,h.wl]
def fP (m:Int) (l:List Tk):Prop:=∀t∈l,t.id<=m
section
variable {s:bH} {o:bP} {m:Int} {l:List Tk} {t':Tk} {i:Nat}
theorem FE (h:fP m l) (ht:t'.id=(l.getD i Tk.zero).id):fP m (l.set i t'):=λt hm=>by
 rcases ab6 i (abo l) with a|a
 ·rcases ab4 hm with b|rfl
  ·exact h t b
  ·rw [ht];exact h _ (qf Tk.zero a)
 ·rw [List.set_eq_of_length_le a] at hm
  exact h t hm
def qzx (h:fP m s.ts) (to:Int):fP m (jF s i to).ts:=by
 unfold jF
 dsimp only
 split
 ·rw [(Dk _ _ _).ts];exact FE h rfl
 ·exact FE h rfl
theorem qt7 (h:fP m s.ts):fP m (sK s o).1.ts:=by grind [fP,Tk.zero,fidx,FE,sK,List.eraseIdx,List.mem_of_mem_eraseIdx]
def zfi (b:o.task<=m) (h:fP m s.ts):fP m (dL s o).1.ts:=by
 unfold dL
 split
 ·unfold yY
  repeat' split
  all_goals first|exact h|skip
  show fP m (gZ _ _ _).ts
  rw [(Dk _ _ _).ts]
  intro t ht
  rcases acg.1 ht with a|a
  ·exact h t ((List.takeWhile_sublist _).subset a)
  ·rcases abY.1 a with rfl|c
   ·exact b
   ·exact h t ((List.dropWhile_sublist _).subset c)
 ·unfold yZ
  repeat' split
  all_goals first|exact h|skip
  show fP m (gZ _ _ _).ts
  rw [(Dk _ _ _).ts]
  exact FE h rfl
 ·exact qt7 h
 ·exact qt7 h
 ·unfold jO
  repeat' split
  all_goals first|exact h|skip
  show fP m (qK _ _ _ _ _).ts
  rw [(Sr _ _ _ _ _).ts]
  exact FE h rfl
 ·unfold kS
  split<;>exact h
 ·unfold y5
  repeat' split
  all_goals first|exact h|exact FE h rfl
 ·unfold y7
  repeat' split
  all_goals exact h
 ·unfold y8
  repeat' split
  all_goals first|exact h|exact qzx h _
 ·unfold wu
  repeat' split
  all_goals first|exact h|exact qzx h _
 ·exact h
def zoq (a:o.task<=m) (h:fP m s.ts):fP m (sM s o).1.ts:=by
 unfold sM
 split
 ·exact h
 ·exact zfi a h
end
def qw8 {l:List jl} {most:Nat}:∀o∈mQ l most,o.task<=12:=λo a=>by
 obtain ⟨x,b,rfl⟩:=ab7.1 a
 show ((1+x.task%12:Nat):Int)<=12
 omega
structure dN (a:dF):Prop where
 qY:dP a=0
 ok:a.st.ay.Ok
 few:cK a.st
 cap:gD a.st
def zlm {q:aF} {nx:Int} (c:q.ay=s) (d:GoodS s) (e:lu s=true) (f:1<=nx/\nx<=281474976710657) (hc:gD q):dN ⟨nx,q⟩:=by
 subst c
 have h:=NH d.sh
 exact ⟨qs1 (by show ¬(nx<1\/281474976710657<nx);omega) e,h.ok,h.few,hc⟩
def zhs (w:aiM) (x:Int) (r:aiQ) (c:aiM):Prop:=∃a:dF,r= .returned (.tuple #[.agg a.cells,.bool true])/\dN a/\GoodS a.st.ay/\fP 12 a.st.ts/\(0<=x/\x<281474976710657->a.next=1+x)/\Mem w c (jP a.st)
def zln {q:aF} {nx x:Int} (c:q.ay=s) (d:GoodS s) (e:lu s=true) (f:fP 12 s.ts) (g:1<=nx/\nx<=281474976710657) (hc:gD q) (h:0<=x/\x<281474976710657->nx=1+x) (hm:Mem w W (jP q)):zhs w x (.returned (.tuple #[.agg (dF.cells ⟨nx,q⟩),.bool true])) W:=
 ⟨⟨nx,q⟩,rfl,zlm c d e g hc,by subst c;exact d,by subst c;exact f,h,hm⟩
section
variable {a b:dF} {w:aiM} {B:Nat}
def dN.sh (h:dN a):GoodS a.st.ay:=q18 h.ok (A8 h.qY).2
theorem zlo:∀l:List Nat,abo l<=abo (l.flatMap ak):=by intro x;induction x<;>grind [GU]
def dN.len (h:dN a):15<=abo (aY (bR a))/\abo (aY (bR a))<=6000007:=by
 refine ⟨?_,RZ (ER h.qY)⟩
 have S:=h.sh.sh
 have c:1<=a.st.au:=S.au.1
 have d:(abo a.st.cl:Int)=a.st.au:=S.cl
 have e:(abo a.st.cu:Int)=a.st.au:=S.cu
 have f:1<=abo a.st.gs:=(qt S.gs).1
 have g:abo a.st.rs=abo a.st.gs:=by rw [<-wC];exact S.sp
 have j:((a.st.rs.getD 0 Rw.zero).l.length:Int)=a.st.au:=by rw [<-A9 (show 0<abo a.st.rs by omega)];exact S.rows 0 (by show 0<abo (jw a.st);rw [wC];omega)
 have k:1<=abo (aI a 6):=by
  show 1<=abo (dV (abo a.st.rs) _)
  refine ada ?_ (RX (i:=1) om)
  rw [qz,CW]
  show 1<=abo (kU 0 (a.st.rs.getD 0 Rw.zero).l)
  unfold kU
  refine ada ?_ (RX (i:=1) om)
  rw [qz,CW,CY de]
  exact abu _
 have m:=zlo (eX a)
 have n:8<=abo (eX a):=by
  rw [Df]
  simp only [abq]
  have o:abo (aI a 0)=1:=rfl
  have e1:abo (aI a 1)=3:=rfl
  have e3:abo (aI a 3)=abo a.st.cl:=abw ..
  have e4:abo (aI a 4)=abo a.st.cu:=abw ..
  have e5:1<=abo (aI a 5):=by show 1<=abo (_::_:List Nat);rw [abV];omega
  omega
 rw [pY,Im]
 omega
end
def LB (x:Int): -281474976710657<afO x 281474976710657/\afO x 281474976710657<281474976710657:=⟨Int.lt_tmod_of_pos x de,Int.tmod_lt_of_pos x de⟩
def zoz (w:aiM) (x:Int) (r:aiQ) (a:aiM):Prop:=(∃z:Int,r= .returned (vI z)/\0<=z/\z<281474976710657/\(0<=x/\x<281474976710657->z=x))/\Below w.heap.size w a
def zmf {n:dQ}:fP 12 n.new.ts:=λt ht=>by cases ht
def q3g (x:Int) (c:aX x) (w:aiM):
    Calls abp 39 #[vI x,vI 281474976710657] w (zoz w x):=by
 unfold aX at c
 have d:=LB x
 refine (iP Tryz.func39 16) ?_
 refine (dh 1∘JQ∘JP∘Jv 2 [(6,.bool false)]∘Jj∘aQ∘aM 4∘eP∘Jj∘bN 2∘aL∘Jj) (Ji (λa=>?_) λa=>?_)
 ·
  exact (JT∘JR∘Jp 3∘Jo (vI ((afO x 281474976710657)+281474976710657)) (by exact nD ⟨by omega,by omega⟩)∘Jp 1∘eP∘bg 2∘aL∘aP∘aW) λb=>by exact ⟨⟨_,rfl,by have:=LB x;omega,by have:=LB x;omega,λh=>by have:=agN h.1 h.2;omega⟩,b.below⟩
 exact (aQ∘aM 2∘aL∘aP∘aW) λb=>by exact ⟨⟨_,rfl,by have:=LB x;omega,by have:=LB x;omega,λh=>by have:=agN h.1 h.2;omega⟩,b.below⟩
abbrev ahP:=λa=>(.blk a #[vI 0,vI 0,vQ 0,vN,vN,vN,vN,vN] 50:aiX)
abbrev aiI:Array aiN:=#[vI 0,vI 0,vQ 0,vN,vN,vN,vN,vN]
def q3h (n:dQ) (q:n.Ok) (A:aiW) (E:Nat) (l:List jl) (U:∀x∈l,x.Ok) (hc:abo l<=E) (F:abo l<=9223372036854775807) (nx:Int) (G:aX nx) (w:aiM) (hr:Rd w w.heap.size 8 A (abo l) (l.flatMap zK)):
    Calls abp 42 #[.agg n.cells,abl A l E,vI nx] w (zhs w nx):=by
 have hsl:=q8k l 60
 refine (uL Tryz.func42 50) ?_
 refine (JP∘JE) λw3 g3=>(JA aiI) λw6 r=>(Jp 1∘Jr∘eH q8h O1 (hm:=by exact (q8l q))∘JK (h:=by exact λb=>q2q n q _)) λH I w16 V=>(JL (h:=by exact λb=>zkn (dQ.cfg q) (b.rd (i:=0) rfl))) ?_
 rintro b _ J ⟨d,x,rfl,D,hm⟩
 refine ⟨_,rfl,_,(show Mem w J (abn H n.gs I fQ 198 2::ahP r::.blk g3 n.cells 100::(mX d x++([]))) from b.wN 3 hm rfl),?_⟩
 refine (Jp 1∘Jx∘Jx∘bM 2∘JQ∘JP∘Jv 4 [(23,vP d 0),(22,.bool false)]∘Jy (v:= .bool false) (h:=by exact aaD rfl rfl rfl)∘Jp 1∘fJ∘Jj∘aQ∘bN 1∘JK (h:=by exact λb=>q2r A E l 60 _ U (b.old hr) hc F de)) λe c EC W=>(Jl∘bM 1∘JB) λa Z b=>?_
 refine qg (λX aS wS=>∃(k:Nat) (x:aF) (s:bH),(k<=abo (mQ l 60))/\(x.ay=s)/\(GoodS s)/\(lu s=true)/\(fP 12 s.ts)/\X=abo (mQ l 60)-k/\Fr aS 50 [] (ahY 30 k 29 (abo (mQ l 60):Nat) [(28,abl e (mQ l 60) c),(25,.bool false),(8,vP d 0),(7,.bool false),(6,vP r 0),(2,vI nx)])/\Mem w wS (abn e (mQ l 60) c rX 214 8::ahP r::(mX d x++([])))) (m:=abo (mQ l 60)-0) ⟨0,x,n.new,abz _,D,(dQ.good q).1,(dQ.good q).2,zmf,rfl,Z.sub kr,b.pt 4 [0,2]⟩ ?_
 clear Z b;rintro X a w_ ⟨k,x,s,hk,D,t,Y,hD,rfl,Z,b⟩
 refine Jb Z b ((dh 1∘JQ) (Ji (λu=>?_) λu=>?_))
 ·
  have B:k<abo (mQ l 60):=by omega
  obtain ⟨o,ho⟩:∃z,(mQ l 60).getD k bP.zero=z:=⟨_,rfl⟩
  have f:=qf bP.zero B
  rw [ho] at f
  have g:o.Ok:=q8g U _ f
  have K:o.task<=12:=qw8 _ f
  refine (eY∘JP) ?_
  repeat (first|clear Z|clear b)
  intro a Z b
  obtain ⟨C,rfl⟩:=b.rat 0 k
  refine Jb Z b ((nG k 8∘Jy (v:= .agg (((mQ l 60).getD k bP.zero).cells)) (h:=by exact Pe rfl rfl mW rfl (λ_ h=>h.yJ zkl (i:=0) rfl ((getD_at bP.zero B))))∘Jo (.agg o.cells) (by rw [ho])∘JA #[vB 0,vI 0,vI 0,vI 0,vI 0,vI 0,vI 0,vQ 0]) λuM L=>(JV mW aO (h1:=by exact zg0 o)) λRj=>(bU∘Jj∘JR∘Jp 1∘eH mW O0∘JL (h:=by exact λb=>TS 3 b rfl D t g)) ?_)
  rintro b _ M ⟨y,rfl,hy,N⟩
  refine ⟨_,rfl,_,(show Mem w M (.blk L o.cells 214::.row (vS C (abo (mQ l 60)) c) (abo (mQ l 60)) ((mQ l 60).flatMap rX) 214 8::ahP r::(mX d y++([]))) from N.back),?_⟩
  refine (oo∘Jj∘JR∘dA 1∘Jp 1∘aL∘Jq) λa Z b=>?_
  exact ⟨_,om,k+1,y,(sM s o).1,by omega,hy,zeh g t,zei g t Y,zoq K hD,rfl,Z.sub kr,b.pt 3 [1,2]⟩
 refine (JF∘JX∘JG∘aM 1∘JL (h:=by exact λb=>zkq 2 b rfl D t)) ?_
 rintro b _ O ⟨p,rfl,hp,j,hm⟩
 refine ⟨_,rfl,_,(show Mem w O (abn e (mQ l 60) c rX 214 8::ahP r::(jP p++(mX d x++([])))) from b.wN (T:=(mX d x++([]))) 2 hm rfl),?_⟩
 refine (Jp 1∘Jx∘Jx∘JA aiF) λxZ g12=>(JV eU aO (h1:=by exact EL p)) λauT=>(bM 1) λa Z b=>?_
 refine wp_seq ?_
 refine Jb Z b ((Vs .n [7]) λrT=>(Vq [0,5,6] [(49,.bool true),(43,vI nx)]∘mK 3 eU O0) λa Z b P=>?_)
 refine s_on Z 1 rfl ?_
 refine lF Z [vI nx,vI 281474976710657] rfl rfl (q3g nx G _) ?_
 rintro _ QK ⟨⟨z,rfl,hz1,hz2,Q⟩,R⟩
 refine ⟨_,rfl,?_⟩
 replace b:=b.call R
 clear Z;intro a Z
 refine av (b.pt 3 [0,1,2]) (λP=>?_)
 refine Vb Z b P ((Vp [2]∘Vo (vI (1+z)) (by exact nD ⟨by omega,by omega⟩)∘Vy 4 (v:= .agg #[vI (1+z),vI p.au,vQ p.aj,abl p.gA p.gs p.gc,abl p.lA p.cl p.lc,abl p.uA p.cu p.uc,abl p.tA p.ts p.tc,abl p.sA p.rs p.sc]) (h:=by exact Yl.build (vs:=[(0,vI (1+z)),(1,.agg p.cells)]) rfl kr kr)) λa Z b P=>?_)
 refine s_on Z 7 rfl (bS Z b 2 rfl rfl rfl rfl rfl zo rfl rfl (by simp [abX]) λS b=>?_)
 refine dU kr ?_
 refine ap Z (bZ kr) [8] (bt 9 []) [(7,.bool true)] λa Z=>?_
 refine qe kr ?_
 refine Jb Z b ((JZ) λa Z b=>?_)
 exact dR rfl Z (.cellS (i:=2) Z b rfl rfl zo rfl) (.tmp Z rfl) (zln (nx:=1+z) hp t Y hD ⟨by omega,by omega⟩ j (λh=>by rw [Q h]) ((b.iY 3 rfl).mV (List.sublist_append_left ..)))
section
variable {W w:aiM} {fs:List aiX}
end
section
variable {b bk:Bs} {l:List Ev} {k:Nat} {e:Ev}
end
section
variable {b bk:Bs} {cpu m u L er:Nat} {l:List Nat} {es:List Ev} {e:Ev}
end
def gL {α:Type} (f:α->α) (l:List α) (k:Nat):List α:=(l.take k).map f++l.drop k
def Vt {α:Type} (f:α->α) (l:List α) (k:Nat):abo (gL f l k)=abo l:=by
 unfold gL
 rw [abq,abw,abx,abE]
 omega
def q24 {α:Type} (f:α->α) (l:List α):gL f l 0=l:=by simp [gL]
def FB {α:Type} (f:α->α) (l:List α) {k:Nat} (d:α) (h:k<abo l):(gL f l k)[k]?=some (l.getD k d):=by
 unfold gL
 rw [adP (by rw [abw,abx];omega),abw,abx,ac4 om,aeg,List.getElem?_drop,abt,Nat.add_zero,abr h]
 rfl
def q25 {α:Type} (f:α->α) (l:List α) {k:Nat} (d:α) (h:k<abo l):(gL f l k).set k (f (l.getD k d))=gL f l (k+1):=by
 unfold gL
 have a:abo (l.take k)=k:=by rw [abx];omega
 have b:l.drop k=l.getD k d::l.drop (k+1):=by
  rw [abt,abr h]
  exact acz h
 have ht:l.take (k+1)=l.take k++[l.getD k d]:=by
  rw [List.take_succ_eq_append_getElem h,abt,abr h]
  rfl
 rw [ae1,if_neg (by rw [abw];omega),abw,a,aeg,b,afz,ht,abZ,abv]
 rfl
structure It where
 e:Ev
 before:Int
section
variable {cpu:Nat} {l:List It} {opn limit:Int}
end
def G7:EI abp 51 85 (.agg #[.int .u8 0,.int .u8 0,.int .i64 0,.int .i64 0,.slice none 0 0]) 5 48:=⟨by kernel_rfl,by kernel_rfl,rfl,by omega⟩
def Zk {α:Type} {l:List α} (d:α) (h:k<abo l):l.drop k=l.getD k d::l.drop (k+1):=by
 rw [acz h,abt,abr h]
 rfl
section
open Go.ChangeShapes Go.WideShapes Go.ChangeAt
section
variable {H:Type} {enc:aiP×aiN->H} {P:aiO} {W:aiM} {sp:Nat->Bool} {held:Bool}
def flat_get {sz:Nat}:∀(a:List (List aiN)),(∀l∈a,abo l=sz)->∀p u,(a.flatMap id)[p]?=some u->∃i j,∃hi:i<abo a,j<sz/\p=i*sz+j/\a[i][j]?=some u:=by
 intro a
 induction a with
 |nil=>intro _ p u h;simp at h
 | cons l r f =>
  intro h p u b
  have c:=h l (by simp)
  rw [abR] at b
  by_cases g:p<sz
  ·rw [adT (by simp only [id];omega)] at b
   exact ⟨0,p,by simp,g,by omega,b⟩
  ·rw [adP (by simp only [id];omega)] at b
   simp only [id] at b
   rw [c] at b
   obtain ⟨i,j,hi,k,m,e⟩:=f (λy n=>h y (by simp [n])) _ u b
   exact ⟨i+1,j,by simp;omega,k,by rw [adI];omega,by simpa using e⟩
def q5q {sz:Nat}:∀(a:List (List aiN)),(∀l∈a,abo l=sz)->abo (a.flatMap id)=abo a*sz:=by
 intro a
 induction a with
 |nil=>simp
 |cons l r b=>intro h;rw [abR,abq,b (λy c=>h y (by simp [c])),abV,adI];have:=h l (by simp);simp only [id];omega
def MW {α:Type} (f:α->List aiN) (Ok:α->Prop) {t e:aiP} {sz:Nat} (ht:P.underlying t=some (.slice e)) (D:P.cellsOf e=sz) (Q:0<sz) (K:∀x,abo (f x)=sz)
  (R:∀m l y,adN enc P W 0 sp held m e l=some y->∃x,f x=l/\Ok x) {g:Nat} {r:List aiN} {x:DataW H×List MemPlace} (h:adN enc P W 0 sp held g t r=some x):
  ∃(A:aiW) (c:Nat) (l:List α),r=[.slice A (abo l) c]/\abo l<=c/\c<=maxLen/\(∀x∈l,Ok x)/\Rd W W.heap.size sz A (abo l) (l.flatMap f):=by
 rcases DataW.trod_slice ht h with ⟨hc,_⟩|⟨a,len,cap,b,L,m,_,hc,_,_,U,hm,M,E,_⟩
 ·exact ⟨none,0,[],hc,abu _,by unfold maxLen;omega,by simp,Rd.nil⟩
 ·have s:∀i,i<len->∃x:α,W.cells? 0 (a.add (i*sz)) sz=some (f x)/\Ok x:=by
   intro i hi
   have n:=E i hi
   rw [D,abr (by omega:i<abo b)] at n
   obtain ⟨l,o,q⟩:=Option.bind_eq_some_iff.1 n
   obtain ⟨x,rfl,F⟩:=R _ _ _ q
   exact ⟨x,o,F⟩
  have key:∀k,k<=len->∃xs:List α,abo xs=k/\∀i (hi:i<abo xs),W.cells? 0 (a.add (i*sz)) sz=some (f xs[i])/\Ok xs[i]:=by
   intro k
   induction k with
   |zero=>intro _;exact ⟨[],rfl,λi hi=>by simp at hi⟩
   | succ k S =>
    intro V
    obtain ⟨xs,n,o⟩:=S om
    obtain ⟨x,q,N⟩:=s k om
    refine ⟨xs++[x],by simp [n],λi hi=>?_⟩
    by_cases w:i<abo xs
    ·rw [List.getElem_append_left w];exact o i w
    ·obtain rfl:i=abo xs:=by simp at hi;omega
     rw [List.getElem_append_right (abu _)]
     simp only [aeg,List.getElem_cons_zero,n]
     exact ⟨q,N⟩
  obtain ⟨xs,n,o⟩:=key len (abu _)
  have z:xs.flatMap f=(xs.map f).flatMap id:=by rw [List.flatMap_map];rfl
  have B:∀l∈xs.map f,abo l=sz:=λl G=>by obtain ⟨x,_,rfl⟩:=ab7.1 G;exact K x
  have C:∀i (hi:i<abo xs) j,j<sz->W.cell? (a.add (i*sz+j))=(f xs[i])[j]?:=by
   intro i hi j I
   have:=(World.cells?_some (o i hi).1).2.2 j I
   rwa [Ww] at this
  refine ⟨some a,cap,xs,by rw [hc,n],by omega,hm,λx F=>by obtain ⟨i,hi,rfl⟩:=acp F;exact (o i hi).2,⟨by rw [z,q5q _ B,abw],λT=>⟨a,rfl,?_,?_⟩⟩⟩
  ·have q:=C 0 T 0 Q
   have N:=K xs[0]
   rw [abr om] at q
   have:=World.block_lt_of_cell? W _ q
   simpa [Addr.add] using this
  ·intro p u O
   rw [z] at O
   obtain ⟨i,j,hi,I,rfl,J⟩:=flat_get _ B p u O
   rw [abw] at hi
   rw [C i hi j I,<-J,List.getElem_map]
end
section
variable {H:Type} {enc:aiP×aiN->H} {W:aiM} {b0:Nat} {v:aiN} {d:DataW H} {p:List MemPlace}
end
end
section
open Go.ChangeShapes Go.WideShapes Go.ChangeAt
section
variable {H:Type} {enc:aiP×aiN->H} {P:aiO} {W:aiM} {sp:Nat->Bool} {held:Bool}
def TT:aiN->Int
 | .int _ z=>z
 |_=>0
def qy6 {t e:aiP} {k:acw} (ht:P.underlying t=some (.array n e)) (j:P.underlying e=some (.int k)) (hc:P.cellsOf e=1) (l:P.cellsOf t=n) {c:Nat} {L:List aiN} {d:DataW H} {p:List MemPlace} (o:adN enc P W 0 sp held c t L=some (d,p)):
  ∃b:List Int,abo b=n/\L=b.map (abT k)/\∀z∈b,(ae4 k z).wf=true:=by
 obtain ⟨xs,m,_,_,f,x,q⟩:=DataW.trod_array ht o
 rw [l] at f
 have h:∀i,i<n->∃z:Int,L[i]?=some (.int k z)/\(ae4 k z).wf=true:=λi hi=>by
  have g:=q i hi
  rw [hc,ac0,abr om] at g
  obtain ⟨z,r,_,s⟩:=ad9 j g
  exact ⟨z,vg r,s⟩
 refine ⟨L.map TT,by rw [abw,f],FT (by rw [abw,abw]) λi hi=>?_,λz hz=>?_⟩
 ·rw [abw,abw] at hi
  obtain ⟨z,a,_⟩:=h i om
  rw [List.map_map,acM,a]
  rfl
 ·obtain ⟨v,u,rfl⟩:=ab7.1 hz
  obtain ⟨i,hi,rfl⟩:=acp u
  obtain ⟨z,a,w⟩:=h i om
  rw [abr hi] at a
  injection a with a
  rw [a]
  exact w
end
def TU:List acw:=[.u8,.u8,.u8,.u8,.u8,.u16,.u32,.u8]
def q2s:FR abp 275 TU=true:=by kernel_rfl
def zek:Tryz.prog.underlying 101=some (.slice 275):=by kernel_rfl
def q2t:Tryz.prog.cellsOf 275=8:=by kernel_rfl
def q2u (w:abo r=abo TU) (h:∀(i:Nat) (k:acw),TU[i]?=some k->∃z:Int,r[i]?=some (abT k z)/\(ae4 k z).wf=true):∃x:jl,zK x=r/\x.Ok:=by
 obtain ⟨z0,y,a⟩:=h 0 .u8 rfl
 have a:=jo a
 obtain ⟨b,A,c⟩:=h 1 .u8 rfl
 have c:=jo c
 obtain ⟨e,B,f⟩:=h 2 .u8 rfl
 have f:=jo f
 obtain ⟨g,C,j⟩:=h 3 .u8 rfl
 have j:=jo j
 obtain ⟨l,D,m⟩:=h 4 .u8 rfl
 have m:=jo m
 obtain ⟨n,E,o⟩:=h 5 .u16 rfl
 have o:=PE o
 obtain ⟨q,F,s⟩:=h 6 .u32 rfl
 have s:=uZ s
 obtain ⟨t,G,u⟩:=h 7 .u8 rfl
 have u:=jo u
 refine ⟨⟨z0.toNat,b.toNat,e.toNat,g.toNat,l.toNat,n.toNat,q.toNat,t.toNat⟩,?_,⟨by show z0.toNat<_;omega,by show b.toNat<_;omega,by show e.toNat<_;omega,by show g.toNat<_;omega,by show l.toNat<_;omega,by show n.toNat<_;omega,by show q.toNat<_;omega,by show t.toNat<_;omega⟩⟩
 refine FT (by rw [w];rfl) λi hi=>?_
 have I:i<8:=by rw [w] at hi;exact hi
 have hc:i=0\/i=1\/i=2\/i=3\/i=4\/i=5\/i=6\/i=7:=by omega
 rcases hc with rfl|rfl|rfl|rfl|rfl|rfl|rfl|rfl
 ·rw [y];show some (abT .u8 ((z0.toNat:Nat):Int))=_;rw [abW a.1]
 ·rw [A];show some (abT .u8 ((b.toNat:Nat):Int))=_;rw [abW c.1]
 ·rw [B];show some (abT .u8 ((e.toNat:Nat):Int))=_;rw [abW f.1]
 ·rw [C];show some (abT .u8 ((g.toNat:Nat):Int))=_;rw [abW j.1]
 ·rw [D];show some (abT .u8 ((l.toNat:Nat):Int))=_;rw [abW m.1]
 ·rw [E];show some (abT .u16 ((n.toNat:Nat):Int))=_;rw [abW o.1]
 ·rw [F];show some (abT .u32 ((q.toNat:Nat):Int))=_;rw [abW s.1]
 ·rw [G];show some (abT .u8 ((t.toNat:Nat):Int))=_;rw [abW u.1]
section
variable {H:Type} {enc:aiP×aiN->H} {W:aiM} {b0:Nat} {v:aiN} {d:DataW H} {p:List MemPlace}
def zel {x:DataW H×List MemPlace} (a:adN enc abp W 0 (λ_=>true) true c 275 r=some x):∃e:jl,zK e=r/\e.Ok:=by
 obtain ⟨b,f⟩:=PD q2s a
 exact q2u b f
def nf0:fieldAt abp 100 0 0 5=true:=by kernel_rfl
def nf1:fieldAt abp 100 1 1 5=true:=by kernel_rfl
def nf2:fieldAt abp 100 2 2 61=true:=by kernel_rfl
def nf3:fieldAt abp 100 3 3 97=true:=by kernel_rfl
def nf4:fieldAt abp 100 4 8 98=true:=by kernel_rfl
def qow:Tryz.prog.cellsOf 100=13:=by kernel_rfl
def zkr:Tryz.prog.underlying 61=some (.int .u32):=by kernel_rfl
def zks:Tryz.prog.underlying 60=some (.int .u16):=by kernel_rfl
def zn5:Tryz.prog.underlying 97=some (.array 5 5):=by kernel_rfl
def zn6:Tryz.prog.underlying 98=some (.array 5 60):=by kernel_rfl
def qy7:Tryz.prog.cellsOf 5=1:=by kernel_rfl
def q8m:Tryz.prog.cellsOf 60=1:=by kernel_rfl
def q8n:Tryz.prog.cellsOf 61=1:=by kernel_rfl
def qy8:Tryz.prog.cellsOf 97=5:=by kernel_rfl
def qy9:Tryz.prog.cellsOf 98=5:=by kernel_rfl
def TV (k:acw):∀{a:List Int},(∀z∈a,0<=z)->a.map (abT k)=(a.map afB).map (λz:Nat=>abT k (z:Int))
 |[],_=>rfl
 |z::r,h=>by
  rw [acB,acB,acB,TV k (λy b=>h y (ab5 _ b)),abW (h z (acj ..))]
def zem {A B:List aiN} {a b c:aiN} (g:abo r=13) (e:r[0]?=some a) (h1:r[1]?=some b) (f:r[2]?=some c) (h:(r.drop 3).take 5=A) (i:(r.drop 8).take 5=B):r=a::b::c::(A++B):=by
 match r,g with
 |[c0,m,n,o,q,s,t,u,w,x,j,k,l],_=>
  injection e with e
  injection h1 with h1
  injection f with f
  rw [<-h,<-i,<-e,<-h1,<-f]
  rfl
def q8o {y:DataW H×List MemPlace} (a:adN enc abp W 0 (λ_=>true) true c 100 r=some y):∃n:dQ,n.cells.toList=r/\n.Ok:=by
 obtain ⟨e,_,D,g0⟩:=q7 nf0 a
 obtain ⟨_,_,E,g1⟩:=q7 nf1 a
 obtain ⟨_,_,F,l⟩:=q7 nf2 a
 obtain ⟨_,_,G,m⟩:=q7 nf3 a
 obtain ⟨_,_,I,o⟩:=q7 nf4 a
 rw [qow] at e
 obtain ⟨f,g,_,q⟩:=ad9 FN g0
 obtain ⟨h,e1,_,s⟩:=ad9 FN g1
 obtain ⟨i,e2,_,t⟩:=ad9 zkr l
 obtain ⟨ps,u,e3,j⟩:=qy6 zn5 FN qy7 qy8 m
 obtain ⟨ws,w,e4,k⟩:=qy6 zn6 zks q8m qy9 o
 rw [qy7] at g e1
 rw [q8n] at e2
 rw [qy8] at e3
 rw [qy9] at e4
 have A:=jo q
 have B:=jo s
 have C:=uZ t
 rw [TV _ λz hz=>(jo (j z hz)).1] at e3
 rw [TV _ λz hz=>(PE (k z hz)).1] at e4
 refine ⟨⟨f.toNat,h.toNat,i.toNat,ps.map afB,ws.map afB⟩,?_,⟨by show f.toNat<_;omega,by show h.toNat<_;omega,by show i.toNat<_;omega,by show abo (ps.map afB)=5;rw [abw,u],by show abo (ws.map afB)=5;rw [abw,w],λz hz=>?_,λz hz=>?_⟩⟩
 ·rw [zem e (vg g) (vg e1) (vg e2) e3 e4]
  unfold dQ.cells
  dsimp only
  rw [abW A.1,abW B.1,abW C.1]
 ·obtain ⟨x,b,rfl⟩:=ab7.1 hz
  have:=jo (j x b)
  omega
 ·obtain ⟨x,b,rfl⟩:=ab7.1 hz
  have:=PE (k x b)
  omega
end
end
section
open Go.ChangeShapes Go.WideShapes Go.ChangeAt
def Rm:List acw:=[.u8,.u8,.u32,.u32,.u32,.u32,.u32,.u32,.u32,.u32,.u64]
def q5w:FR abp 280 Rm=true:=by kernel_rfl
def q05:Tryz.prog.underlying 111=some (.slice 280):=by kernel_rfl
def q5x (F:abo r=abo Rm) (h:∀(i:Nat) (k:acw),Rm[i]?=some k->∃z:Int,r[i]?=some (abT k z)/\(ae4 k z).wf=true):∃x:Sm,sJ x=r/\x.Ok:=by
 obtain ⟨z0,G,c⟩:=h 0 .u8 rfl
 have c:=jo c
 obtain ⟨e,I,f⟩:=h 1 .u8 rfl
 have f:=jo f
 obtain ⟨g,J,j⟩:=h 2 .u32 rfl
 have j:=uZ j
 obtain ⟨l,K,m⟩:=h 3 .u32 rfl
 have m:=uZ m
 obtain ⟨n,L,o⟩:=h 4 .u32 rfl
 have o:=uZ o
 obtain ⟨q,M,s⟩:=h 5 .u32 rfl
 have s:=uZ s
 obtain ⟨t,N,u⟩:=h 6 .u32 rfl
 have u:=uZ u
 obtain ⟨w,O,y⟩:=h 7 .u32 rfl
 have y:=uZ y
 obtain ⟨A,P,B⟩:=h 8 .u32 rfl
 have B:=uZ B
 obtain ⟨C,Q,D⟩:=h 9 .u32 rfl
 have D:=uZ D
 obtain ⟨a,E,b⟩:=h 10 .u64 rfl
 have b:=zmr b
 refine ⟨⟨z0.toNat,e.toNat,g.toNat,l.toNat,n.toNat,q.toNat,t.toNat,w.toNat,A.toNat,C.toNat,a.toNat⟩,?_,⟨by show z0.toNat<_;omega,by show e.toNat<_;omega,by show g.toNat<_;omega,by show l.toNat<_;omega,by show n.toNat<_;omega,by show q.toNat<_;omega,by show t.toNat<_;omega,by show w.toNat<_;omega,by show A.toNat<_;omega,by show C.toNat<_;omega,by show a.toNat<_;omega⟩⟩
 refine FT (by rw [F];rfl) λi hi=>?_
 have R:i<11:=by rw [F] at hi;exact hi
 have hc:i=0\/i=1\/i=2\/i=3\/i=4\/i=5\/i=6\/i=7\/i=8\/i=9\/i=10:=by omega
 rcases hc with rfl|rfl|rfl|rfl|rfl|rfl|rfl|rfl|rfl|rfl|rfl
 ·rw [G];show some (abT .u8 ((z0.toNat:Nat):Int))=_;rw [abW c.1]
 ·rw [I];show some (abT .u8 ((e.toNat:Nat):Int))=_;rw [abW f.1]
 ·rw [J];show some (abT .u32 ((g.toNat:Nat):Int))=_;rw [abW j.1]
 ·rw [K];show some (abT .u32 ((l.toNat:Nat):Int))=_;rw [abW m.1]
 ·rw [L];show some (abT .u32 ((n.toNat:Nat):Int))=_;rw [abW o.1]
 ·rw [M];show some (abT .u32 ((q.toNat:Nat):Int))=_;rw [abW s.1]
 ·rw [N];show some (abT .u32 ((t.toNat:Nat):Int))=_;rw [abW u.1]
 ·rw [O];show some (abT .u32 ((w.toNat:Nat):Int))=_;rw [abW y.1]
 ·rw [P];show some (abT .u32 ((A.toNat:Nat):Int))=_;rw [abW B.1]
 ·rw [Q];show some (abT .u32 ((C.toNat:Nat):Int))=_;rw [abW D.1]
 ·rw [E];show some (abT .u64 ((a.toNat:Nat):Int))=_;rw [abW b.1]
section
variable {H:Type} {enc:aiP×aiN->H} {W:aiM} {b0:Nat} {v:aiN} {d:DataW H} {p:List MemPlace}
def zcu:Tryz.prog.cellsOf 280=11:=by kernel_rfl
def zi8 {x:DataW H×List MemPlace} (a:adN enc abp W 0 (λ_=>true) true c 280 r=some x):∃e:Sm,sJ e=r/\e.Ok:=by
 obtain ⟨b,f⟩:=PD q5w a
 exact q5x b f
def zcv {x:DataW H×List MemPlace} (a:adN enc abp W 0 (λ_=>true) true m 111 r=some x):
  ∃(A:aiW) (c:Nat) (l:List Sm),r=[.slice A (abo l) c]/\abo l<=c/\c<=maxLen/\(∀x∈l,x.Ok)/\Rd W W.heap.size 11 A (abo l) (l.flatMap sJ):=
 MW sJ Sm.Ok q05 zcu de EK (λ_ _ _ h=>zi8 h) a
def Zt:Tryz.prog.cellsOf 61=1:=by kernel_rfl
def q5y:Tryz.prog.cellsOf 111=1:=by kernel_rfl
def W32 (x:Nat):aiN:= .int .u32 (x:Int)
def Zu {x:DataW H×List MemPlace} (a:adN enc abp W 0 (λ_=>true) true c 61 r=some x):∃e:Nat,[W32 e]=r/\e<4294967296:=by
 obtain ⟨z,e1,_,b⟩:=ad9 YO a
 have:=uZ b
 exact ⟨z.toNat,by rw [e1];show [abT .u32 ((z.toNat:Nat):Int)]=_;rw [abW this.1],by omega⟩
theorem zi9 {a b c d e f:aiN} (g:abo r=6) (j:r[0]?=some a) (h1:r[1]?=some b) (k:r[2]?=some c) (l:r[3]?=some d) (m:r[4]?=some e) (n:r[5]?=some f):r=[a,b,c,d,e,f]:=by
 refine FT g λi hi=>?_
 have h:i<6:=hi
 have hc:i=0\/i=1\/i=2\/i=3\/i=4\/i=5:=by omega
 rcases hc with rfl|rfl|rfl|rfl|rfl|rfl<;>assumption
end
end
def qx:Nat->List Nat->List Bk×Nat×Nat
 |0,_=>([],0,0)
 | f + 1, l => if abo l = 0 then ([], 0, 0) else
  if (dJ l).2.2≠0 then ([],0,(dJ l).2.2) else
   ((dJ l).1::(qx f (l.drop (dJ l).2.1)).1,(dJ l).2.1+(qx f (l.drop (dJ l).2.1)).2.1,(qx f (l.drop (dJ l).2.1)).2.2)
def yS (l:List Nat):List Bk×Nat×Nat:=if 524288<abo l then ([],0,3) else qx (abo l) l
def Zv {f:Nat} (h:abo l=0):qx f l=([],0,0):=by
 cases f with
 |zero=>rfl
 |succ f=>rw [qx,if_pos h]
def qvn {b:Bk} (d:0<f) (h:0<abo l) (a:dJ l=(b,m,er)) (c:er≠0):qx f l=([],0,er):=by
 cases f with
 |zero=>omega
 |succ f=>rw [qx,if_neg om,if_pos (by rw [a];exact c),a]
def Zw {b:Bk} (c:0<f) (h:0<abo l) (a:dJ l=(b,m,0)):qx f l=(b::(qx (f-1) (l.drop m)).1,m+(qx (f-1) (l.drop m)).2.1,(qx (f-1) (l.drop m)).2.2):=by
 cases f with
 |zero=>omega
 |succ f=>rw [qx,if_neg om,if_neg (by rw [a];exact λh=>h rfl),a];rfl
def Zx (W:aiM) (g:Nat) (Inv:List Nat->List aiX->Prop) (Stop:List aiX->Prop):Prop:=
 ∀(a:List Nat) (F fr:List aiX) (w:aiM) (A:aiW) (c:Nat) (b:Bk) (m d:Nat),Inv a F->dJ a=(b,m,d)->0<abo a->(∀x∈a,x<256)->abo b.evs<=c->Mem W w (.row (.slice A (abo b.evs) c) (abo b.evs) (b.evs.flatMap fC) 73 11::(F++fr))->
  YieldAt Fence.wide 0 abp g #[.agg #[.int .u8 (b.kind:Int),.int .u8 (b.cpu:Int),.int .i64 b.lost,.int .i64 b.next,.slice A (abo b.evs) c,.int .i64 (m:Int)],.int .i64 (d:Int)] w λe h=>∃f,Mem W h (f++fr)/\((d=0/\e= .returned (.bool true)/\Inv (a.drop m) f)\/(d≠0/\e= .returned (.bool false)/\Stop f))
def q5z (W:aiM) (Inv:List Nat->List aiX->Prop) (Stop:List aiX->Prop) (r:aiQ) (b:aiM):Prop:=∃v,r= .returned v/\∃a,Mem W b a/\(Inv [] a\/Stop a)
theorem qnh {W:aiM} {fr:List aiX} {er:Nat} {I S:List aiX->Prop}:∀(e:aiQ) (b:aiM),(∃a,Mem W b (a++fr)/\((er=0/\e= .returned (.bool true)/\I a)\/(er≠0/\e= .returned (.bool false)/\S a)))->∃v,e= .returned v:=by intros;grind
def aa4 {B:Nat} (h:Rd w B 1 A (abo l) (l.map B8)) (hk:k<=abo l) (hc:abo l<=c):Rd w B 1 (if c=k then A else A.map (·.add (k*1))) (abo (l.drop k)) ((l.drop k).map B8):=by
 rw [abE]
 exact h.F4 hk hc
def zfn:SI abp 255 6:=⟨by kernel_rfl,by kernel_rfl⟩
def qxb (W w:aiM) (n q B:Nat) (A:aiW) (c:Nat) (l:List Nat) (Inv:List Nat->List aiX->Prop) (Stop:List aiX->Prop) (C:List aiX) (V:aR B W) (O:B<=W.heap.size) (hr:Rd W W.heap.size 1 A (abo l) (l.map B8)) (hc:abo l<=c) (Y:∀b∈l,b<256) (hn:abo l<=100000000)
    (hy:Zx W q Inv Stop) (D:Inv l C) (e:Mem W w (.blk n #[abl A l c] 30::C)):
    Calls abp 178 (.func (.yield q) #[] #[]:: [vP n 0]).toArray w (q5z W Inv Stop):=by
 refine nP Tryz.func178 [.func (.yield q) #[] #[],vP n 0] [ahZ q,(1,vP n 0)] λa Z=>?_
 refine Jb Z e ((JB) λa Z e=>?_)
 refine qg (λP aS wS=>∃(d:List Nat) (X:aiW) (k:Nat) (F:List aiX),(Inv d F)/\(Rd W W.heap.size 1 X (abo d) (d.map B8))/\(abo d<=k)/\(∀b∈d,b<256)/\(abo d<=abo l)/\P=abo d/\Fr aS 29 [] [ahZ q,(1,vP n 0)]/\Mem W wS (.blk n #[abl X d k] 30::F)) (m:=abo l) ⟨l,A,c,C,D,hr,hc,Y,abu _,rfl,Z.sub kr,e.pt 1 [0]⟩ ?_
 clear Z e;rintro P a w_ ⟨d,X,k,F,Q,R,r,o,hrn,rfl,Z,e⟩
 refine Jb Z e ((JQ∘JP∘Jc O0∘Jl∘Jp 1∘bU∘Jj) (Ji (λE=>?_) λE=>?_))
 ·
  have G:0<abo d:=by omega
  obtain ⟨b,m,x,H⟩:∃b m x,dJ d=(b,m,x):=⟨_,_,_,rfl⟩
  refine (JT∘Eu∘JB∘JP∘Jc O0∘JK (h:=by exact λe=>zcs X (abo d) k d B _ (V.mem e O) (e.le O) (e.old R) r rfl om o H)) λf g uM s=>(Jp 1∘Jx∘Jx∘Jx∘JA #[vB 0,vB 0,vI 0,vI 0,vN]) λw3 p=>(JV aG aO (h1:=by exact uQ _ _ _)) λS=>(bM 2∘JQ) λa Z e=>?_
  refine wp_seq ?_
  refine F7 (i:=5) ?_
  refine Jb Z e ((Jp 1∘eH aG O0∘Jp 1∘fD #[vB b.kind,vB b.cpu,vI b.lost,vI b.next,abl f b.evs g,vI m]∘Jp 1∘Jq) λa Z e=>?_)
  refine uJ Z (i:=5) (vs:=[.agg #[vB b.kind,vB b.cpu,vI b.lost,vI b.next,abl f b.evs g,vI m],vI x]) rfl rfl rfl rfl rfl rfl de (hy d F _ _ f g b m x Q H G o s (aal (es:=[.blk p (b.cells f g) 85,.blk n #[abl X d k] 30]) (e.pt (fs':=(abn f b.evs g fC 73 11:: .blk p (b.cells f g) 85:: .blk n #[abl X d k] 30::F)) 3 [1,0,2]))) qnh ?_
  clear Z e;rintro v t a ⟨y,e,(⟨I,z,J⟩|⟨I,z,K⟩)⟩ Z<;>injection z with z<;>subst z
  ·
   replace e:Mem W t (.blk p (b.cells f g) 85:: .blk n #[abl X d k] 30::y):=aag (es:=[.blk p (b.cells f g) 85,.blk n #[abl X d k] 30]) e
   have u:=H;rw [I] at u;obtain ⟨T,L,_⟩:=QX u;have M:abo (d.drop m)<abo d:=by rw [abE];omega
   refine Jb Z e ((Jp 4∘Jo (.bool false) (by rw [I];simp)∘Jp 1∘aJ∘Jq∘aQ∘JR∘Jc O1∘Jp 1∘Jy (v:= .slice (if k=m then X else X.map (·.add (m*1))) (abo d-m) (k-m)) (h:=by exact aaf bA (j:=m) rfl rfl rfl om)∘Jo (.slice (if k=m then X else X.map (·.add (m*1))) (abo (d.drop m)) (k-m)) (by rw [abE])∘JW gu aO) λU=>(oo∘Jq) λa Z e=>?_)
   exact ⟨_,M,(d.drop m),if k=m then X else X.map (·.add (m*1)),k-m,y,J,aa4 R L r,by rw [abE];omega,xU o m,by omega,rfl,Z.sub kr,e.pt 2 [1]⟩
  ·
   replace e:Mem W t (.blk p (b.cells f g) 85:: .blk n #[abl X d k] 30::y):=aag (es:=[.blk p (b.cells f g) 85,.blk n #[abl X d k] 30]) e
   refine Jb Z e ((Jp 5∘aJ∘Jq∘JT∘JZ) λa Z e=>?_)
   exact yK rfl Z (⟨_,rfl,y,aan [.blk p (b.cells f g) 85,.blk n #[abl X d k] 30] e,.inr K⟩)
 have N:d=[]:=af0.1 om
 refine (JF∘JX) ?_
 subst N
 intro a Z e
 exact iB rfl Z (⟨_,rfl,F,aan [.blk n #[.slice X (abo ([]:List Nat)) k] 30] e,.inl Q⟩)
def q3a (A:aiW) (n c:Nat) (w:aiM):
    Calls abp 132 #[.slice A n c] w λr a=>∃g,r= .returned (.func (.func 178) #[] #[vP g 0])/\Mem w a [ahS g A n c]:=by
 refine (fE Tryz.func132 4) ?_
 exact (JP∘tV) λd g1=>(Jp 1∘Jr∘Jy (h:=by exact Yl.makeFunc (fst:=[]) (caps:=[vP g1 0]) rfl rfl rfl)∘Jp 1∘aL∘aP∘aW) λb=>by exact ⟨_,rfl,b⟩
def bT (bs:List Bk):List Nat:=bs.flatMap Bk.out
def fV:List Bk->Nat
 |[]=>0
 |b::t=>if b.err=0 then fV t else b.err
def q9 (bs:List Bk):List Nat×Nat:=if fV bs≠0 then ([],fV bs) else if 524288<abo (bT bs) then ([],3) else (bT bs,0)
def q06 (h:fV bs≠0):q9 bs=([],fV bs):=by unfold q9;rw [if_pos h]
theorem Zy (h:fV bs=0) (a:524288<abo (bT bs)):q9 bs=([],3):=by unfold q9;rw [if_neg om,if_pos a]
theorem Rn (h:fV bs=0) (a:¬524288<abo (bT bs)):q9 bs=(bT bs,0):=by unfold q9;rw [if_neg om,if_neg a]
theorem MZ (bs:List Bk):(q9 bs).1.length<=524288:=by grind [q9]
def Zz (h:k<abo q):fV ((q.drop k).map Hb.b)=if (q.getD k Hb.zero).b.err=0 then fV ((q.drop (k+1)).map Hb.b) else (q.getD k Hb.zero).b.err:=by
 rw [Zk Hb.zero h,acB,fV]
theorem ZA (h:k<abo q):bT ((q.take (k+1)).map Hb.b)=bT ((q.take k).map Hb.b)++(q.getD k Hb.zero).b.out:=by grind [Hb.zero,bT,qc6]
theorem zcw (bs:List Bk):abo (bT bs)<=4096*abo bs:=by induction bs<;>grind [QM,bT]
theorem q50 {q:List Hb} (k:Nat):abo (bT ((q.take k).map Hb.b))<=4096*abo q:=by grind [zcw]
def zja (h:∀b∈bs,b.Ok):∀x∈bT bs,x<256:=by
 intro x a
 unfold bT at a
 obtain ⟨b,c,a⟩:=acV.1 a
 exact zm8 (h b c) x a
def q51 (h:∀b∈bs,b.Ok):∀x∈(q9 bs).1,x<256:=by
 unfold q9
 split
 ·intro x a;cases a
 ·split
  ·intro x a;cases a
  ·exact zja h
def kQ (next:Int):Bk:=⟨2,0,0,next,[]⟩
def zjb {next:Int} (h:aX next):(kQ next).Ok:=⟨by show 2<256;decide,by show 0<256;decide,by show aX 0;unfold aX;decide,h,by intro e a;cases a⟩
def readAll (l:List Nat):List Bk×Nat:=if (yS l).2.2≠0 then ([],(yS l).2.2) else ((yS l).1,0)
def Ro (h:524288<abo l):readAll l=([],3):=by unfold readAll yS;rw [if_pos h];rfl
def Rp (h:¬524288<abo l) (a:(qx (abo l) l).2.2=e) (b:e≠0):readAll l=([],e):=by unfold readAll yS;rw [if_neg h,if_pos om,a]
def Rq (h:¬524288<abo l) (a:(qx (abo l) l).2.2=0):readAll l=((qx (abo l) l).1,0):=by unfold readAll yS;rw [if_neg h,if_neg om]
section
variable {W w:aiM} {fs:List aiX} {t bt:aiP}
def G9 {w w':aiM} {p:List Nat×Nat} {n:Int} (hb:Below w.heap.size w w') (a:p=([],er)) (b:n=er):mh w p.2 p.1 (.returned (.tuple #[vN,vI n])) w':=by
 subst a;subst b
 exact ⟨⟨none,0,rfl,acH _ _ _ _,abu _⟩,hb⟩
def ZB {p:List Bk×Nat} {n:Int} (h:Mem W w fs) (a:p=([],er)) (b:n=er):CF t bt W p.2 p.1 (.returned (.tuple #[vN,vI n])) w:=by
 subst a;exact zci h b
end
section
variable {W w w':aiM} {fs gs:List aiX} {f g1 g2:aiX}
end
section
variable {W w w':aiM} {fs gs:List aiX} {f1 f2:aiX}
end
def zjc {b:Bk} (h:b.err=0):13<=abo b.out:=by rw [MP h];have:=Y9 b;omega
def ZC:∀(bs:List Bk) (a:List Nat) (f:Nat),(∀b∈bs,b.Ok/\b.err=0)->abo (bT bs++a)<=f->
  abo a<=f-abo bs/\qx f (bT bs++a)=(bs++(qx (f-abo bs) a).1,abo (bT bs)+(qx (f-abo bs) a).2.1,(qx (f-abo bs) a).2.2)
 |[],a,f,_,c=>by
  refine ⟨c,?_⟩
  show qx f a=_
  simp [bT]
 |b::t,a,f,h,c=>by
  obtain ⟨g,d⟩:=h b acj
  have k:=zjc d
  have e:bT (b::t)++a=b.out++(bT t++a):=by unfold bT;rw [abR,abv]
  rw [e] at c⊢
  rw [abq] at c
  obtain ⟨l,i⟩:=ZC t a (f-1) (λx j=>h x (ab5 _ j)) om
  refine ⟨by rw [abV];omega,?_⟩
  rw [Zw om (by rw [abq];omega) (zcn g d _),afE,i]
  have e2:f-1-abo t=f- (abo t+1):=by omega
  have e3:bT (b::t)=b.out++bT t:=by unfold bT;rw [abR]
  rw [abV,e2,e3,abq,Nat.add_assoc]
  rfl
theorem q52 (h:∀b∈bs,b.Ok/\b.err=0) (c:abo (bT bs)<=524288):yS (bT bs)=(bs,abo (bT bs),0):=by
 have a:=(ZC bs [] (abo (bT bs)) h (by simp)).2
 rw [abM,Zv (l:=[]) rfl] at a
 unfold yS
 rw [if_neg om,a,abM]
 rfl
theorem q07 {p:Nat} (h:yS l=(bs,p,0)):readAll l=(bs,0):=by unfold readAll;rw [h];rfl
theorem ZE:∀{bs:List Bk},(∀b∈bs,b.err=0)->fV bs=0:=by intro x;induction x<;>grind [fV]
def q08 (h:∀b∈bs,b.err=0) (a:abo (bT bs)<=524288):q9 bs=(bT bs,0):=Rn (ZE h) om
section
variable {W w:aiM} {a b c:List aiX} {t:aiP} {q:List Hb}
end
instance ZF:DecidableEq It:=λ⟨a,b⟩ ⟨c,d⟩=>decidable_of_iff (a=c/\b=d) (by rw [It.mk.injEq])
structure gI where
 x:Sb
 A:aiW
 c:Nat
def gI.zero:gI:=⟨⟨false,0,0,⟨0,0⟩,[]⟩,none,0⟩
def yT (h:gI):List aiN:=(h.x.cells h.A h.c).toList
def ZL (h:gI):abo (yT h)=6:=rfl
structure qG (W:aiM) (h:gI):Prop where
 ok:h.x.Ok
 hc:abo h.x.l<=h.c
 hm:abo h.x.l<=9223372036854775807
 rd:Rd W W.heap.size 11 h.A (abo h.x.l) (h.x.l.flatMap sJ)
def zne:EI abp 102 113 (.agg (gI.zero.x.cells none 0)) 6 48:=⟨by kernel_rfl,by kernel_rfl,rfl,by omega⟩
def rU (l:List gI):List Bk:=l.map λh=>h.x.made
def q09 {l:List gI} (h:k<abo l):rU (l.take (k+1))=rU (l.take k)++[(l.getD k gI.zero).x.made]:=by
 unfold rU
 rw [qc6 gI.zero h,abZ]
 rfl
def ZM {l:List gI} (h:∀x∈l,qG W x):∀b∈rU l,b.Ok/\b.err=0:=λb a=>by
 unfold rU at a
 obtain ⟨x,c,rfl⟩:=ab7.1 a
 have:=ZJ (h x c).ok
 exact ⟨this.1,this.2.1⟩
def q54 {l:List gI} (h:∀x∈l,qG W x):∀b∈rU l,abo b.evs<=1000000:=λb a=>by
 unfold rU at a
 obtain ⟨x,c,rfl⟩:=ab7.1 a
 have:=(ZJ (h x c).ok).2.2
 omega
def ZN (l:List gI):abo (rU l)=abo l:=by unfold rU;rw [abw]
theorem AB (a:q.map Hb.b=bs) {p:Bk->Prop} (h:∀b∈bs,p b):∀x∈q,p x.b:=λx c=>h x.b (by rw [<-a];exact List.mem_map_of_mem c)
section
open Go.ChangeShapes Go.WideShapes Go.ChangeAt
section
variable {H:Type} {enc:aiP×aiN->H} {W:aiM} {b0:Nat} {v:aiN} {d:DataW H} {p:List MemPlace}
def zcy:Tryz.prog.underlying 4=some .bool:=by kernel_rfl
def q1a:Tryz.prog.cellsOf 4=1:=by kernel_rfl
def Hf:fieldAt abp 113 0 0 4=true:=by kernel_rfl
def Hg:fieldAt abp 113 1 1 5=true:=by kernel_rfl
def Hl:fieldAt abp 113 2 2 61=true:=by kernel_rfl
def Ho:fieldAt abp 113 3 3 110=true:=by kernel_rfl
def Hq:fieldAt abp 113 4 5 111=true:=by kernel_rfl
def ZO:Tryz.prog.cellsOf 113=6:=by kernel_rfl
def zjd:Tryz.prog.underlying 102=some (.slice 113):=by kernel_rfl
set_option maxRecDepth 100000 in
theorem zcz {y:DataW H×List MemPlace} (f:DataW.trod enc Tryz.prog W 0 (λ_=>true) true m 113 r=some y):∃x:gI,yT x=r/\qG W x:=by
 obtain ⟨g,_,K,g0⟩:=q7 Hf f
 obtain ⟨_,_,L,g1⟩:=q7 Hg f
 obtain ⟨_,_,M,k⟩:=q7 Hl f
 obtain ⟨_,_,N,n⟩:=q7 Ho f
 obtain ⟨_,_,O,o⟩:=q7 Hq f
 rw [ZO] at g
 obtain ⟨e,h,_⟩:=DataW.trod_bool zcy g0
 obtain ⟨cpu,e1,_,q⟩:=DataW.trod_int FN g1
 obtain ⟨i,e2,u⟩:=Zu k
 obtain ⟨_,j⟩:=PD q35 n
 obtain ⟨s,a,ws⟩:=j 0 .i64 rfl
 obtain ⟨t,b,w⟩:=j 1 .i64 rfl
 obtain ⟨A,c,l,e4,z,B,C,D⟩:=zcv o
 rw [q1a] at h
 rw [za7] at e1
 rw [Zt] at e2
 rw [q5y] at e4
 have E:=vg h
 have F:=vg e1
 have G:=vg e2.symm
 have I:=vg e4
 rw [q0f,List.getElem?_take,List.getElem?_drop] at a b
 simp only [Nat.reduceLT,if_true] at a b
 have J:=jo q
 refine ⟨⟨⟨e,cpu.toNat,i,⟨s,t⟩,l⟩,A,c⟩,?_,⟨⟨by show cpu.toNat<256;omega,u,⟨WU ws,WU w⟩,C⟩,z,by unfold maxLen at B;show l.length<=_;omega,D⟩⟩
 refine ((zi9 g E F G a b I).trans ?_).symm
 show _=[Value.bool e,.int .u8 ((cpu.toNat:Nat):Int),.int .u32 (i:Int),.int .i64 s,.int .i64 t,.slice A l.length c]
 rw [Int.toNat_of_nonneg J.1]
 rfl
end
end
end Go.Proofs.YtekiimhdnigmcaaGreatDoor
