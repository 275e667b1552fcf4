/- Parts. -/
import Derived.Test.YtekiimhdnigmcaaGreatDoorQtZ4
set_option linter.all false
set_option maxRecDepth 100000
set_option maxHeartbeats 1000000
namespace Go.Proofs.YtekiimhdnigmcaaGreatDoor
open Go.RowKit
open List renaming length→abn
open _root_.Go.Proofs.Tryz renaming prog→abo
open _root_.List renaming length_append→abp,getElem?_eq_getElem→abq,getD_eq_getElem?_getD→abt,append_assoc→abu,length_take→abv,length_map→abx,getElem?_eq_some_iff→abB,length_drop→abC,replicate→abD,mem_of_getElem?→abH,take_of_length_le→abI,length_set→abJ,flatMap_cons→abK,append_nil→abP,mem_cons→abS,length_cons→abT,map_append→abU,flatMap_append→abX,mem_or_eq_of_mem_set→abZ,mem_map→ab0,take_append_drop→ab1,length_replicate→ab2,mem_append→ab6,drop_of_length_le→ab9,mem_cons_of_mem→acd,drop_eq_getElem_cons→ace,mem_of_mem_take→acf,getElem_of_mem→aco,map_cons→acu,mem_flatMap→acw,mem_cons_self→acB,eq_of_mem_replicate→acR,mem_append_right→acW,getElem?_map→ac0,perm_middle→ac6,mem_append_left→adh,take_length→adr,take_left→adJ,getElem?_append_right→adK,getElem?_eq_none→adL,getElem?_append_left→adO,getElem?_cons_succ→adQ,length→adZ,length_eraseIdx→aeG,set_append→aeJ,set_set→ae1,set_cons_zero→aff,drop_left→afj,ext_getElem→afz,length_eq_zero_iff→afJ,getElem?_replicate→afL,mem_singleton→agc
open Nat renaming le_refl→abr,zero_le→abA,lt_or_ge→ab5,zero_add→ab7,eq_zero_or_pos→acr,mul_one→acX,min_eq_left→ac4,pow_le_pow_right→adk,succ_mul→adD,mod_lt→adW,sub_self→aeb,div_le_self→aeS,min→afY,min_eq_right→agM,mul_comm→ahe
open Int renaming toNat_natCast→abE,toNat_of_nonneg→abQ,toNat→afg,tmod→afu,tmod_eq_of_lt→agz
open Bool renaming and_eq_true→abG,true_and→ab8
open Value renaming bool→abM,int→abO,oneCell'→abR,slice→afp
open Go renaming IntKind→acj
open World renaming ownsRow_nil→acA
open Addr renaming add_mid→acC
open DataW renaming trod→adI,trod_int→ad4
open Extern.SlicesOverlaps renaming overlaps→adU
open _root_.Array renaming getElem?_toList→aez
open Lit renaming int→aeM
open Rw renaming l→aeR
open Classical renaming byContradiction→afb
open List.Perm renaming cons→af7
open Fact renaming blk→ag0
variable {W w:World} {F T fs:List Fact} {x:aF} {m b d e a f g c k n cr er:Nat} {l:List Nat} {s:bE} {t:Tk} {A gA:Option Addr} {o:bK} {z:List Rw} {q:List Hb} {B:List Value} {bs:List Bk}
def Rv (n:Nat) (h:Mem W w F) (i:F.drop n=jC f x m b d e a++T) (j:dO x m b d e a) (hc:(c:Int)<x.au) (k:g<a) (o:kX x.av g c=l):Calls abo 200 #[vP f 0,vI g,vI c] w (MZ w l):=o▸zcw n h i j hc k
def Rx {m n e f a g c:Nat} (b:dO x m n e f a) (o:g<a) (i:kX x.av g c=l):∀h∈l,0<h/\h<a:=by
 subst i
 intro h j
 obtain ⟨_,_,_,d⟩:=mI b.sh.cfg
 have p:=b.sh.rs
 have q:=b.ln.s
 have k:=qnl (s:=x.av) (c:=c) (g:=g) (yK d om) h j
 exact ⟨k.1,by omega⟩
def qnv {s:bE} {c:Nat}:∀(f g:Nat),abn (rC s c f g)<=f
 |0,g=>abr _
 | f + 1, g => by
  rw [rC]
  split
  ·exact abA _
  ·split
   ·rw [abT];have:=qnv (s:=s) (c:=c) f (s.par g).toNat;omega
   ·exact abA _
def Ry {m n d e a g c:Nat} (b:dO x m n d e a) (h:g<a) (f:kX x.av g c=l):abn l<=1000000:=by
 subst f
 have i:abn (kX x.av g c)<=g:=qnv (s:=x.av) (c:=c) g g
 have j:=b.few.s
 have k:=b.ln.s
 omega
def M6 {h:Nat} {E:Option Addr} {i:Nat} (n:Nat) (y:Mem W w F) (z:F.drop n=jC h x m d e f b++T) {j:Nat} (A:F[j]?=some (.row (.slice E (abn l) i) (abn l) (l.map dM) 3 1)) (B:j<n) (C:rX x m d e f b) (k:∀g∈l,0<g/\g<b) (o:abn l<=1000000)
  (p:dF x.gs=true) (q:abn x.rs=abn x.gs) (s:eP x.gs x.au x.rs) (t:x.aj<18446744073709551616) (u:x.au<=64) (hc:(c:Int)<x.au):
  Calls abo 206 #[vP h 0,.slice E (abn l) i,vI c] w (λr v=>∃a,r= .returned (.tuple #[])/\abn a=b/\eP x.gs x.au a/\({x with rs:=a}:aF).av=gN x.av l c/\Mem W v (F.take n++(jC h {x with rs:=a} m d e f b++T))):=
 (q1k W w x h c m d e f b C (F.take n++T) E i l (adh _ (abH (by rw [List.getElem?_take_of_lt B];exact A))) k o p q s t u hc (y.front n z)).mono λr v ⟨a,D,G,H,I,J⟩=>⟨a,D,G,H,I,J.back⟩
abbrev ahX:=λa b c=>((5,vI 0)::(4,vI 0)::(3,vP a 0)::(0,vP b 0)::c:List (Nat×Go.Value))
abbrev aiq:=λa b c d e f g h i j k l m n o p q r s t u=>(fG a b c d::fI e f g h::fI i j k l::fT m n o p::fS q r s t::u:List Fact)
def qmp (W w:World) (x:aF) (N:Nat) (H I J D K:Nat) (l:dO x H I J D K) (o:bK) (E:o.Ok) (T:List Fact) (b:Mem W w (jC N x H I J D K++T)):
    Calls abo 153 #[vP N 0,.agg o.cells] w (kg W N T (yN x.av o)):=by
 obtain ⟨cp,cr,gA,gc,gs,lA,lc,cl,uA,uc,cu,tA,tc,ts,sA,sc,rs⟩:=x
 replace b:Mem W w (fM N cp cr gA H gc lA I lc uA J uc tA D tc sA K sc::aiq gA H gc gs lA I lc cl uA J uc cu tA D tc ts sA K sc rs (fR rs++(T))):=b
 obtain ⟨O,P,Q,A,R⟩:=l.ln
 replace O:abn gs=H:=O;replace P:abn cl=I:=P;replace Q:abn cu=J:=Q;replace A:abn ts=D:=A;replace R:abn rs=K:=R
 have e:=l.ln
 have hsp:eP gs cp rs:=l.spots
 have hrg:abn rs=abn gs:=l.sh.rs
 have hcr:cr<18446744073709551616:=l.ok.aj
 obtain ⟨F,G,_,B⟩:=mI l.sh.cfg
 replace F:1<=cp:=F;replace G:cp<=64:=G;replace B:dF gs=true:=B
 have nM:=(qw B).1;have nN:=(qw B).2.1
 have pX:(abn cl:Int)=cp:=l.sh.cl;have oI:(abn cu:Int)=cp:=l.sh.cu
 have nO:abn ts<=1000000:=l.few.t
 have hoc:=E.cpu;have hot:=E.task;have hog:=E.group;have how:=E.weight;have S:=E.to;have U:=E.ticks;have yX:=E.mask;have pY:=E.kind;unfold aW at hoc hot hog how S U
 refine (mg b Tryz.func153 55) ?_
 refine (JP∘JE) λw3 g3=>(Jp 2∘bA 1∘Jj∘JQ∘JB∘JP∘Jg 2 O0∘JI (h:=by exact λb=>MR o.task _)) λuY c=>(Jp 2∘dY∘Jj) (oW (λd=>?_) λd=>?_)
 ·
  exact (JT∘bF 2∘bO) λb=>by exact qt (y:=(⟨cp,cr,gA,gc,gs,lA,lc,cl,uA,uc,cu,tA,tc,ts,sA,sc,rs⟩:aF)) 1 b rfl e (if_pos (decide_eq_false d))
 refine (JF∘JP∘Jg 4 O0∘JL (h:=by exact λb=>MB o.weight _)) ?_
 rintro b _ uW ⟨rfl,c⟩
 refine ⟨_,rfl,_,b.call c,?_⟩
 refine (Jp 2∘dY∘Jj) (oW (λg=>?_) λg=>?_)
 ·
  exact (JT∘bF 2∘bO) λb=>by exact qt (y:=(⟨cp,cr,gA,gc,gs,lA,lc,cl,uA,uc,cu,tA,tc,ts,sA,sc,rs⟩:aF)) 1 b rfl e ((if_neg (nf (decide_eq_true d))).trans (if_pos (decide_eq_false g)))
 refine (aU∘bN 1∘Jg 2 O0∘JI (h:=by exact λb=>Hq 1 b rfl l o.task)) λLG c=>(Jp 1∘dY∘bA 2∘aK∘Jj) (Ji (λm=>?_) λm=>?_)
 ·
  exact (JT∘bF 2∘bO) λb=>by exact qt (y:=(⟨cp,cr,gA,gc,gs,lA,lc,cl,uA,uc,cu,tA,tc,ts,sA,sc,rs⟩:aF)) 1 b rfl e ((if_neg (nf (decide_eq_true d))).trans ((if_neg (nf (decide_eq_true g))).trans (if_pos (m))))
 obtain ⟨k,t,hk,ht,V,yY⟩:=Ht m
 replace hk:fidx ts o.task=(k:Int):=hk;replace ht:ts[k]?=some t:=ht;replace V:k<abn ts:=V
 obtain ⟨p,L⟩:=l.task ht
 have hti:=p.id;have vZ:=p.group;have X:=p.cpu;have HY:=p.weight;have Y:=L.v;have htr:=L.r;have HZ:=L.mask
 replace X:0<=t.cpu/\t.cpu<cp:=X
 obtain ⟨gt,hgt⟩:∃n:Nat,t.group=(n:Int):=⟨t.group.toNat,by omega⟩
 obtain ⟨ct,hct⟩:∃n:Nat,t.cpu=(n:Int):=⟨t.cpu.toNat,by omega⟩
 obtain ⟨s,hwt⟩:∃n:Nat,t.weight=(n:Int):=⟨t.weight.toNat,by omega⟩
 have M:(⟨t.v,t.r,s⟩:En).Ok:=aaj p.ent hwt Y
 obtain ⟨z,xV⟩:∃n:Nat,o.weight=(n:Int):=⟨o.weight.toNat,by omega⟩
 have hz:1<=z/\z<=65536:=by omega
 repeat (first|clear Z|clear b)
 intro a Z b
 obtain ⟨q,rfl⟩:=b.rat 5 k (hk:=(by omega:k<D))
 refine Jb Z b ((aU∘aJ 1∘Jn∘Jf 0∘Jg 5 O1∘Jp 1∘Jo (vI k) (by rw [hk])∘nU k 8∘Jp 1∘aH∘Jj) λa Z b=>?_)
 refine qz (λaS wS=>∃(C:Nat),Fr aS 55 [] ((8,vP C 0)::(7,vP q (k*8))::(25,.bool false)::(6,vI (fidx ts o.task))::(15,.bool false)::(10,.bool false)::ahX g3 N [])/\Mem W wS (.blk C ((⟨t.v,0,z⟩:En).cells) 333::.blk g3 o.cells 214::fM N cp cr gA H gc lA I lc uA J uc (some ⟨q,0,none⟩) D tc sA K sc::aiq gA H gc gs lA I lc cl uA J uc cu (some ⟨q,0,none⟩) D tc ts sA K sc rs (fR rs++(T)))) ?_ ?_
 ·
  refine Jb Z b ((Vs .n [20]) λrz=>(Vp [0,4,8]∘Vf 13 4∘Vn 1∘Vf 2 6∘Vy 3 (v:=vQ t.v) (h:=by exact Pd rfl rfl kr (λ_ h=>h.qu ql (i:=5) rfl (k:=k) (off:=6) (x:=t) (ht) rfl))∘Vn 5∘Vf 6 7∘Vy 7 (v:=vW t.r) (h:=by exact Pd rfl rfl kr (λ_ h=>h.qu ql (i:=5) rfl (k:=k) (off:=7) (x:=t) (ht) rfl))∘Vn 9∘Vf 10 2∘Vy 11 (v:=vI t.weight) (h:=by exact Pd rfl rfl kr (λ_ h=>h.qu ql (i:=5) rfl (k:=k) (off:=2) (x:=t) (ht) rfl))∘Vo (vI s) (by rw [hwt])∘Vc 14 O0∘Vo (vI z) (by rw [xV])) λa Z b u=>?_)
  refine zd [12,19] kr rfl ?_
  refine all_cons ?_ ?_
  ·refine qq Z (i:=12) rfl rfl ?_
   refine jd Z b [vQ t.v,vW t.r,vI s] (.agg #[vQ t.v,vW t.r,vW s]) rfl rfl (zc t.v t.r (s:Int) om _) λFD c b a Z=>?_
   refine ay (b.pt 7 [0,1,2,3,4,5,6]) (λu=>?_)
   refine zd [15,19] kr rfl ?_
   refine all_cons ?_ ?_
   ·refine qq Z (i:=15) rfl rfl ?_
    refine jd Z b [.agg #[vQ t.v,vW t.r,vW s],vI z] (.tuple #[.agg ((⟨t.v,0,z⟩:En).cells),vI 0]) rfl rfl (Ee (⟨t.v,t.r,s⟩:En) M z hz _) λAa c b a Z=>?_
    refine ay (b.pt 7 [0,1,2,3,4,5,6]) (λu=>?_)
    refine Vb Z b u ((Vp [16]∘Vx 17∘Vx 18∘VA 19 .n #[vQ 0,vW 0,vW 0]) λw8 C=>λa Z b u=>?_)
    refine s_on Z 20 rfl (bT Z b 0 rfl rfl rfl rfl rfl qp rfl rfl (mh (⟨t.v,0,z⟩:En)) λj b=>?_)
    refine dN kr ?_
    refine ap Z (bU kr) [21] (bt 22 []) [] λa Z=>?_
    refine qe kr ?_
    exact ⟨C,Z.sub kr,b.pt 8 [0,1,2,3,4,5,6,7]⟩
   refine all_cons ?_ all_nil
   refine qq Z (i:=19) rfl rfl ?_
   refine gZ Z b #[vQ 0,vW 0,vW 0] ?_
   clear Z b;intro a w8 C Z b
   refine ay (b.pt 8 [1,2,3,4,5,6,7]) (λu=>?_)
   refine Vb Z b u ((VI 15 (.f .n) (h:=by exact λb=>Ee (⟨t.v,t.r,s⟩:En) M z hz _)) λAa c=>(Vp [16]∘Vx 17∘Vx 18) λa Z b u=>?_)
   refine s_on Z 20 rfl (bT Z b 0 rfl rfl rfl rfl rfl qp rfl rfl (mh (⟨t.v,0,z⟩:En)) λj b=>?_)
   refine dN kr ?_
   refine ap Z (bU kr) [21] (bt 22 []) [] λa Z=>?_
   refine qe kr ?_
   exact ⟨C,Z.sub kr,b.pt 8 [0,1,2,3,4,5,6,7]⟩
  refine all_cons ?_ all_nil
  refine qq Z (i:=19) rfl rfl ?_
  refine gZ Z b #[vQ 0,vW 0,vW 0] ?_
  clear Z b;intro a w8 C Z b
  refine ay (b.pt 8 [1,2,3,4,5,6,7]) (λu=>?_)
  refine Vb Z b u ((VI 12 (.f .n) (h:=by exact λb=>zc t.v t.r (s:Int) om _)) λFD c=>(VI 15 (.f .n) (h:=by exact λb=>Ee (⟨t.v,t.r,s⟩:En) M z hz _)) λAa c=>(Vp [16]∘Vx 17∘Vx 18) λa Z b u=>?_)
  refine s_on Z 20 rfl (bT Z b 0 rfl rfl rfl rfl rfl qp rfl rfl (mh (⟨t.v,0,z⟩:En)) λj b=>?_)
  refine dN kr ?_
  refine ap Z (bU kr) [21] (bt 22 []) [] λa Z=>?_
  refine qe kr ?_
  exact ⟨C,Z.sub kr,b.pt 8 [0,1,2,3,4,5,6,7]⟩
 clear Z b;rintro a qY ⟨C,Z,b⟩
 exact Jb Z b ((aJ 1∘dZ qp O0∘JO (h:=by exact λb=>MQ t (⟨t.v,0,z⟩:En) uh b ht A (Ra Y hz))) λw54=>(nT∘bA 2∘aP∘bO) λb=>by exact qt (y:=(⟨cp,cr,gA,gc,gs,lA,lc,cl,uA,uc,cu,some ⟨q,0,none⟩,tc,(ts.set k (t.put (⟨t.v,0,z⟩:En))),sA,sc,rs⟩:aF)) 2 b rfl (Ef e (by rw [abJ];exact A)) (qr7 (x:=(⟨cp,cr,gA,gc,gs,lA,lc,cl,uA,uc,cu,some ⟨q,0,none⟩,tc,ts,sA,sc,rs⟩:aF)) (decide_eq_true d) (decide_eq_true g) hk ht xV))
abbrev ah5 {α:Type}:=λa b (c:List α) d e f g h i=>((9,vP a 0)::(8,abk b c d)::(7,vP e (f*8))::(22,.bool false)::(19,.bool false)::(6,vI (fidx g h))::(14,.bool false)::i:List (Nat×Go.Value))
def qvg (W w:World) (x:aF) (O:Nat) (S U V P H:Nat) (q:dO x S U V P H) (o:bK) (ho:o.Ok) (T:List Fact) (b:Mem W w (jC O x S U V P H++T)):
    Calls abo 149 #[vP O 0,.agg o.cells] w (kg W O T (yM x.av o)):=by
 obtain ⟨cp,cr,gA,gc,gs,lA,lc,cl,uA,uc,cu,tA,tc,ts,sA,sc,rs⟩:=x
 replace b:Mem W w (fM O cp cr gA S gc lA U lc uA V uc tA P tc sA H sc::aiq gA S gc gs lA U lc cl uA V uc cu tA P tc ts sA H sc rs (fR rs++(T))):=b
 obtain ⟨mK,hll,nL,I,hls⟩:=q.ln
 replace mK:abn gs=S:=mK;replace hll:abn cl=U:=hll;replace nL:abn cu=V:=nL;replace I:abn ts=P:=I;replace hls:abn rs=H:=hls
 have m:=q.ln
 have hsp:eP gs cp rs:=q.spots
 have hrg:abn rs=abn gs:=q.sh.rs
 have X:cr<18446744073709551616:=q.ok.aj
 obtain ⟨hcp1,J,_,K⟩:=mI q.sh.cfg
 replace hcp1:1<=cp:=hcp1;replace J:cp<=64:=J;replace K:dF gs=true:=K
 have nM:=(qw K).1;have nN:=(qw K).2.1
 have pX:(abn cl:Int)=cp:=q.sh.cl;have oI:(abn cu:Int)=cp:=q.sh.cu
 have nO:abn ts<=1000000:=q.few.t
 have hoc:=ho.cpu;have hot:=ho.task;have hog:=ho.group;have how:=ho.weight;have oJ:=ho.to;have oK:=ho.ticks;have yX:=ho.mask;have pY:=ho.kind;unfold aW at hoc hot hog how oJ oK
 obtain ⟨g,rfl⟩:=zo (b.own (i:=5) rfl) om
 refine (mg b Tryz.func149 103) ?_
 refine (JP∘JE) λw3 g3=>(bM 2∘JQ∘JP∘Jg 2 O0∘JI (h:=by exact λb=>MR o.task _)) λuY C=>(Jp 1∘bQ∘Jj) (oW (λp=>?_) λp=>?_)
 ·
  exact (JT∘bF 2∘bO) λb=>by exact qt (y:=(⟨cp,cr,gA,gc,gs,lA,lc,cl,uA,uc,cu,tA,tc,ts,some ⟨g,0,none⟩,sc,rs⟩:aF)) 1 b rfl m (if_pos (decide_eq_false p))
 refine (aU∘aJ 1∘Jg 2 O0∘JI (h:=by exact λb=>Hq 1 b rfl q o.task)) λuW C=>(Jp 1∘dY∘Jj∘JQ∘JB∘aJ 3∘bQ∘Jj) (Ji (λu=>?_) λu=>?_)
 ·
  exact (JT∘bF 2∘bO) λb=>by exact qt (y:=(⟨cp,cr,gA,gc,gs,lA,lc,cl,uA,uc,cu,tA,tc,ts,some ⟨g,0,none⟩,sc,rs⟩:aF)) 1 b rfl m ((if_neg (nf (decide_eq_true p))).trans (if_pos (u)))
 obtain ⟨k,t,hk,ht,hkl,yY⟩:=Ht u
 replace hk:fidx ts o.task=(k:Int):=hk;replace ht:ts[k]?=some t:=ht;replace hkl:k<abn ts:=hkl
 obtain ⟨L,hto⟩:=q.task ht
 have hti:=L.id;have vZ:=L.group;have htc:=L.cpu;have HY:=L.weight;have yZ:=hto.v;have htr:=hto.r;have HZ:=hto.mask
 replace htc:0<=t.cpu/\t.cpu<cp:=htc
 obtain ⟨gt,hgt⟩:∃n:Nat,t.group=(n:Int):=⟨t.group.toNat,by omega⟩
 obtain ⟨ct,Y⟩:∃n:Nat,t.cpu=(n:Int):=⟨t.cpu.toNat,by omega⟩
 obtain ⟨G,hwt⟩:∃n:Nat,t.weight=(n:Int):=⟨t.weight.toNat,by omega⟩
 have rR:(⟨t.v,t.r,G⟩:En).Ok:=aaj L.ent hwt yZ
 repeat (first|clear Z|clear b)
 intro a Z b
 obtain ⟨d,rfl⟩:=b.rat 5 k (hk:=(by omega:k<P))
 refine Jb Z b ((JF∘aJ 1∘Jn∘Jf 0∘Jg 5 O1∘Jp 1∘Jo (vI k) (by rw [hk])∘nU k 8∘Jf 5∘Jy (v:= .bool t.ready) (h:=by exact Pd rfl rfl kr (λ_ h=>h.qu ql (i:=5) rfl (k:=k) (off:=5) (x:=t) (ht) rfl))∘Jp 1∘aH∘Jj) (Ju (λM=>?_) λM=>?_))
 ·
  exact (JT∘bF 2∘bO) λb=>by exact qt (y:=(⟨cp,cr,gA,gc,gs,lA,lc,cl,uA,uc,cu,some ⟨d,0,none⟩,tc,ts,some ⟨g,0,none⟩,sc,rs⟩:aF)) 1 b rfl m ((if_neg (nf (decide_eq_true p))).trans ((if_neg (u)).trans (if_pos (by rw [xS (s:=aF.av (⟨cp,cr,gA,gc,gs,lA,lc,cl,uA,uc,cu,some ⟨d,0,none⟩,tc,ts,some ⟨g,0,none⟩,sc,rs⟩:aF)) hk ht];exact M))))
 have hnr:t.ready=false:=by simpa using M
 obtain ⟨Q,hem⟩:∃l,kX (⟨cp,cr,gA,gc,gs,lA,lc,cl,uA,uc,cu,some ⟨d,0,none⟩,tc,ts,some ⟨g,0,none⟩,sc,rs⟩:aF).av gt ct=l:=⟨_,rfl⟩
 have tN:=λh hh=>Rx (x:=(⟨cp,cr,gA,gc,gs,lA,lc,cl,uA,uc,cu,some ⟨d,0,none⟩,tc,ts,some ⟨g,0,none⟩,sc,rs⟩:aF)) q (by omega:gt<H) hem h hh
 have tO:=Ry (x:=(⟨cp,cr,gA,gc,gs,lA,lc,cl,uA,uc,cu,some ⟨d,0,none⟩,tc,ts,some ⟨g,0,none⟩,sc,rs⟩:aF)) q (by omega:gt<H) hem
 obtain ⟨⟨yA,yc,yl⟩,hy⟩:∃y,rs.getD gt Rw.zero=y:=⟨_,rfl⟩
 have hys:=hsp gt om;rw [hy] at hys
 have hyl:(abn yl:Int)=cp:=hys.1
 repeat (first|clear Z|clear b)
 intro a Z b
 obtain ⟨gy,rfl⟩:=b.jG 7 rfl om hy om
 obtain ⟨yz,hyz⟩:∃z,yl[ct]?=some z:=⟨_,abq om⟩
 have nC:=hys.2 yz (abH hyz)
 have hyv:=nC.1.v;have qL:=nC.1.r;have r9:=nC.1.floor
 obtain ⟨e,N⟩:∃e,(⟨t.v,t.r,G⟩:En).woken yz.floor cr=e:=⟨_,rfl⟩
 have uX:e.Ok/\e.w=G:=by rw [<-N];exact aay rR _ _ r9
 have hev:=uX.1.2;have her:=Ay uX.1.1
 refine Jb Z b ((aU∘aJ 1∘Jn∘Jf 0∘Jg 5 O1∘Jp 1∘Jo (vI k) (by rw [hk])∘nU k 8∘Jp 1∘aH∘Jj) λa Z b=>?_)
 refine wp_seq ?_
 refine Jb Z b ((Vs .n []) λQg=>(Vp [0,1,5]∘Vn 2∘Vf 3 1∘Vy 4 (v:=vI t.group) (h:=by exact Pd rfl rfl kr (λ_ h=>h.qu ql (i:=5) rfl (k:=k) (off:=1) (x:=t) (ht) rfl))∘Vo (vI gt) (by rw [hgt])∘Vn 6∘Vf 7 3∘Vy 8 (v:=vI t.cpu) (h:=by exact Pd rfl rfl kr (λ_ h=>h.qu ql (i:=5) rfl (k:=k) (off:=3) (x:=t) (ht) rfl))∘Vo (vI ct) (by rw [Y])∘VK 9 .n (h:=by exact λb=>Rv 1 b rfl q (by show ((ct:Nat):Int)<cp;omega) om hem)) λD E BU am0=>(Vp [10]∘Vd∘aH) λa Z b=>?_)
 refine qz (λaS wS=>∃(F:Nat),Fr aS 103 [] (ah5 F D Q E d k ts o.task (ahX g3 O []))/\Mem W wS (.blk F e.cells 333::abl D Q E dM 3 1::.blk g3 o.cells 214::fM O cp cr gA S gc lA U lc uA V uc (some ⟨d,0,none⟩) P tc (some ⟨g,0,none⟩) H sc::aiq gA S gc gs lA U lc cl uA V uc cu (some ⟨d,0,none⟩) P tc ts (some ⟨g,0,none⟩) H sc rs (fR rs++(T)))) ?_ ?_
 ·
  refine Jb Z b ((Vs .n [42]) λrz=>(Vp [0,4,8,13,18,24,31]∘Vn 1∘Vf 2 6∘Vy 3 (v:=vQ t.v) (h:=by exact Pd rfl rfl kr (λ_ h=>h.qu ql (i:=6) rfl (k:=k) (off:=6) (x:=t) (ht) rfl))∘Vn 5∘Vf 6 7∘Vy 7 (v:=vW t.r) (h:=by exact Pd rfl rfl kr (λ_ h=>h.qu ql (i:=6) rfl (k:=k) (off:=7) (x:=t) (ht) rfl))∘Vn 9∘Vf 10 2∘Vy 11 (v:=vI t.weight) (h:=by exact Pd rfl rfl kr (λ_ h=>h.qu ql (i:=6) rfl (k:=k) (off:=2) (x:=t) (ht) rfl))∘Vo (vI G) (by rw [hwt])∘Vn 14∘Vf 15 0∘Vf 16 6∘Vc 17 O2∘Vn 19∘Vf 20 1∘Vy 21 (v:=vI t.group) (h:=by exact Pd rfl rfl kr (λ_ h=>h.qu ql (i:=6) rfl (k:=k) (off:=1) (x:=t) (ht) rfl))∘Vo (vI gt) (by rw [hgt])∘Vy 22 (h:=by exact Yl.iK g gt 1 rfl rfl rfl)∘Vy 23 (v:= .slice ((rs.getD gt Rw.zero).A) ((rs.getD gt Rw.zero).l.length) ((rs.getD gt Rw.zero).c)) (h:=by exact aaf 7 gt Rw.zero om rfl rfl rfl)∘Vo (vS gy (abn yl) yc) (by rw [hy])∘Vn 25∘Vf 26 3∘Vy 27 (v:=vI t.cpu) (h:=by exact Pd rfl rfl kr (λ_ h=>h.qu ql (i:=6) rfl (k:=k) (off:=3) (x:=t) (ht) rfl))∘Vo (vI ct) (by rw [Y])∘Vy 28 (h:=by exact Yl.iK gy ct 3 rfl rfl rfl)∘Vf 29 2∘Vy 30 (v:=vQ yz.floor) (h:=by exact Pd rfl rfl kr (λ_ h=>h.uy 8 (j:=2) rfl om hy (hyz) rfl))∘Vn 32∘Vf 33 0∘Vf 34 0∘Vf 35 1∘Vc 36 O2) λa Z b R=>?_)
  refine zd [12,41] kr rfl ?_
  refine all_cons ?_ ?_
  ·refine qq Z (i:=12) rfl rfl ?_
   refine jd Z b [vQ t.v,vW t.r,vI G] (.agg #[vQ t.v,vW t.r,vW G]) rfl rfl (zc t.v t.r (G:Int) om _) λw62 C b a Z=>?_
   refine ay (b.pt 8 [0,1,2,3,4,5,6,7]) (λR=>?_)
   refine zd [37,41] kr rfl ?_
   refine all_cons ?_ ?_
   ·refine qq Z (i:=37) rfl rfl ?_
    refine jd Z b [.agg #[vQ t.v,vW t.r,vW G],vQ yz.floor,vQ cr] (.tuple #[.agg e.cells,vI 0]) rfl rfl (El (⟨t.v,t.r,G⟩:En) e rR yz.floor cr r9 X N _) λM7 C b a Z=>?_
    refine ay (b.pt 8 [0,1,2,3,4,5,6,7]) (λR=>?_)
    refine Vb Z b R ((Vp [38]∘Vx 39∘Vx 40∘VA 41 .n #[vQ 0,vW 0,vW 0]) λw9 F=>λa Z b R=>?_)
    refine s_on Z 42 rfl (bT Z b 0 rfl rfl rfl rfl rfl qp rfl rfl (mh e) λB b=>?_)
    refine dN kr ?_
    refine ap Z (bU kr) [43] (bt 44 []) [] λa Z=>?_
    refine qe kr ?_
    replace Z:=Z.to (ah5 F D Q E d k ts o.task (ahX g3 O []))
    exact ⟨F,Z.sub kr,b.pt 9 [0,1,2,3,4,5,6,7,8]⟩
   refine all_cons ?_ all_nil
   refine qq Z (i:=41) rfl rfl ?_
   refine gZ Z b #[vQ 0,vW 0,vW 0] ?_
   clear Z b;intro a w9 F Z b
   refine ay (b.pt 9 [1,2,3,4,5,6,7,8]) (λR=>?_)
   refine Vb Z b R ((VI 37 (.f .n) (h:=by exact λb=>El (⟨t.v,t.r,G⟩:En) e rR yz.floor cr r9 X N _)) λM7 C=>(Vp [38]∘Vx 39∘Vx 40) λa Z b R=>?_)
   refine s_on Z 42 rfl (bT Z b 0 rfl rfl rfl rfl rfl qp rfl rfl (mh e) λB b=>?_)
   refine dN kr ?_
   refine ap Z (bU kr) [43] (bt 44 []) [] λa Z=>?_
   refine qe kr ?_
   replace Z:=Z.to (ah5 F D Q E d k ts o.task (ahX g3 O []))
   exact ⟨F,Z.sub kr,b.pt 9 [0,1,2,3,4,5,6,7,8]⟩
  refine all_cons ?_ all_nil
  refine qq Z (i:=41) rfl rfl ?_
  refine gZ Z b #[vQ 0,vW 0,vW 0] ?_
  clear Z b;intro a w9 F Z b
  refine ay (b.pt 9 [1,2,3,4,5,6,7,8]) (λR=>?_)
  refine Vb Z b R ((VI 12 (.f .n) (h:=by exact λb=>zc t.v t.r (G:Int) om _)) λw62 C=>(VI 37 (.f .n) (h:=by exact λb=>El (⟨t.v,t.r,G⟩:En) e rR yz.floor cr r9 X N _)) λM7 C=>(Vp [38]∘Vx 39∘Vx 40) λa Z b R=>?_)
  refine s_on Z 42 rfl (bT Z b 0 rfl rfl rfl rfl rfl qp rfl rfl (mh e) λB b=>?_)
  refine dN kr ?_
  refine ap Z (bU kr) [43] (bt 44 []) [] λa Z=>?_
  refine qe kr ?_
  replace Z:=Z.to (ah5 F D Q E d k ts o.task (ahX g3 O []))
  exact ⟨F,Z.sub kr,b.pt 9 [0,1,2,3,4,5,6,7,8]⟩
 clear Z b;rintro a qY ⟨F,Z,b⟩
 refine Jb Z b ((aJ 1∘dZ qp O0∘JO (h:=by exact λb=>MQ t e uS b ht I uX.1)) λRz=>(nT∘bA 1∘Jn∘Jf 5) λa Z b=>?_)
 refine fo Z 3 rfl rfl ?_
 refine zf Z b (i:=7) rfl rfl rfl rfl kr rfl rfl (by rw [qQ bS 8 ql,abJ];omega) λGU b=>?_
 replace b:=b.dw (i:=7) (ys:=(ts.set k {t.put e with ready:=true}).flatMap bS) rfl ((uL bS 8 ql (ts.set k (t.put e)) k (t.put e) {t.put e with ready:=true} (xR ht) 5 de _ rfl).trans (by rw [ae1]))
 refine Jb Z b ((nT∘bA 3∘Jn∘Jf 3∘Jy (v:=vI (({t.put e with ready:=true}:Tk).cpu)) (h:=by exact Pd rfl rfl kr (λ_ h=>h.qu ql (i:=7) rfl (k:=k) (off:=3) (x:=({t.put e with ready:=true}:Tk)) ((xR ht)) rfl))∘Jo (vI ct) (by rw [<-Y];try rfl)∘JL (h:=by exact λb=>M6 3 b rfl (j:=1) rfl de (Ef (ts':=ts.set k {t.put e with ready:=true}) m (by rw [abJ];exact I)) (tN) (tO) K hrg hsp X J (by show ((ct:Nat):Int)<cp;omega))) ?_)
 rintro b _ RA ⟨jL,rfl,hl2,hsp2,nP,xJ⟩
 refine ⟨_,rfl,_,(show Mem W RA (.blk F e.cells 333::abl D Q E dM 3 1::.blk g3 o.cells 214::fM O cp cr gA S gc lA U lc uA V uc (some ⟨d,0,none⟩) P tc (some ⟨g,0,none⟩) H sc::aiq gA S gc gs lA U lc cl uA V uc cu (some ⟨d,0,none⟩) P tc (ts.set k {t.put e with ready:=true}) (some ⟨g,0,none⟩) H sc jL (fR jL++(T))) from xJ),?_⟩
 exact (iQ∘bA 2∘aP∘bO) λb=>by exact qt (y:=(⟨cp,cr,gA,gc,gs,lA,lc,cl,uA,uc,cu,some ⟨d,0,none⟩,tc,(ts.set k {t.put e with ready:=true}),some ⟨g,0,none⟩,sc,jL⟩:aF)) 3 b rfl (MS (Ef m (by rw [abJ];exact I)) hl2) ((q6h (x:=(⟨cp,cr,gA,gc,gs,lA,lc,cl,uA,uc,cu,some ⟨d,0,none⟩,tc,ts,some ⟨g,0,none⟩,sc,rs⟩:aF)) (decide_eq_true p) hk ht hnr hgt Y hwt (xQ (x:=(⟨cp,cr,gA,gc,gs,lA,lc,cl,uA,uc,cu,some ⟨d,0,none⟩,tc,ts,some ⟨g,0,none⟩,sc,rs⟩:aF)) (by show gt<abn rs;omega) hy hyz) N hem).trans (by rw [<-nP]))
def q1m (W w:World) (x:aF) (M:Nat) (B C A D E:Nat) (j:dO x B C A D E) (o:bK) (q:o.Ok) (T:List Fact) (d:Mem W w (jC M x B C A D E++T)):
    Calls abo 152 #[vP M 0,.agg o.cells] w (kg W M T (kL x.av o)):=by
 obtain ⟨cp,cr,gA,gc,gs,lA,lc,cl,uA,uc,cu,tA,tc,ts,sA,sc,rs⟩:=x
 replace d:Mem W w (fM M cp cr gA B gc lA C lc uA A uc tA D tc sA E sc::aiq gA B gc gs lA C lc cl uA A uc cu tA D tc ts sA E sc rs (fR rs++(T))):=d
 obtain ⟨G,H,z,I,J⟩:=j.ln
 replace G:abn gs=B:=G;replace H:abn cl=C:=H;replace z:abn cu=A:=z;replace I:abn ts=D:=I;replace J:abn rs=E:=J
 have e:=j.ln
 have hsp:eP gs cp rs:=j.spots
 have hrg:abn rs=abn gs:=j.sh.rs
 have hcr:cr<18446744073709551616:=j.ok.aj
 obtain ⟨r,u,_,m⟩:=mI j.sh.cfg
 replace r:1<=cp:=r;replace u:cp<=64:=u;replace m:dF gs=true:=m
 have U:=(qw m).1;have V:=(qw m).2.1
 have X:(abn cl:Int)=cp:=j.sh.cl;have Y:(abn cu:Int)=cp:=j.sh.cu
 have nO:abn ts<=1000000:=j.few.t
 have N:=q.cpu;have O:=q.task;have P:=q.group;have Q:=q.weight;have K:=q.to;have L:=q.ticks;have yX:=q.mask;have pY:=q.kind;unfold aW at N O P Q K L
 obtain ⟨b,rfl⟩:=zo (d.own (i:=3) rfl) om
 refine (mg d Tryz.func152 32) ?_
 refine (JP∘JE) λw3 g3=>(bM 2∘bN 1∘Jg 1 O0∘JI (h:=by exact λd=>qno 1 d rfl j o.cpu)) λw9 R=>(Jp 1∘dY∘Jj) (oW (λf=>?_) λf=>?_)
 ·
  exact (JT∘bF 2∘bO) λd=>by exact qt (y:=(⟨cp,cr,gA,gc,gs,lA,lc,cl,some ⟨b,0,none⟩,uc,cu,tA,tc,ts,sA,sc,rs⟩:aF)) 1 d rfl e (if_pos (decide_eq_false f))
 replace f:0<=o.cpu/\o.cpu<cp:=f
 obtain ⟨c,p⟩:∃n:Nat,o.cpu=(n:Int):=⟨o.cpu.toNat,by omega⟩
 have rE:((c:Nat):Int)<cp:=by omega
 refine (aU) λa Z d=>?_
 refine wp_seq ?_
 refine Jb Z d ((Vs .n [12]) λwd3=>(Vp [0]∘Vf 5 1∘Vp [7]∘Vf 8 1∘Vn 1∘Vf 2 0∘Vf 3 4∘Vc 4 O1∘Vc 6 O0∘Vo (vI c) (by rw [p])∘Vc 9 O0∘Vo (vI c) (by rw [p])∘VI 10 .n (h:=by exact λd=>zcx 1 d rfl j (by show ((c:Nat):Int)<cp;omega))) λRB R=>(Vy 11 (h:=by exact Yl.iK b c 1 rfl rfl rfl)) λa Z d HS=>?_)
 refine s_on Z 12 rfl ?_
 refine zf Z d (i:=4) rfl rfl rfl rfl kr rfl rfl (by rw [abx];omega) λS d=>?_
 replace d:=d.dw (i:=4) (ys:=(cu.set c (o7 (⟨cp,cr,gA,gc,gs,lA,lc,cl,some ⟨b,0,none⟩,uc,cu,tA,tc,ts,sA,sc,rs⟩:aF).av c:Int)).map aX) rfl (Lh aX cu c (o7 (⟨cp,cr,gA,gc,gs,lA,lc,cl,some ⟨b,0,none⟩,uc,cu,tA,tc,ts,sA,sc,rs⟩:aF).av c:Int) om)
 refine dN kr ?_
 refine qe kr ?_
 refine wp_seq ?_
 exact Jb Z d ((Vs .n []) λwd4=>(Vp [0]∘Vf 5 1∘Vn 1∘Vf 2 0∘Vf 3 4∘Vc 4 O1∘Vc 6 O0∘Vo (vI c) (by rw [p])∘Vy 7 (h:=by exact Yl.iK b c 1 rfl rfl rfl)∘Vy 8 (v:=vI (o7 (⟨cp,cr,gA,gc,gs,lA,lc,cl,some ⟨b,0,none⟩,uc,cu,tA,tc,ts,sA,sc,rs⟩:aF).av c)) (h:=by exact Pd rfl rfl kr (λ_ h=>h.Wp (i:=4) rfl (k:=c) (uM (F:=aX) (k:=c) (x:=(o7 (⟨cp,cr,gA,gc,gs,lA,lc,cl,some ⟨b,0,none⟩,uc,cu,tA,tc,ts,sA,sc,rs⟩:aF).av c:Int)) ((List.getElem?_set_self om)))))∘Vp [9,10]∘Vd∘JZ∘bO) λd=>by exact qt (y:=(⟨cp,cr,gA,gc,gs,lA,lc,cl,some ⟨b,0,none⟩,uc,(cu.set c (o7 (⟨cp,cr,gA,gc,gs,lA,lc,cl,some ⟨b,0,none⟩,uc,cu,tA,tc,ts,sA,sc,rs⟩:aF).av c:Int)),tA,tc,ts,sA,sc,rs⟩:aF)) 1 d rfl ⟨e.g,e.l,by show abn (cu.set _ _)=A;rw [abJ];exact z,e.t,e.s⟩ (zce (x:=(⟨cp,cr,gA,gc,gs,lA,lc,cl,some ⟨b,0,none⟩,uc,cu,tA,tc,ts,sA,sc,rs⟩:aF)) p (decide_eq_true f)))
def Em (x e:En) (a:x.Ok) (d:Nat) (b:d<=4294967295) (c:x.add d=e) (w:World):Calls abo 210 #[.agg x.cells,vI d] w (Is w (.tuple #[.agg e.cells,vI 0])):=c▸zcd x a d b w
def qx5 (n:Nat) (e:Mem W w F) (f:F.drop n=jC d x c m g a b++T) (h:dO x c m g a b) (id:Int) (k:Nat) (hk:fidx x.ts id=(k:Int)):Calls abo 161 #[vP d 0,vI id] w (Is w (vI k)):=hk▸Hq n e f h id
def zc0 {m n b f i c:Nat} (h:dO x m n b f i) (v:Int) (j:0<=v/\v<=281474976710656):dO ({x with cl:=x.cl.set c v}:aF) m n b f i:=by
 refine ⟨⟨h.ok.au,h.ok.aj,h.ok.gs,λz hz=>?_,h.ok.cu,h.ok.ts,h.ok.sp⟩,⟨h.few.g,by show abn (x.cl.set c v)<=_;rw [abJ];exact h.few.l,h.few.u,h.few.t,h.few.s,h.few.r⟩,⟨h.sh.cfg,by show (abn (x.cl.set c v):Int)=_;rw [abJ];exact h.sh.cl,h.sh.cu,h.sh.rs,λd k=>?_,h.sh.row,h.sh.tk⟩,⟨h.ln.g,by show abn (x.cl.set c v)=_;rw [abJ];exact h.ln.l,h.ln.u,h.ln.t,h.ln.s⟩⟩
 ·rcases abZ hz with o|rfl
  ·exact h.ok.cl z o
  ·unfold aW;omega
 ·have a:d<abn (x.cl.set c v):=k
  show iG ((x.cl.set c v).getD d 0)=true
  rw [abJ] at a
  by_cases e:c=d
  ·subst e
   rw [q9 _ _ a]
   unfold iG
   rw [decide_eq_true j]
  ·rw [getD_set_ne _ _ e]
   exact h.sh.cls d a
def qsn (h:eB x.av c=true) (a:x.cu.getD c 0≠0):∃(k:Nat) (t:Tk),fidx x.ts (x.cu.getD c 0)=(k:Int)/\x.ts[k]?=some t/\k<abn x.ts/\t.id=x.cu.getD c 0:=by
 refine Ht λb=>?_
 rw [Zm a (ZY b)] at h
 cases h
abbrev ahD:=λa b c d e f g=>((9,vP a 0)::(8,vP b (c*8))::(67,.bool false)::(7,vI d)::(33,.bool false)::(24,.bool false)::(18,.bool false)::(6,vP e 0)::(5,vI 0)::(4,vI 0)::(3,vP f 0)::(0,vP e 0)::g:List (Nat×Go.Value))
def q1n (W w:World) (x:aF) (M:Nat) (R N S O Q:Nat) (U:dO x R N S O Q) (o:bK) (ho:o.Ok) (T:List Fact) (b:Mem W w (jC M x R N S O Q++T)) (hcur:∀c,c<abn x.cu->eB x.av c=true):
    Calls abo 151 #[vP M 0,.agg o.cells] w (kg W M T (jE x.av o)):=by
 obtain ⟨cp,cr,gA,gc,gs,lA,lc,cl,uA,uc,cu,tA,tc,ts,sA,sc,rs⟩:=x
 replace b:Mem W w (fM M cp cr gA R gc lA N lc uA S uc tA O tc sA Q sc::fG gA R gc gs::fI lA N lc cl::fI uA S uc cu::fT tA O tc ts::fS sA Q sc rs::(fR rs++(T))):=b
 obtain ⟨mK,hll,nL,hlt,hls⟩:=U.ln
 replace mK:abn gs=R:=mK;replace hll:abn cl=N:=hll;replace nL:abn cu=S:=nL;replace hlt:abn ts=O:=hlt;replace hls:abn rs=Q:=hls
 have H:=U.ln
 have hsp:eP gs cp rs:=U.spots
 have hrg:abn rs=abn gs:=U.sh.rs
 have hcr:cr<18446744073709551616:=U.ok.aj
 obtain ⟨hcp1,hcp2,_,V⟩:=mI U.sh.cfg
 replace hcp1:1<=cp:=hcp1;replace hcp2:cp<=64:=hcp2;replace V:dF gs=true:=V
 have nM:=(qw V).1;have nN:=(qw V).2.1
 have pX:(abn cl:Int)=cp:=U.sh.cl;have oI:(abn cu:Int)=cp:=U.sh.cu
 have nO:abn ts<=1000000:=U.few.t
 have hoc:=ho.cpu;have hot:=ho.task;have hog:=ho.group;have how:=ho.weight;have oJ:=ho.to;have oK:=ho.ticks;have yX:=ho.mask;have pY:=ho.kind;unfold aW at hoc hot hog how oJ oK
 have RD:=U.ok.cu;have am5:=U.ok.cl
 have hcls:=U.sh.cls
 obtain ⟨B,rfl⟩:=zo (b.own (i:=1) rfl) om
 obtain ⟨q,rfl⟩:=zo (b.own (i:=2) rfl) om
 obtain ⟨C,rfl⟩:=zo (b.own (i:=3) rfl) om
 obtain ⟨D,rfl⟩:=zo (b.own (i:=5) rfl) om
 refine (mg b Tryz.func151 158) ?_
 refine (JP∘JE) λw3 g3=>(Jp 2∘bA 1∘Jn∘Jf 0∘Jp 1∘dY∘Jj∘JQ∘JB∘aJ 1∘Jg 1 O0∘JI (h:=by exact λb=>qno 1 b rfl U o.cpu)) λOT L=>(Jp 2∘gq∘Jj) (oW (λJ=>?_) λJ=>?_)
 ·
  exact (JT∘bF 2∘bO) λb=>by exact qt (y:=(⟨cp,cr,some ⟨B,0,none⟩,gc,gs,some ⟨q,0,none⟩,lc,cl,some ⟨C,0,none⟩,uc,cu,tA,tc,ts,some ⟨D,0,none⟩,sc,rs⟩:aF)) 1 b rfl H (if_pos (decide_eq_false J))
 replace J:0<=o.cpu/\o.cpu<cp:=J
 obtain ⟨c,X⟩:∃n:Nat,o.cpu=(n:Int):=⟨o.cpu.toNat,by omega⟩
 have rE:((c:Nat):Int)<cp:=by omega
 have Y:=hcls c (by show c<abn cl;omega);replace Y:0<=(cl.getD c 0)/\(cl.getD c 0)<=281474976710656:=by unfold iG at Y;simpa using Y
 obtain ⟨v,hv⟩:∃z,(cl.getD c 0)=z:=⟨_,rfl⟩
 rw [hv] at Y
 refine (JF∘JP∘Jg 6 O0∘Jp 2) (Ji (λhd28=>?_) λhd28=>?_)
 ·
  exact (Jp 5∘aH∘Jj∘JT∘bF 2∘bO) λb=>by exact qt (y:=(⟨cp,cr,some ⟨B,0,none⟩,gc,gs,some ⟨q,0,none⟩,lc,cl,some ⟨C,0,none⟩,uc,cu,tA,tc,ts,some ⟨D,0,none⟩,sc,rs⟩:aF)) 1 b rfl H ((if_neg (nf (decide_eq_true J))).trans (if_pos om))
 refine (Jg 6 O0∘Jp 3∘aH∘Jj) (Ji (λhd24=>?_) λhd24=>?_)
 ·
  exact (JT∘bF 2∘bO) λb=>by exact qt (y:=(⟨cp,cr,some ⟨B,0,none⟩,gc,gs,some ⟨q,0,none⟩,lc,cl,some ⟨C,0,none⟩,uc,cu,tA,tc,ts,some ⟨D,0,none⟩,sc,rs⟩:aF)) 1 b rfl H ((if_neg (nf (decide_eq_true J))).trans (if_pos om))
 have htk:1<=o.ticks/\o.ticks<=4294967295:=by omega
 obtain ⟨d,hod⟩:∃n:Nat,o.ticks=(n:Int):=⟨o.ticks.toNat,by omega⟩
 have hd0:d<=4294967295:=by omega
 refine (JF) λa Z b=>?_
 refine wp_seq ?_
 refine Jb Z b ((Vs .n []) λGb=>(Vp [0]∘Vf 4 1∘Vf 8 6∘Vn 1∘Vf 2 3∘Vc 3 O1∘Vc 5 O0∘Vo (vI c) (by rw [X])∘Vy 6 (h:=by exact Yl.iK q c 1 rfl rfl rfl)∘Vy 7 (v:=vI (cl.getD c 0)) (h:=by exact aaf 3 c 0 om rfl rfl rfl)∘Vo (vI v) (by rw [hv])∘Vc 9 O0∘Vo (vI d) (by rw [hod])∘Vp [10]∘Vo (vI (v+d)) (by exact mF ⟨by omega,by omega⟩)∘Vp [11,12]∘Vd∘aH) (Ji (λRF=>?_) λRF=>?_))
 ·
  exact (JT∘bF 2∘bO) λb=>by exact qt (y:=(⟨cp,cr,some ⟨B,0,none⟩,gc,gs,some ⟨q,0,none⟩,lc,cl,some ⟨C,0,none⟩,uc,cu,tA,tc,ts,some ⟨D,0,none⟩,sc,rs⟩:aF)) 1 b rfl H ((if_neg (nf (decide_eq_true J))).trans ((if_neg om).trans (if_pos (by show 281474976710656<cl.getD o.cpu.toNat 0+o.ticks;rw [X,abE,hv];omega))))
 obtain ⟨id,hid⟩:∃z,cu.getD c 0=z:=⟨_,rfl⟩
 have hxk:=zc0 (x:=(⟨cp,cr,some ⟨B,0,none⟩,gc,gs,some ⟨q,0,none⟩,lc,cl,some ⟨C,0,none⟩,uc,cu,tA,tc,ts,some ⟨D,0,none⟩,sc,rs⟩:aF)) (c:=c) U (v+d) ⟨by omega,by omega⟩
 have RG:aW id:=by rw [<-hid];exact RD _ (qf 0 (by show c<abn cu;omega))
 intro a Z b
 unfold aW at RG
 refine Jb Z b ((aU) λa Z b=>?_)
 refine wp_seq ?_
 refine Jb Z b ((Vs .n [12]) λM5=>(Vp [0]∘Vf 4 1∘Vf 8 6∘Vn 1∘Vf 2 3∘Vc 3 O1∘Vc 5 O0∘Vo (vI c) (by rw [X])∘Vy 6 (h:=by exact Yl.iK q c 1 rfl rfl rfl)∘Vy 7 (v:=vI (cl.getD c 0)) (h:=by exact aaf 3 c 0 om rfl rfl rfl)∘Vo (vI v) (by rw [hv])∘Vc 9 O0∘Vo (vI d) (by rw [hod])∘Vp [10]∘Vo (vI (v+d)) (by exact mF ⟨by omega,by omega⟩)∘Vy 11 (h:=by exact Yl.iK q c 1 rfl rfl rfl)) λa Z b I=>?_)
 refine s_on Z 12 rfl ?_
 refine zf Z b (i:=3) rfl rfl rfl rfl kr rfl rfl (by rw [abx];omega) λaaW b=>?_
 replace b:=b.dw (i:=3) (ys:=(cl.set c (v+d)).map aX) rfl (Lh aX cl c (v+d) om)
 refine dN kr ?_
 refine qe kr ?_
 refine wp_seq ?_
 refine Jb Z b ((Vs .n []) λQg=>(Vp [0]∘Vf 4 1∘Vn 1∘Vf 2 4∘Vc 3 O1∘Vc 5 O0∘Vo (vI c) (by rw [X])∘Vy 6 (h:=by exact Yl.iK C c 1 rfl rfl rfl)∘Vy 7 (v:=vI (cu.getD c 0)) (h:=by exact aaf 4 c 0 om rfl rfl rfl)∘Vo (vI id) (by rw [hid])∘Vp [8]∘Vd∘aH∘bN 2∘aK∘Jj) (Je (λCK=>?_) λCK=>?_))
 ·
  exact (JT∘bF 2∘bO) λb=>by exact qt (y:=(⟨cp,cr,some ⟨B,0,none⟩,gc,gs,some ⟨q,0,none⟩,lc,(cl.set c (v+d)),some ⟨C,0,none⟩,uc,cu,tA,tc,ts,some ⟨D,0,none⟩,sc,rs⟩:aF)) 1 b rfl ⟨H.g,by show abn (cl.set _ _)=N;rw [abJ];exact hll,H.u,H.t,H.s⟩ ((q6i (x:=(⟨cp,cr,some ⟨B,0,none⟩,gc,gs,some ⟨q,0,none⟩,lc,cl,some ⟨C,0,none⟩,uc,cu,tA,tc,ts,some ⟨D,0,none⟩,sc,rs⟩:aF)) (decide_eq_true J) htk X hv om (hid.trans om)).trans (by rw [hod]))
 have H6:id≠0:=by omega
 have H7:=qsn (x:=(⟨cp,cr,some ⟨B,0,none⟩,gc,gs,some ⟨q,0,none⟩,lc,cl,some ⟨C,0,none⟩,uc,cu,tA,tc,ts,some ⟨D,0,none⟩,sc,rs⟩:aF)) (hcur c (by show c<abn cu;omega)) (by show cu.getD c 0≠0;rw [hid];exact H6)
 rw [show (⟨cp,cr,some ⟨B,0,none⟩,gc,gs,some ⟨q,0,none⟩,lc,cl,some ⟨C,0,none⟩,uc,cu,tA,tc,ts,some ⟨D,0,none⟩,sc,rs⟩:aF).cu.getD c 0=id from hid] at H7
 obtain ⟨k,t,hk,ht,hkl,yY⟩:=H7
 replace hk:fidx ts id=(k:Int):=hk;replace ht:ts[k]?=some t:=ht;replace hkl:k<abn ts:=hkl
 obtain ⟨H8,hto⟩:=U.task ht
 have hti:=H8.id;have vZ:=H8.group;have htc:=H8.cpu;have HY:=H8.weight;have yZ:=hto.v;have htr:=hto.r;have HZ:=hto.mask
 replace htc:0<=t.cpu/\t.cpu<cp:=htc
 obtain ⟨gt,hgt⟩:∃n:Nat,t.group=(n:Int):=⟨t.group.toNat,by omega⟩
 obtain ⟨ct,hct⟩:∃n:Nat,t.cpu=(n:Int):=⟨t.cpu.toNat,by omega⟩
 obtain ⟨wt,hwt⟩:∃n:Nat,t.weight=(n:Int):=⟨t.weight.toNat,by omega⟩
 have rR:(⟨t.v,t.r,wt⟩:En).Ok:=aaj H8.ent hwt yZ
 obtain ⟨e,H9⟩:∃e,(⟨t.v,t.r,wt⟩:En).add d=e:=⟨_,rfl⟩
 have uX:e.Ok/\e.w=wt:=by rw [<-H9];exact aav rR d
 repeat (first|clear Z|clear b)
 intro a Z b
 obtain ⟨E,rfl⟩:=b.rat 5 k (hk:=(by omega:k<O))
 refine Jb Z b ((aU) λa Z b=>?_)
 refine wp_seq ?_
 refine Jb Z b ((Vs .n []) λGf=>(Vp [0,4,5]∘Vn 1∘Vf 2 5∘Vc 3 O1∘VI 6 .n (h:=by exact λb=>qx5 1 b rfl hxk id k hk)) λw74 L=>(Vy 7 (h:=by exact Yl.iK E k 8 rfl rfl rfl)∘Vp [8]∘Vd∘aH) λa Z b=>?_)
 refine qz (λaS wS=>∃(P:Nat),Fr aS 158 [] (ahD P E k id M g3 [])/\Mem W wS (.blk P e.cells 333:: .blk g3 o.cells 214::fM M cp cr (some ⟨B,0,none⟩) R gc (some ⟨q,0,none⟩) N lc (some ⟨C,0,none⟩) S uc (some ⟨E,0,none⟩) O tc (some ⟨D,0,none⟩) Q sc::fG (some ⟨B,0,none⟩) R gc gs::fI (some ⟨q,0,none⟩) N lc (cl.set c (v+d))::fI (some ⟨C,0,none⟩) S uc cu::fT (some ⟨E,0,none⟩) O tc ts::fS (some ⟨D,0,none⟩) Q sc rs::(fR rs++(T)))) ?_ ?_
 ·
  refine Jb Z b ((Vs .n [20]) λGV=>(Vp [0,4,8]∘Vf 13 6∘Vn 1∘Vf 2 6∘Vy 3 (v:=vQ t.v) (h:=by exact Pd rfl rfl kr (λ_ h=>h.qu ql (i:=5) rfl (k:=k) (off:=6) (x:=t) (ht) rfl))∘Vn 5∘Vf 6 7∘Vy 7 (v:=vW t.r) (h:=by exact Pd rfl rfl kr (λ_ h=>h.qu ql (i:=5) rfl (k:=k) (off:=7) (x:=t) (ht) rfl))∘Vn 9∘Vf 10 2∘Vy 11 (v:=vI t.weight) (h:=by exact Pd rfl rfl kr (λ_ h=>h.qu ql (i:=5) rfl (k:=k) (off:=2) (x:=t) (ht) rfl))∘Vo (vI wt) (by rw [hwt])∘Vc 14 O0∘Vo (vI d) (by rw [hod])) λa Z b I=>?_)
  refine zd [12,19] kr rfl ?_
  refine all_cons ?_ ?_
  ·refine qq Z (i:=12) rfl rfl ?_
   refine jd Z b [vQ t.v,vW t.r,vI wt] (.agg #[vQ t.v,vW t.r,vW wt]) rfl rfl (zc t.v t.r (wt:Int) om _) λRH L b a Z=>?_
   refine ay (b.pt 7 [0,1,2,3,4,5,6]) (λI=>?_)
   refine zd [15,19] kr rfl ?_
   refine all_cons ?_ ?_
   ·refine qq Z (i:=15) rfl rfl ?_
    refine jd Z b [.agg #[vQ t.v,vW t.r,vW wt],vI d] (.tuple #[.agg e.cells,vI 0]) rfl rfl (Em (⟨t.v,t.r,wt⟩:En) e rR d hd0 H9 _) λRz L b a Z=>?_
    refine ay (b.pt 7 [0,1,2,3,4,5,6]) (λI=>?_)
    refine Vb Z b I ((Vp [16]∘Vx 17∘Vx 18∘VA 19 .n #[vQ 0,vW 0,vW 0]) λw9 P=>λa Z b I=>?_)
    refine s_on Z 20 rfl (bT Z b 0 rfl rfl rfl rfl rfl qp rfl rfl (mh e) λwm b=>?_)
    refine dN kr ?_
    refine ap Z (bU kr) [21] (bt 22 []) [] λa Z=>?_
    refine qe kr ?_
    replace Z:=Z.to (ahD P E k id M g3 [])
    exact ⟨P,Z.sub kr,b.pt 8 [0,1,2,3,4,5,6,7]⟩
   refine all_cons ?_ all_nil
   refine qq Z (i:=19) rfl rfl ?_
   refine gZ Z b #[vQ 0,vW 0,vW 0] ?_
   clear Z b;intro a w9 P Z b
   refine ay (b.pt 8 [1,2,3,4,5,6,7]) (λI=>?_)
   refine Vb Z b I ((VI 15 (.f .n) (h:=by exact λb=>Em (⟨t.v,t.r,wt⟩:En) e rR d hd0 H9 _)) λRz L=>(Vp [16]∘Vx 17∘Vx 18) λa Z b I=>?_)
   refine s_on Z 20 rfl (bT Z b 0 rfl rfl rfl rfl rfl qp rfl rfl (mh e) λwm b=>?_)
   refine dN kr ?_
   refine ap Z (bU kr) [21] (bt 22 []) [] λa Z=>?_
   refine qe kr ?_
   replace Z:=Z.to (ahD P E k id M g3 [])
   exact ⟨P,Z.sub kr,b.pt 8 [0,1,2,3,4,5,6,7]⟩
  refine all_cons ?_ all_nil
  refine qq Z (i:=19) rfl rfl ?_
  refine gZ Z b #[vQ 0,vW 0,vW 0] ?_
  clear Z b;intro a w9 P Z b
  refine ay (b.pt 8 [1,2,3,4,5,6,7]) (λI=>?_)
  refine Vb Z b I ((VI 12 (.f .n) (h:=by exact λb=>zc t.v t.r (wt:Int) om _)) λRH L=>(VI 15 (.f .n) (h:=by exact λb=>Em (⟨t.v,t.r,wt⟩:En) e rR d hd0 H9 _)) λRz L=>(Vp [16]∘Vx 17∘Vx 18) λa Z b I=>?_)
  refine s_on Z 20 rfl (bT Z b 0 rfl rfl rfl rfl rfl qp rfl rfl (mh e) λwm b=>?_)
  refine dN kr ?_
  refine ap Z (bU kr) [21] (bt 22 []) [] λa Z=>?_
  refine qe kr ?_
  replace Z:=Z.to (ahD P E k id M g3 [])
  exact ⟨P,Z.sub kr,b.pt 8 [0,1,2,3,4,5,6,7]⟩
 clear Z b;rintro a uY ⟨P,Z,b⟩
 refine Jb Z b ((aJ 1∘dZ qp O0∘JO (h:=by exact λb=>MQ t e uh b ht hlt uX.1)) λP9=>(nT∘Jj∘bN 1∘Jn∘Jf 1∘Jy (v:=vI ((t.put e).group)) (h:=by exact Pd rfl rfl kr (λ_ h=>h.qu ql (i:=6) rfl (k:=k) (off:=1) (x:=(t.put e)) ((xR ht)) rfl))∘Jo (vI gt) (by rw [<-hgt];try rfl)∘Jp 1∘gq∘Jj∘JB) λa Z b=>?_)
 refine qg (λmS aS wS=>∃(g:Nat) (F:List Rw),(g<Q)/\(abn F=Q)/\(eP gs cp F)/\(Eh c d g (⟨cp,cr,some ⟨B,0,none⟩,gc,gs,some ⟨q,0,none⟩,lc,cl.set c (v+d),some ⟨C,0,none⟩,uc,cu,some ⟨E,0,none⟩,tc,ts.set k (t.put e),some ⟨D,0,none⟩,sc,F⟩:aF).av=Eh c d gt (⟨cp,cr,some ⟨B,0,none⟩,gc,gs,some ⟨q,0,none⟩,lc,cl.set c (v+d),some ⟨C,0,none⟩,uc,cu,some ⟨E,0,none⟩,tc,ts.set k (t.put e),some ⟨D,0,none⟩,sc,rs⟩:aF).av)/\mS=0+g/\Fr aS 158 [] ((11,vI g)::ahD P E k id M g3 [])/\Mem W wS (.blk P e.cells 333:: .blk g3 o.cells 214::fM M cp cr (some ⟨B,0,none⟩) R gc (some ⟨q,0,none⟩) N lc (some ⟨C,0,none⟩) S uc (some ⟨E,0,none⟩) O tc (some ⟨D,0,none⟩) Q sc::fG (some ⟨B,0,none⟩) R gc gs::fI (some ⟨q,0,none⟩) N lc (cl.set c (v+d))::fI (some ⟨C,0,none⟩) S uc cu::fT (some ⟨E,0,none⟩) O tc (ts.set k (t.put e))::fS (some ⟨D,0,none⟩) Q sc F::(fR F++(T)))) (m:=0+gt) ⟨gt,rs,by omega,hls,hsp,rfl,rfl,Z.sub kr,b.pt 8 [0,1,2,3,4,5,6,7]⟩ ?_
 clear Z b;rintro mS a w_ ⟨g,F,hg,hl2,hsp2,nP,rfl,Z,b⟩
 refine Jb Z b ((bN 2∘aK∘Jj) (Ji (λIa=>?_) λIa=>?_))
 ·
  have hg0:0<g:=by omega
  obtain ⟨⟨yA,yc,yl⟩,hy⟩:∃y,F.getD g Rw.zero=y:=⟨_,rfl⟩
  have hys:=hsp2 g om;rw [hy] at hys
  have hyl:(abn yl:Int)=cp:=hys.1
  repeat (first|clear Z|clear b)
  intro a Z b
  obtain ⟨gy,rfl⟩:=b.jG 8 rfl om hy om
  obtain ⟨G,hyz⟩:∃z,yl[c]?=some z:=⟨_,abq om⟩
  have nC:=hys.2 G (abH hyz)
  have hyv:=nC.1.v;have qL:=nC.1.r;have r9:=nC.1.floor
  have hpb:=yK V (g:=g) om g hg0 (abr _)
  unfold d9 at hpb
  obtain ⟨p,hpp⟩:∃p:Nat,(gs.getD g Gr.zero).parent=(p:Int):=⟨(gs.getD g Gr.zero).parent.toNat,by omega⟩
  have hpg:p<g:=by omega
  obtain ⟨zw,Az,RI,RJ⟩:=MP V (g:=g) om
  have AA:(⟨G.v,G.r,zw⟩:En).Ok:=aaj nC.2 Az nC.1.v
  obtain ⟨f,hfw⟩:∃e,(⟨G.v,G.r,zw⟩:En).add d=e:=⟨_,rfl⟩
  have hfo:f.Ok/\f.w=zw:=by rw [<-hfw];exact aav AA d
  have hfv:=hfo.1.2;have hfr:f.r<4294967296:=by have:=Ay hfo.1.1;omega
  refine Jb Z b ((eO) λa Z b=>?_)
  refine wp_seq ?_
  refine Jb Z b ((Vs .n []) λBO=>(Vp [0,4]∘Vf 7 1∘Vn 1∘Vf 2 6∘Vc 3 O2∘Vy 5 (h:=by exact Yl.iK D g 1 rfl rfl rfl)∘Vy 6 (v:= .slice ((F.getD g Rw.zero).A) ((F.getD g Rw.zero).l.length) ((F.getD g Rw.zero).c)) (h:=by exact aaf 7 g Rw.zero om rfl rfl rfl)∘Vo (vS gy (abn yl) yc) (by rw [hy])∘Vc 8 O1∘Vo (vI c) (by rw [X])∘Vy 9 (h:=by exact Yl.iK gy c 3 rfl rfl rfl)∘Vp [10]∘Vd∘aH) λa Z b=>?_)
  refine qz (λaS wS=>∃(K:Nat),Fr aS 158 [] ((13,vP K 0)::(12,vP gy (c*3))::(103,.bool true)::(11,vI g)::ahD P E k id M g3 [])/\Mem W wS (.blk K f.cells 333:: .blk P e.cells 333:: .blk g3 o.cells 214::fM M cp cr (some ⟨B,0,none⟩) R gc (some ⟨q,0,none⟩) N lc (some ⟨C,0,none⟩) S uc (some ⟨E,0,none⟩) O tc (some ⟨D,0,none⟩) Q sc::fG (some ⟨B,0,none⟩) R gc gs::fI (some ⟨q,0,none⟩) N lc (cl.set c (v+d))::fI (some ⟨C,0,none⟩) S uc cu::fT (some ⟨E,0,none⟩) O tc (ts.set k (t.put e))::fS (some ⟨D,0,none⟩) Q sc F::(fR F++(T)))) ?_ ?_
  ·
   refine Jb Z b ((Vs .n [25]) λPo=>(Vp [0,4,8,13]∘Vf 18 6∘Vn 1∘Vf 2 0∘Vy 3 (v:=vQ G.v) (h:=by exact Pd rfl rfl kr (λ_ h=>h.uy 8 (j:=0) rfl om hy (hyz) rfl))∘Vn 5∘Vf 6 1∘Vy 7 (v:=vW G.r) (h:=by exact Pd rfl rfl kr (λ_ h=>h.uy 8 (j:=1) rfl om hy (hyz) rfl))∘Vn 9∘Vf 10 0∘Vf 11 2∘Vc 12 O2∘Vy 14 (h:=by exact Yl.iK B g 2 rfl rfl rfl)∘Vf 15 1∘Vy 16 (v:=vI ((gs.getD g Gr.zero).weight)) (h:=by exact Pd rfl rfl kr (λ_ h=>h.qu qK (i:=3) rfl (k:=g) (off:=1) (x:=(gs.getD g Gr.zero)) ((getD_at Gr.zero om)) rfl))∘Vo (vI zw) (by rw [Az])∘Vc 19 O1∘Vo (vI d) (by rw [hod])) λa Z b I=>?_)
   refine zd [17,24] kr rfl ?_
   refine all_cons ?_ ?_
   ·refine qq Z (i:=17) rfl rfl ?_
    refine jd Z b [vQ G.v,vW G.r,vI zw] (.agg #[vQ G.v,vW G.r,vW zw]) rfl rfl (zc G.v G.r (zw:Int) om _) λCO L b a Z=>?_
    refine ay (b.pt 8 [0,1,2,3,4,5,6,7]) (λI=>?_)
    refine zd [20,24] kr rfl ?_
    refine all_cons ?_ ?_
    ·refine qq Z (i:=20) rfl rfl ?_
     refine jd Z b [.agg #[vQ G.v,vW G.r,vW zw],vI d] (.tuple #[.agg f.cells,vI 0]) rfl rfl (Em (⟨G.v,G.r,zw⟩:En) f AA d hd0 hfw _) λCP L b a Z=>?_
     refine ay (b.pt 8 [0,1,2,3,4,5,6,7]) (λI=>?_)
     refine Vb Z b I ((Vp [21]∘Vx 22∘Vx 23∘VA 24 .n #[vQ 0,vW 0,vW 0]) λuY K=>λa Z b I=>?_)
     refine s_on Z 25 rfl (bT Z b 0 rfl rfl rfl rfl rfl qp rfl rfl (mh f) λwo b=>?_)
     refine dN kr ?_
     refine ap Z (bU kr) [26] (bt 27 []) [] λa Z=>?_
     refine qe kr ?_
     exact ⟨K,Z.sub kr,b.pt 9 [0,1,2,3,4,5,6,7,8]⟩
    refine all_cons ?_ all_nil
    refine qq Z (i:=24) rfl rfl ?_
    refine gZ Z b #[vQ 0,vW 0,vW 0] ?_
    clear Z b;intro a uY K Z b
    refine ay (b.pt 9 [1,2,3,4,5,6,7,8]) (λI=>?_)
    refine Vb Z b I ((VI 20 (.f .n) (h:=by exact λb=>Em (⟨G.v,G.r,zw⟩:En) f AA d hd0 hfw _)) λCP L=>(Vp [21]∘Vx 22∘Vx 23) λa Z b I=>?_)
    refine s_on Z 25 rfl (bT Z b 0 rfl rfl rfl rfl rfl qp rfl rfl (mh f) λwo b=>?_)
    refine dN kr ?_
    refine ap Z (bU kr) [26] (bt 27 []) [] λa Z=>?_
    refine qe kr ?_
    exact ⟨K,Z.sub kr,b.pt 9 [0,1,2,3,4,5,6,7,8]⟩
   refine all_cons ?_ all_nil
   refine qq Z (i:=24) rfl rfl ?_
   refine gZ Z b #[vQ 0,vW 0,vW 0] ?_
   clear Z b;intro a uY K Z b
   refine ay (b.pt 9 [1,2,3,4,5,6,7,8]) (λI=>?_)
   refine Vb Z b I ((VI 17 (.f .n) (h:=by exact λb=>zc G.v G.r (zw:Int) om _)) λCO L=>(VI 20 (.f .n) (h:=by exact λb=>Em (⟨G.v,G.r,zw⟩:En) f AA d hd0 hfw _)) λCP L=>(Vp [21]∘Vx 22∘Vx 23) λa Z b I=>?_)
   refine s_on Z 25 rfl (bT Z b 0 rfl rfl rfl rfl rfl qp rfl rfl (mh f) λwo b=>?_)
   refine dN kr ?_
   refine ap Z (bU kr) [26] (bt 27 []) [] λa Z=>?_
   refine qe kr ?_
   exact ⟨K,Z.sub kr,b.pt 9 [0,1,2,3,4,5,6,7,8]⟩
  clear Z b;rintro a RL ⟨K,Z,b⟩
  refine EX b [.blk K f.cells 333,.blk P e.cells 333,.blk g3 o.cells 214,fM M cp cr (some ⟨B,0,none⟩) R gc (some ⟨q,0,none⟩) N lc (some ⟨C,0,none⟩) S uc (some ⟨E,0,none⟩) O tc (some ⟨D,0,none⟩) Q sc,fG (some ⟨B,0,none⟩) R gc gs,fI (some ⟨q,0,none⟩) N lc (cl.set c (v+d)),fI (some ⟨C,0,none⟩) S uc cu,fT (some ⟨E,0,none⟩) O tc (ts.set k (t.put e))] [0,1,2,3,4,5,6,7] [11] λb I=>?_
  refine ap Z (λ_=>I) [0,1,2,4] (bf 12 [0,1,2,4]) [(151,vP K 1),(149,vP K 0),(148,vP gy (c*3)),(147,vP gy (c*3))] λa Z=>?_
  refine dD Z I 3 0 (v:=vQ f.v) λa Z=>?_
  refine dD Z I 5 0 (v:=vW f.r) λa Z=>?_
  refine oz Z I 6 λa Z=>?_
  refine ap Z (λ_=>I) [7] (bt 12 [8,9,10,11]) [(154,vP gy (c*3))] λa Z=>?_
  refine s_on Z 8 rfl ?_
  refine CB Z b 8 (c:=c) 0 ({G with v:=f.v}) rfl rfl rfl rfl kr rfl rfl om (hy) (hyz) rfl de rfl λIb b=>?_
  replace b:Mem W Ib (.blk K f.cells 333:: .blk P e.cells 333:: .blk g3 o.cells 214::fM M cp cr (some ⟨B,0,none⟩) R gc (some ⟨q,0,none⟩) N lc (some ⟨C,0,none⟩) S uc (some ⟨E,0,none⟩) O tc (some ⟨D,0,none⟩) Q sc::fG (some ⟨B,0,none⟩) R gc gs::fI (some ⟨q,0,none⟩) N lc (cl.set c (v+d))::fI (some ⟨C,0,none⟩) S uc cu::fT (some ⟨E,0,none⟩) O tc (ts.set k (t.put e))::fS (some ⟨D,0,none⟩) Q sc (aQ F g c ({G with v:=f.v}))::(fR (aQ F g c ({G with v:=f.v}))++(T))):=b
  refine ay (b.pk [0,1,2,3,4,5,6,7]) (λI=>?_)
  refine BG Z (λ_=>I) 9 λa Z=>?_
  refine ap Z (λ_=>I) [10] (bt 12 [11]) [(156,vP gy (c*3+1))] λa Z=>?_
  refine s_on Z 11 rfl ?_
  refine CB Z b 8 (c:=c) 1 ({G with v:=f.v,r:=f.r}) rfl rfl rfl rfl kr rfl rfl (by first|omega|(rw [zl];omega)) (ML om hy) (xR hyz) rfl de rfl λCQ b=>?_
  replace b:Mem W CQ (.blk K f.cells 333:: .blk P e.cells 333:: .blk g3 o.cells 214::fM M cp cr (some ⟨B,0,none⟩) R gc (some ⟨q,0,none⟩) N lc (some ⟨C,0,none⟩) S uc (some ⟨E,0,none⟩) O tc (some ⟨D,0,none⟩) Q sc::fG (some ⟨B,0,none⟩) R gc gs::fI (some ⟨q,0,none⟩) N lc (cl.set c (v+d))::fI (some ⟨C,0,none⟩) S uc cu::fT (some ⟨E,0,none⟩) O tc (ts.set k (t.put e))::fS (some ⟨D,0,none⟩) Q sc (aQ (aQ F g c ({G with v:=f.v})) g c ({G with v:=f.v,r:=f.r}))::(fR (aQ (aQ F g c ({G with v:=f.v})) g c ({G with v:=f.v,r:=f.r}))++(T))):=b
  rw [Q0 (by first|omega|(rw [zl];omega))] at b
  refine dN kr ?_
  refine qe kr ?_
  refine Jb Z b ((JG∘JR∘Jp 1∘Jn∘Jf 0∘Jg 2 O3∘Jp 1∘nU g 2∘Jf 0∘Jy (v:=vI ((gs.getD g Gr.zero).parent)) (h:=by exact Pd rfl rfl kr (λ_ h=>(by have:=h.qu qK (i:=4) rfl (k:=g) (off:=0) (x:=(gs.getD g Gr.zero)) ((getD_at Gr.zero om)) rfl;simpa using this)))∘Jo (vI p) (by rw [hpp])∘Jp 1∘aH∘Jq) λa Z b=>?_)
  exact ⟨_,om,p,(aQ F g c {G with v:=f.v,r:=f.r}),by omega,by rw [zl];exact hl2,hsp2.put {G with v:=f.v,r:=f.r} ⟨hfv,hfr,nC.1.floor⟩ (by rw [Az];have:=hfo.1.1;rw [hfo.2] at this;exact this),by rw [<-nP,qr9 (c:=c) (d:=d) (g:=g) (p:=p) (yK V om) hg0 hpp,qu9 (x:=(⟨cp,cr,some ⟨B,0,none⟩,gc,gs,some ⟨q,0,none⟩,lc,(cl.set c (v+d)),some ⟨C,0,none⟩,uc,cu,some ⟨E,0,none⟩,tc,(ts.set k (t.put e)),some ⟨D,0,none⟩,sc,F⟩:aF)) (by show g<abn F;omega) hy hyz Az hfw],rfl,Z.sub kr,b.pt 9 [1,2,3,4,5,6,7,8]⟩
 exact (JF∘JX∘JG∘bF 3∘bO) λb=>by exact qt (y:=(⟨cp,cr,some ⟨B,0,none⟩,gc,gs,some ⟨q,0,none⟩,lc,(cl.set c (v+d)),some ⟨C,0,none⟩,uc,cu,some ⟨E,0,none⟩,tc,(ts.set k (t.put e)),some ⟨D,0,none⟩,sc,F⟩:aF)) 2 b rfl ⟨H.g,by show abn (cl.set _ _)=N;rw [abJ];exact hll,H.u,by show abn (ts.set _ _)=O;rw [abJ];exact hlt,hl2⟩ ((zcf (x:=(⟨cp,cr,some ⟨B,0,none⟩,gc,gs,some ⟨q,0,none⟩,lc,cl,some ⟨C,0,none⟩,uc,cu,some ⟨E,0,none⟩,tc,ts,some ⟨D,0,none⟩,sc,rs⟩:aF)) (decide_eq_true J) htk X hod hv om hid H6 hk ht hgt hwt H9).trans (by rw [<-show Eh c d g (⟨cp,cr,some ⟨B,0,none⟩,gc,gs,some ⟨q,0,none⟩,lc,cl.set c (v+d),some ⟨C,0,none⟩,uc,cu,some ⟨E,0,none⟩,tc,ts.set k (t.put e),some ⟨D,0,none⟩,sc,F⟩:aF).av=_ from nP,show g=0 by omega];rfl))
def RN (x e:En) (a:x.Ok) (fr to:Nat) (b:fr<18446744073709551616) (ht:to<18446744073709551616) (c:x.moved fr to=e) (w:World):Calls abo 269 #[.agg x.cells,vQ fr,vQ to] w (Is w (.tuple #[.agg e.cells,vI 0])):=c▸q6f x a fr to b ht w
def wu (w:World) (l:List Int) (v:Int) (r:Ending) (a:World):Prop:=(∃i:Int,r= .returned (vI i)/\decide (i>=0)=decide (v∈l))/\Below w.heap.size w a
def q1o {l:List Int} {v:Int} (hk:k<abn l) (h:l.getD k 0=v) (hb:Below w.heap.size w W):wu w l v (.returned (vI k)) W:=⟨⟨k,rfl,decide_eq_decide.2 ⟨λ_=>h▸qf 0 hk,λ_=>by omega⟩⟩,hb⟩
def q1p {l:List Int} {v:Int} (h:∀i,i<abn l->l.getD i 0≠v) (hb:Below w.heap.size w W):wu w l v (.returned (vI (-1))) W:=by
 refine ⟨⟨-1,rfl,decide_eq_decide.2 ⟨λa=>by omega,λa=>?_⟩⟩,hb⟩
 obtain ⟨i,hi,rfl⟩:=aco a
 exact absurd (by rw [abt,abq hi];rfl) (h i hi)
def zit {l:List Int} {v:Int} (h:∀i,i<k->l.getD i 0≠v) (hk:l.getD k 0≠v):∀i,i<k+1->l.getD i 0≠v:=λi hi=>by
 rcases ab5 i k with a|a
 ·exact h i a
 ·obtain rfl:i=k:=by omega
  exact hk
def zfp {s:Nat} {v:Int} (hs:s=m) (hc:v=(c:Int)) (h:¬(m/2^c)%2=1):jq s v=false:=by
 subst hs;subst hc
 unfold jq
 rw [abE,decide_eq_false h]
def RO {v:Int} (hc:v=(c:Int)) (h:(m/2^c)%2=1):jq m v=true:=by
 subst hc
 unfold jq
 rw [abE,decide_eq_true h]
def qpe (W w:World) (x:aF) (H:Nat) (B D E F C:Nat) (Y:dO x B D E F C) (o:bK) (ho:o.Ok) (T:List Fact) (b:Mem W w (jC H x B D E F C++T)):
    Calls abo 154 #[vP H 0,.agg o.cells] w (kg W H T (yO x.av o)):=by
 obtain ⟨cp,cr,gA,gc,gs,lA,lc,cl,uA,uc,cu,tA,tc,ts,sA,sc,rs⟩:=x
 replace b:Mem W w (fM H cp cr gA B gc lA D lc uA E uc tA F tc sA C sc::fG gA B gc gs::fI lA D lc cl::fI uA E uc cu::fT tA F tc ts::fS sA C sc rs::(fR rs++(T))):=b
 obtain ⟨mK,hll,nL,hlt,hls⟩:=Y.ln
 replace mK:abn gs=B:=mK;replace hll:abn cl=D:=hll;replace nL:abn cu=E:=nL;replace hlt:abn ts=F:=hlt;replace hls:abn rs=C:=hls
 have G:=Y.ln
 have hsp:eP gs cp rs:=Y.spots
 have hrg:abn rs=abn gs:=Y.sh.rs
 have hcr:cr<18446744073709551616:=Y.ok.aj
 obtain ⟨hcp1,hcp2,_,M⟩:=mI Y.sh.cfg
 replace hcp1:1<=cp:=hcp1;replace hcp2:cp<=64:=hcp2;replace M:dF gs=true:=M
 have nM:=(qw M).1;have nN:=(qw M).2.1
 have pX:(abn cl:Int)=cp:=Y.sh.cl;have oI:(abn cu:Int)=cp:=Y.sh.cu
 have nO:abn ts<=1000000:=Y.few.t
 have hoc:=ho.cpu;have hot:=ho.task;have hog:=ho.group;have how:=ho.weight;have oJ:=ho.to;have oK:=ho.ticks;have yX:=ho.mask;have pY:=ho.kind;unfold aW at hoc hot hog how oJ oK
 obtain ⟨e,rfl⟩:=zo (b.own (i:=1) rfl) om
 obtain ⟨p,rfl⟩:=zo (b.own (i:=5) rfl) om
 refine (mg b Tryz.func154 102) ?_
 refine (JP∘JE) λw3 U=>(Jp 2∘bA 1∘Jn∘Jf 0∘Jp 1∘dY∘Jj∘JQ∘JB) λa Z b=>?_
 refine qz (λaS wS=>Fr aS 102 [] [(14,.bool (!(decide (1<=o.group/\o.group<abn rs)))),(6,vP H 0),(5,vI 0),(4,vI 0),(3,vP U 0)]/\Mem W wS (.blk U o.cells 214::fM H cp cr (some ⟨e,0,none⟩) B gc lA D lc uA E uc tA F tc (some ⟨p,0,none⟩) C sc::fG (some ⟨e,0,none⟩) B gc gs::fI lA D lc cl::fI uA E uc cu::fT tA F tc ts::fS (some ⟨p,0,none⟩) C sc rs::(fR rs++(T)))) ?_ ?_
 ·
  refine Jb Z b ((Vs .n []) λwd2=>(Vf 0 3∘Vc 1 O0∘Vp [2,3]) λa Z b s=>?_)
  rcases Z.tf 18 rfl with ⟨N,Z⟩|⟨N,Z⟩
  ·
   have Cc:=of_decide_eq_true N
   refine Vb Z b s ((Vq [4,5,6,7,8,9,10,11,12,13] [(14,.bool true)]∘Vd∘kW) λa Z b=>?_)
   have Z:=Z.sp 14 (.bool (!(decide (1<=o.group/\o.group<abn rs)))) rfl (congrArg abM (by rw [decide_eq_false om];rfl))
   exact ⟨Z.sub kr,b.pt 7 [0,1,2,3,4,5,6]⟩
  have Cc:=of_decide_eq_false N
  refine ap Z (λ_=>s) [4,6] (bf 14 [0,1,2,3,4,6]) [(21,vP H 0),(19,vP U 3)] λa Z=>?_
  refine dD Z s 5 0 (v:=vI o.group) λa Z=>?_
  refine oz Z s 7 λa Z=>?_
  refine ap Z (λ_=>s) [8] (bt 14 [9,10,11,12,13]) [(23,vP H 6)] λa Z=>?_
  refine dD Z s 9 1 λa Z=>?_
  refine sS Z s 10 λa Z=>?_
  refine ap Z (λ_=>s) [11,12,13] (bt 14 []) [(14,.bool (decide ((o.group:Int)>=(C:Int))))] λa Z=>?_
  refine qe kr ?_
  have Z:=Z.sp 14 (.bool (!(decide (1<=o.group/\o.group<abn rs)))) rfl (congrArg abM (by rw [<-decide_not];exact decide_eq_decide.2 om))
  exact ⟨Z.sub kr,b.pt 7 [0,1,2,3,4,5,6]⟩
 clear Z b;rintro a w2 ⟨Z,b⟩
 refine Jb Z b (oW (λyV=>?_) λyV=>?_)
 ·
  exact (JT∘bF 2∘bO) λb=>by exact qt (y:=(⟨cp,cr,some ⟨e,0,none⟩,gc,gs,lA,lc,cl,uA,uc,cu,tA,tc,ts,some ⟨p,0,none⟩,sc,rs⟩:aF)) 1 b rfl G (if_pos (by show ¬(1<=o.group/\o.group<(abn (rs.map aeR):Nat));rw [abx];exact yV))
 refine (JF∘JP∘Jg 4 O0∘JL (h:=by exact λb=>MB o.weight _)) ?_
 rintro b _ Gc ⟨rfl,L⟩
 refine ⟨_,rfl,_,b.call L,?_⟩
 refine (Jp 2∘dY∘Jj) (oW (λO=>?_) λO=>?_)
 ·
  exact (JT∘bF 2∘bO) λb=>by exact qt (y:=(⟨cp,cr,some ⟨e,0,none⟩,gc,gs,lA,lc,cl,uA,uc,cu,tA,tc,ts,some ⟨p,0,none⟩,sc,rs⟩:aF)) 1 b rfl G ((if_neg (by show ¬¬(1<=o.group/\o.group<(abn (rs.map aeR):Nat));rw [abx];omega)).trans (if_pos (decide_eq_false O)))
 have hgb:1<=o.group/\o.group<abn rs:=by omega
 obtain ⟨z,xV⟩:∃n:Nat,o.weight=(n:Int):=⟨o.weight.toNat,by omega⟩
 have hz:1<=z/\z<=65536:=by omega
 obtain ⟨g,P⟩:∃n:Nat,o.group=(n:Int):=⟨o.group.toNat,by omega⟩
 obtain ⟨⟨yA,yc,yl⟩,hy⟩:∃y,rs.getD g Rw.zero=y:=⟨_,rfl⟩
 have hys:=hsp g om;rw [hy] at hys
 have hyl:(abn yl:Int)=cp:=hys.1
 obtain ⟨gr,hgr⟩:∃z,gs[g]?=some z:=⟨_,abq om⟩
 obtain ⟨V,Az,RI,RJ⟩:=MP M (g:=g) om
 have Q:=uz Gr.zero hgr
 rw [Q] at Az
 repeat (first|clear Z|clear b)
 intro a Z b
 obtain ⟨X,rfl⟩:=b.jG 7 rfl om hy om
 refine Jb Z b ((aU∘JQ) λa Z b=>?_)
 refine wp_seq ?_
 refine Jb Z b ((Vs .n []) λGb=>(Vp [0]∘Vf 4 3∘Vp [9]∘Vn 1∘Vf 2 6∘Vc 3 O1∘Vc 5 O0∘Vo (vI g) (by rw [P])∘Vy 6 (h:=by exact Yl.iK p g 1 rfl rfl rfl)∘Vy 7 (v:= .slice ((rs.getD g Rw.zero).A) ((rs.getD g Rw.zero).l.length) ((rs.getD g Rw.zero).c)) (h:=by exact aaf 6 g Rw.zero om rfl rfl rfl)∘Vo (vS X (abn yl) yc) (by rw [hy])∘Vl 8∘Vd∘aH∘JB) λa Z b=>?_)
 refine qg (λmS aS wS=>∃(c:Nat) (q:List Rw),(c<=abn yl)/\(abn q=C)/\(q=(rs.set g ⟨some ⟨X,0,none⟩,yc,upd r0 yl c⟩))/\mS=abn yl-c/\Fr aS 102 [] (ahK 41 (abn yl) 42 c [(28,.bool false),(14,.bool false),(6,vP H 0),(5,vI 0),(4,vI 0),(3,vP U 0)])/\Mem W wS (.blk U o.cells 214::fM H cp cr (some ⟨e,0,none⟩) B gc lA D lc uA E uc tA F tc (some ⟨p,0,none⟩) C sc::fG (some ⟨e,0,none⟩) B gc gs::fI lA D lc cl::fI uA E uc cu::fT tA F tc ts::fS (some ⟨p,0,none⟩) C sc q::(fR q++(T)))) (m:=abn yl-0) ⟨0,rs,abA _,hls,by rw [zcg,<-hy];exact (Z5 _ om).symm,rfl,Z.sub kr,b.pt 7 [0,1,2,3,4,5,6]⟩ ?_
 clear Z b;rintro mS a w_ ⟨c,q,hc,hl2,hr2,rfl,Z,b⟩
 refine Jb Z b ((cO 1∘JQ) (Ji (λRP=>?_) λRP=>?_))
 ·
  have anb:c<abn yl:=by omega
  obtain ⟨d,hyz⟩:∃z,yl[c]?=some z:=⟨_,abq om⟩
  have I:=(zim r0 (abr c)).trans hyz
  have R:=hys.2 d (abH hyz)
  rw [Q] at R
  have hyv:=R.1.v;have qL:=R.1.r
  have AA:(⟨d.v,d.r,V⟩:En).Ok:=aaj R.2 Az R.1.v
  have S:q.getD g Rw.zero=⟨some ⟨X,0,none⟩,yc,upd r0 yl c⟩:=by rw [hr2];exact q9 _ _ om
  refine (eO∘aJ 2∘aK∘Jj) λa Z b=>?_
  refine wp_seq ?_
  refine Jb Z b ((Vs .n []) λQg=>(Vp [0]∘Vf 4 3∘Vp [8]∘Vn 1∘Vf 2 6∘Vc 3 O1∘Vc 5 O0∘Vo (vI g) (by rw [P])∘Vy 6 (h:=by exact Yl.iK p g 1 rfl rfl rfl)∘Vy 7 (v:= .slice ((q.getD g Rw.zero).A) ((q.getD g Rw.zero).l.length) ((q.getD g Rw.zero).c)) (h:=by exact aaf 6 g Rw.zero om rfl rfl rfl)∘Vo (vS X (abn yl) yc) (by rw [S];show afp _ (abn (upd r0 yl c)) _=_;rw [zik])∘Vy 9 (h:=by exact Yl.iK X c 3 rfl rfl rfl)∘Vp [10]∘Vd∘aH) λa Z b=>?_)
  refine qz (λaS wS=>∃(J:Nat),Fr aS 102 [] ((9,vP J 0)::(8,vP X (c*3))::(7,vI c)::(43,.bool true)::ahK 41 (abn yl) 42 c [(28,.bool false),(14,.bool false),(6,vP H 0),(5,vI 0),(4,vI 0),(3,vP U 0)])/\Mem W wS (.blk J ((⟨d.v,0,z⟩:En).cells) 333:: .blk U o.cells 214::fM H cp cr (some ⟨e,0,none⟩) B gc lA D lc uA E uc tA F tc (some ⟨p,0,none⟩) C sc::fG (some ⟨e,0,none⟩) B gc gs::fI lA D lc cl::fI uA E uc cu::fT tA F tc ts::fS (some ⟨p,0,none⟩) C sc q::(fR q++(T)))) ?_ ?_
  ·
   refine Jb Z b ((Vs .n [26]) λrz=>(Vp [0,4,8]∘Vf 13 3∘Vf 19 4∘Vn 1∘Vf 2 0∘Vy 3 (v:=vQ d.v) (h:=by exact Pd rfl rfl kr (λ_ h=>h.uy 7 (j:=0) rfl om S (I) rfl))∘Vn 5∘Vf 6 1∘Vy 7 (v:=vW d.r) (h:=by exact Pd rfl rfl kr (λ_ h=>h.uy 7 (j:=1) rfl om S (I) rfl))∘Vn 9∘Vf 10 0∘Vf 11 2∘Vc 12 O1∘Vc 14 O0∘Vo (vI g) (by rw [P])∘Vy 15 (h:=by exact Yl.iK e g 2 rfl rfl rfl)∘Vf 16 1∘Vy 17 (v:=vI gr.weight) (h:=by exact Pd rfl rfl kr (λ_ h=>h.qu qK (i:=2) rfl (k:=g) (off:=1) (x:=gr) (hgr) rfl))∘Vo (vI V) (by rw [Az])∘Vc 20 O0∘Vo (vI z) (by rw [xV])) λa Z b s=>?_)
   refine zd [18,25] kr rfl ?_
   refine all_cons ?_ ?_
   ·refine qq Z (i:=18) rfl rfl ?_
    refine jd Z b [vQ d.v,vW d.r,vI V] (.agg #[vQ d.v,vW d.r,vW V]) rfl rfl (zc d.v d.r (V:Int) om _) λw74 L b a Z=>?_
    refine ay (b.pt 7 [0,1,2,3,4,5,6]) (λs=>?_)
    refine zd [21,25] kr rfl ?_
    refine all_cons ?_ ?_
    ·refine qq Z (i:=21) rfl rfl ?_
     refine jd Z b [.agg #[vQ d.v,vW d.r,vW V],vI z] (.tuple #[.agg ((⟨d.v,0,z⟩:En).cells),vI 0]) rfl rfl (Ee (⟨d.v,d.r,V⟩:En) AA z hz _) λRQ L b a Z=>?_
     refine ay (b.pt 7 [0,1,2,3,4,5,6]) (λs=>?_)
     refine Vb Z b s ((Vp [22]∘Vx 23∘Vx 24∘VA 25 .n #[vQ 0,vW 0,vW 0]) λw9 J=>λa Z b s=>?_)
     refine s_on Z 26 rfl (bT Z b 0 rfl rfl rfl rfl rfl qp rfl rfl (mh (⟨d.v,0,z⟩:En)) λK b=>?_)
     refine dN kr ?_
     refine ap Z (bU kr) [27] (bt 28 []) [] λa Z=>?_
     refine qe kr ?_
     exact ⟨J,Z.sub kr,b.pt 8 [0,1,2,3,4,5,6,7]⟩
    refine all_cons ?_ all_nil
    refine qq Z (i:=25) rfl rfl ?_
    refine gZ Z b #[vQ 0,vW 0,vW 0] ?_
    clear Z b;intro a w9 J Z b
    refine ay (b.pt 8 [1,2,3,4,5,6,7]) (λs=>?_)
    refine Vb Z b s ((VI 21 (.f .n) (h:=by exact λb=>Ee (⟨d.v,d.r,V⟩:En) AA z hz _)) λRQ L=>(Vp [22]∘Vx 23∘Vx 24) λa Z b s=>?_)
    refine s_on Z 26 rfl (bT Z b 0 rfl rfl rfl rfl rfl qp rfl rfl (mh (⟨d.v,0,z⟩:En)) λK b=>?_)
    refine dN kr ?_
    refine ap Z (bU kr) [27] (bt 28 []) [] λa Z=>?_
    refine qe kr ?_
    exact ⟨J,Z.sub kr,b.pt 8 [0,1,2,3,4,5,6,7]⟩
   refine all_cons ?_ all_nil
   refine qq Z (i:=25) rfl rfl ?_
   refine gZ Z b #[vQ 0,vW 0,vW 0] ?_
   clear Z b;intro a w9 J Z b
   refine ay (b.pt 8 [1,2,3,4,5,6,7]) (λs=>?_)
   refine Vb Z b s ((VI 18 (.f .n) (h:=by exact λb=>zc d.v d.r (V:Int) om _)) λw74 L=>(VI 21 (.f .n) (h:=by exact λb=>Ee (⟨d.v,d.r,V⟩:En) AA z hz _)) λRQ L=>(Vp [22]∘Vx 23∘Vx 24) λa Z b s=>?_)
   refine s_on Z 26 rfl (bT Z b 0 rfl rfl rfl rfl rfl qp rfl rfl (mh (⟨d.v,0,z⟩:En)) λK b=>?_)
   refine dN kr ?_
   refine ap Z (bU kr) [27] (bt 28 []) [] λa Z=>?_
   refine qe kr ?_
   exact ⟨J,Z.sub kr,b.pt 8 [0,1,2,3,4,5,6,7]⟩
  clear Z b;rintro a qY ⟨J,Z,b⟩
  refine EX b [.blk J ((⟨d.v,0,z⟩:En).cells) 333,.blk U o.cells 214,fM H cp cr (some ⟨e,0,none⟩) B gc lA D lc uA E uc tA F tc (some ⟨p,0,none⟩) C sc,fG (some ⟨e,0,none⟩) B gc gs,fI lA D lc cl,fI uA E uc cu,fT tA F tc ts] [0,1,2,3,4,5,6] [11] λb s=>?_
  refine ap Z (λ_=>s) [0,1,2,4] (bf 12 [0,1,2,4]) [(84,vP J 1),(82,vP J 0),(81,vP X (c*3)),(80,vP X (c*3))] λa Z=>?_
  refine dD Z s 3 0 (v:=vQ ((⟨d.v,0,z⟩:En).v)) λa Z=>?_
  refine dD Z s 5 0 (v:=vW ((⟨d.v,0,z⟩:En).r)) λa Z=>?_
  refine oz Z s 6 λa Z=>?_
  refine ap Z (λ_=>s) [7] (bt 12 [8,9,10,11]) [(87,vP X (c*3))] λa Z=>?_
  refine s_on Z 8 rfl ?_
  refine CB Z b 7 (c:=c) 0 ({d with v:=d.v}) rfl rfl rfl rfl kr rfl rfl om (S) (I) rfl de rfl λIc b=>?_
  replace b:Mem W Ic (.blk J ((⟨d.v,0,z⟩:En).cells) 333:: .blk U o.cells 214::fM H cp cr (some ⟨e,0,none⟩) B gc lA D lc uA E uc tA F tc (some ⟨p,0,none⟩) C sc::fG (some ⟨e,0,none⟩) B gc gs::fI lA D lc cl::fI uA E uc cu::fT tA F tc ts::fS (some ⟨p,0,none⟩) C sc (aQ q g c ({d with v:=d.v}))::(fR (aQ q g c ({d with v:=d.v}))++(T))):=b
  refine ay (b.pk [0,1,2,3,4,5,6]) (λs=>?_)
  refine BG Z (λ_=>s) 9 λa Z=>?_
  refine ap Z (λ_=>s) [10] (bt 12 [11]) [(89,vP X (c*3+1))] λa Z=>?_
  refine s_on Z 11 rfl ?_
  refine CB Z b 7 (c:=c) 1 (r0 d) rfl rfl rfl rfl kr rfl rfl (by first|omega|(rw [zl];omega)) (ML om S) (xR I) rfl de rfl λCS b=>?_
  replace b:Mem W CS (.blk J ((⟨d.v,0,z⟩:En).cells) 333:: .blk U o.cells 214::fM H cp cr (some ⟨e,0,none⟩) B gc lA D lc uA E uc tA F tc (some ⟨p,0,none⟩) C sc::fG (some ⟨e,0,none⟩) B gc gs::fI lA D lc cl::fI uA E uc cu::fT tA F tc ts::fS (some ⟨p,0,none⟩) C sc (aQ (aQ q g c ({d with v:=d.v})) g c (r0 d))::(fR (aQ (aQ q g c ({d with v:=d.v})) g c (r0 d))++(T))):=b
  rw [Q0 (by first|omega|(rw [zl];omega))] at b
  refine dN kr ?_
  refine qe kr ?_
  refine Jb Z b ((JG∘JR∘dx 1∘Jp 1∘aH∘Jq) λa Z b=>?_)
  exact ⟨_,om,c+1,(aQ q g c (r0 d)),by omega,by rw [zl];exact hl2,q6k om hyz hr2,rfl,Z.sub kr,b.pt 8 [1,2,3,4,5,6,7]⟩
 refine (JF∘JX) λa Z b=>?_
 refine wp_seq ?_
 refine Jb Z b ((Vs .n [11]) λGV=>(Vp [0]∘Vf 5 3∘Vf 7 4∘Vn 1∘Vf 2 0∘Vf 3 2∘Vc 4 O1∘Vc 6 O0∘Vo (vI g) (by rw [P])∘Vc 8 O0∘Vo (vI z) (by rw [xV])∘Vu 9 (h:=by exact λ_=>Yl.iK e g 2 rfl rfl rfl)∘Vf 10 1) λa Z b s=>?_)
 refine s_on Z 11 rfl ?_
 refine zf Z b (i:=2) rfl rfl rfl rfl kr rfl rfl (by rw [qQ fC 2 qK];omega) λRS b=>?_
 replace b:=b.dw (i:=2) (ys:=(gs.set g {gr with weight:=(z:Int)}).flatMap fC) rfl (uL fC 2 qK gs g gr {gr with weight:=(z:Int)} hgr 1 de _ rfl)
 refine dN kr ?_
 refine qe kr ?_
 exact Jb Z b ((bF 2∘bO) λb=>by exact qt (y:=(⟨cp,cr,some ⟨e,0,none⟩,gc,(gs.set g {gr with weight:=(z:Int)}),lA,lc,cl,uA,uc,cu,tA,tc,ts,some ⟨p,0,none⟩,sc,q⟩:aF)) 1 b rfl ⟨by show abn (gs.set _ _)=B;rw [abJ];exact mK,G.l,G.u,G.t,hl2⟩ ((qva (x:=(⟨cp,cr,some ⟨e,0,none⟩,gc,gs,lA,lc,cl,uA,uc,cu,tA,tc,ts,some ⟨p,0,none⟩,sc,rs⟩:aF)) P hgb (decide_eq_true O) hy Q).trans (by rw [xV];exact congrArg (λr=>(aF.av (⟨cp,cr,some ⟨e,0,none⟩,gc,(gs.set g {gr with weight:=(z:Int)}),lA,lc,cl,uA,uc,cu,tA,tc,ts,some ⟨p,0,none⟩,sc,r⟩:aF),(0:Int),0)) (show _=q by rw [hr2,zil r0 yl om]))))
def q1q (W w:World) (x:aF) (U k to:Nat) (t:Tk) (I J K L q:Nat) (m:dO x I J K L q) (ht:x.ts[k]?=some t) (R:(to:Int)<x.au) (T:List Fact) (b:Mem W w (jC U x I J K L q++T)):
    Calls abo 214 #[vP U 0,vI k,vI to] w (Hu W U T (jr x.av k (to:Int))):=by
 obtain ⟨cp,cr,gA,gc,gs,lA,lc,cl,uA,uc,cu,tA,tc,ts,sA,sc,rs⟩:=x
 replace b:Mem W w (fM U cp cr gA I gc lA J lc uA K uc tA L tc sA q sc::aiq gA I gc gs lA J lc cl uA K uc cu tA L tc ts sA q sc rs (fR rs++(T))):=b
 obtain ⟨mK,hll,nL,o,hls⟩:=m.ln
 replace mK:abn gs=I:=mK;replace hll:abn cl=J:=hll;replace nL:abn cu=K:=nL;replace o:abn ts=L:=o;replace hls:abn rs=q:=hls
 have s:=m.ln
 have hsp:eP gs cp rs:=m.spots
 have hrg:abn rs=abn gs:=m.sh.rs
 have hcr:cr<18446744073709551616:=m.ok.aj
 obtain ⟨S,u,_,B⟩:=mI m.sh.cfg
 replace S:1<=cp:=S;replace u:cp<=64:=u;replace B:dF gs=true:=B
 have nM:=(qw B).1;have nN:=(qw B).2.1
 have pX:(abn cl:Int)=cp:=m.sh.cl;have oI:(abn cu:Int)=cp:=m.sh.cu
 have nO:abn ts<=1000000:=m.few.t
 replace ht:ts[k]?=some t:=ht;replace R:(to:Int)<cp:=R
 have hkl:=(abB.1 ht).1
 obtain ⟨C,V⟩:=m.task ht
 have hti:=C.id;have vZ:=C.group;have htc:=C.cpu;have HY:=C.weight;have yZ:=V.v;have htr:=V.r;have HZ:=V.mask
 replace htc:0<=t.cpu/\t.cpu<cp:=htc
 obtain ⟨gt,X⟩:∃n:Nat,t.group=(n:Int):=⟨t.group.toNat,by omega⟩
 obtain ⟨ct,hct⟩:∃n:Nat,t.cpu=(n:Int):=⟨t.cpu.toNat,by omega⟩
 obtain ⟨p,Y⟩:∃n:Nat,t.weight=(n:Int):=⟨t.weight.toNat,by omega⟩
 have M:(⟨t.v,t.r,p⟩:En).Ok:=aaj C.ent Y yZ
 obtain ⟨d,rfl⟩:=zo (b.own (i:=5) rfl) om
 obtain ⟨g,rfl⟩:=zo (b.own (i:=4) rfl) om
 obtain ⟨em,N⟩:∃l,kX (⟨cp,cr,gA,gc,gs,lA,lc,cl,uA,uc,cu,some ⟨g,0,none⟩,tc,ts,some ⟨d,0,none⟩,sc,rs⟩:aF).av gt to=l:=⟨_,rfl⟩
 have tN:=λh hh=>Rx (x:=(⟨cp,cr,gA,gc,gs,lA,lc,cl,uA,uc,cu,some ⟨g,0,none⟩,tc,ts,some ⟨d,0,none⟩,sc,rs⟩:aF)) m (by omega:gt<q) N h hh
 have tO:=Ry (x:=(⟨cp,cr,gA,gc,gs,lA,lc,cl,uA,uc,cu,some ⟨g,0,none⟩,tc,ts,some ⟨d,0,none⟩,sc,rs⟩:aF)) m (by omega:gt<q) N
 obtain ⟨⟨yA,yc,yl⟩,hy⟩:∃y,rs.getD gt Rw.zero=y:=⟨_,rfl⟩
 have O:=hsp gt om;rw [hy] at O
 have hyl:(abn yl:Int)=cp:=O.1
 obtain ⟨gy,rfl⟩:=b.jG 6 rfl om hy om
 obtain ⟨yz,hyz⟩:∃z,yl[ct]?=some z:=⟨_,abq om⟩
 have nC:=O.2 yz (abH hyz)
 have hyv:=nC.1.v;have qL:=nC.1.r;have r9:=nC.1.floor
 obtain ⟨z2,hz2⟩:∃z,yl[to]?=some z:=⟨_,abq om⟩
 have P:=(O.2 z2 (abH hz2)).1.floor
 obtain ⟨e,D⟩:∃e,(⟨t.v,t.r,p⟩:En).moved yz.floor z2.floor=e:=⟨_,rfl⟩
 have uX:e.Ok/\e.w=p:=by rw [<-D];exact aaP M _ _ P
 have hev:=uX.1.2;have her:=Ay uX.1.1
 have hmo:=zch (x:=(⟨cp,cr,gA,gc,gs,lA,lc,cl,uA,uc,cu,some ⟨g,0,none⟩,tc,ts,some ⟨d,0,none⟩,sc,rs⟩:aF)) (to:=to) ht X hct Y (xQ (x:=(⟨cp,cr,gA,gc,gs,lA,lc,cl,uA,uc,cu,some ⟨g,0,none⟩,tc,ts,some ⟨d,0,none⟩,sc,rs⟩:aF)) (by show gt<abn rs;omega) hy hyz) (xQ (x:=(⟨cp,cr,gA,gc,gs,lA,lc,cl,uA,uc,cu,some ⟨g,0,none⟩,tc,ts,some ⟨d,0,none⟩,sc,rs⟩:aF)) (by show gt<abn rs;omega) hy hz2) D N
 refine (yR b Tryz.func214 81) ?_
 refine (aJ 1∘Jn∘Jf 0∘Jg 5 O0∘Jp 1∘nU k 8∘Jp 1∘aH∘bA 2∘Jn∘Jf 1∘Jy (v:=vI t.group) (h:=by exact Pd rfl rfl kr (λ_ h=>h.qu ql (i:=4) rfl (k:=k) (off:=1) (x:=t) (ht) rfl))∘Jo (vI gt) (by rw [X])∘Jp 1∘JK (h:=by exact λb=>Rv 0 b rfl m (by show ((to:Nat):Int)<cp;omega) om N)) λRU c24 w24 hc24=>(Jp 1∘aH∘Jj) λa Z b=>?_
 refine wp_seq ?_
 refine Jb Z b ((Vs .n []) λwd2=>(Vp [0,5]∘Vn 1∘Vf 2 0∘Vf 3 6∘Vc 4 O1∘Vn 6∘Vf 7 1∘Vy 8 (v:=vI t.group) (h:=by exact Pd rfl rfl kr (λ_ h=>h.qu ql (i:=5) rfl (k:=k) (off:=1) (x:=t) (ht) rfl))∘Vo (vI gt) (by rw [X])∘Vy 9 (h:=by exact Yl.iK d gt 1 rfl rfl rfl)∘Vy 10 (v:= .slice ((rs.getD gt Rw.zero).A) ((rs.getD gt Rw.zero).l.length) ((rs.getD gt Rw.zero).c)) (h:=by exact aaf 6 gt Rw.zero om rfl rfl rfl)∘Vo (vS gy (abn yl) yc) (by rw [hy])∘Vp [11]∘Vd∘aH) λa Z b=>?_)
 refine qz (λaS wS=>∃(G:Nat),Fr aS 81 [] [(9,vP G 0),(7,abk RU em c24),(6,vP g (k*8)),(0,vP U 0),(2,vI to)]/\Mem W wS (.blk G e.cells 333::abl RU em c24 dM 3 1::fM U cp cr gA I gc lA J lc uA K uc (some ⟨g,0,none⟩) L tc (some ⟨d,0,none⟩) q sc::aiq gA I gc gs lA J lc cl uA K uc cu (some ⟨g,0,none⟩) L tc ts (some ⟨d,0,none⟩) q sc rs (fR rs++(T)))) ?_ ?_
 ·
  refine Jb Z b ((Vs .n [31]) λwd3=>(Vp [0,4,8,13,14,21,22]∘Vn 1∘Vf 2 6∘Vy 3 (v:=vQ t.v) (h:=by exact Pd rfl rfl kr (λ_ h=>h.qu ql (i:=5) rfl (k:=k) (off:=6) (x:=t) (ht) rfl))∘Vn 5∘Vf 6 7∘Vy 7 (v:=vW t.r) (h:=by exact Pd rfl rfl kr (λ_ h=>h.qu ql (i:=5) rfl (k:=k) (off:=7) (x:=t) (ht) rfl))∘Vn 9∘Vf 10 2∘Vy 11 (v:=vI t.weight) (h:=by exact Pd rfl rfl kr (λ_ h=>h.qu ql (i:=5) rfl (k:=k) (off:=2) (x:=t) (ht) rfl))∘Vo (vI p) (by rw [Y])∘Vn 15∘Vf 16 3∘Vy 17 (v:=vI t.cpu) (h:=by exact Pd rfl rfl kr (λ_ h=>h.qu ql (i:=5) rfl (k:=k) (off:=3) (x:=t) (ht) rfl))∘Vo (vI ct) (by rw [hct])∘Vy 18 (h:=by exact Yl.iK gy ct 3 rfl rfl rfl)∘Vf 19 2∘Vy 20 (v:=vQ yz.floor) (h:=by exact Pd rfl rfl kr (λ_ h=>h.uy 7 (j:=2) rfl om hy (hyz) rfl))∘Vy 23 (h:=by exact Yl.iK gy to 3 rfl rfl rfl)∘Vf 24 2∘Vy 25 (v:=vQ z2.floor) (h:=by exact Pd rfl rfl kr (λ_ h=>h.uy 7 (j:=2) rfl om hy (hz2) rfl))) λa Z b H=>?_)
  refine zd [12,30] kr rfl ?_
  refine all_cons ?_ ?_
  ·refine qq Z (i:=12) rfl rfl ?_
   refine jd Z b [vQ t.v,vW t.r,vI p] (.agg #[vQ t.v,vW t.r,vW p]) rfl rfl (zc t.v t.r (p:Int) om _) λAa Q b a Z=>?_
   refine ay (b.pt 7 [0,1,2,3,4,5,6]) (λH=>?_)
   refine zd [26,30] kr rfl ?_
   refine all_cons ?_ ?_
   ·refine qq Z (i:=26) rfl rfl ?_
    refine jd Z b [.agg #[vQ t.v,vW t.r,vW p],vQ yz.floor,vQ z2.floor] (.tuple #[.agg e.cells,vI 0]) rfl rfl (RN (⟨t.v,t.r,p⟩:En) e M yz.floor z2.floor r9 P D _) λRV Q b a Z=>?_
    refine ay (b.pt 7 [0,1,2,3,4,5,6]) (λH=>?_)
    refine Vb Z b H ((Vp [27]∘Vx 28∘Vx 29∘VA 30 .n #[vQ 0,vW 0,vW 0]) λw9 G=>λa Z b H=>?_)
    refine s_on Z 31 rfl (bT Z b 0 rfl rfl rfl rfl rfl qp rfl rfl (mh e) λE b=>?_)
    refine dN kr ?_
    refine ap Z (bU kr) [32] (bt 33 []) [] λa Z=>?_
    refine qe kr ?_
    exact ⟨G,Z.sub kr,b.pt 8 [0,1,2,3,4,5,6,7]⟩
   refine all_cons ?_ all_nil
   refine qq Z (i:=30) rfl rfl ?_
   refine gZ Z b #[vQ 0,vW 0,vW 0] ?_
   clear Z b;intro a w9 G Z b
   refine ay (b.pt 8 [1,2,3,4,5,6,7]) (λH=>?_)
   refine Vb Z b H ((VI 26 (.f .n) (h:=by exact λb=>RN (⟨t.v,t.r,p⟩:En) e M yz.floor z2.floor r9 P D _)) λRV Q=>(Vp [27]∘Vx 28∘Vx 29) λa Z b H=>?_)
   refine s_on Z 31 rfl (bT Z b 0 rfl rfl rfl rfl rfl qp rfl rfl (mh e) λE b=>?_)
   refine dN kr ?_
   refine ap Z (bU kr) [32] (bt 33 []) [] λa Z=>?_
   refine qe kr ?_
   exact ⟨G,Z.sub kr,b.pt 8 [0,1,2,3,4,5,6,7]⟩
  refine all_cons ?_ all_nil
  refine qq Z (i:=30) rfl rfl ?_
  refine gZ Z b #[vQ 0,vW 0,vW 0] ?_
  clear Z b;intro a w9 G Z b
  refine ay (b.pt 8 [1,2,3,4,5,6,7]) (λH=>?_)
  refine Vb Z b H ((VI 12 (.f .n) (h:=by exact λb=>zc t.v t.r (p:Int) om _)) λAa Q=>(VI 26 (.f .n) (h:=by exact λb=>RN (⟨t.v,t.r,p⟩:En) e M yz.floor z2.floor r9 P D _)) λRV Q=>(Vp [27]∘Vx 28∘Vx 29) λa Z b H=>?_)
  refine s_on Z 31 rfl (bT Z b 0 rfl rfl rfl rfl rfl qp rfl rfl (mh e) λE b=>?_)
  refine dN kr ?_
  refine ap Z (bU kr) [32] (bt 33 []) [] λa Z=>?_
  refine qe kr ?_
  exact ⟨G,Z.sub kr,b.pt 8 [0,1,2,3,4,5,6,7]⟩
 clear Z b;rintro a w3 ⟨G,Z,b⟩
 refine Jb Z b ((aJ 1∘dZ qp O0∘JO (h:=by exact λb=>MQ t e uh b ht o uX.1)) λM4=>(nT∘bA 2∘Jn∘Jf 3) λa Z b=>?_)
 refine fo Z 4 rfl rfl ?_
 refine zf Z b (i:=6) rfl rfl rfl rfl kr rfl rfl (by rw [qQ bS 8 ql,abJ];omega) λanf b=>?_
 replace b:=b.dw (i:=6) (ys:=(ts.set k {t.put e with cpu:=(to:Int)}).flatMap bS) rfl ((uL bS 8 ql (ts.set k (t.put e)) k (t.put e) {t.put e with cpu:=(to:Int)} (xR ht) 3 de _ rfl).trans (by rw [ae1]))
 refine Jb Z b ((xE∘bA 1∘Jn∘Jf 5∘Jy (v:= .bool (({t.put e with cpu:=(to:Int)}:Tk).ready)) (h:=by exact Pd rfl rfl kr (λ_ h=>h.qu ql (i:=6) rfl (k:=k) (off:=5) (x:=({t.put e with cpu:=(to:Int)}:Tk)) ((xR ht)) rfl))∘Jo (.bool t.ready) (by exact rfl)∘dY∘Jj) (Ju (λF=>?_) λF=>?_))
 ·
  refine (JT∘JR∘Jp 3∘JL (h:=by exact λb=>M6 2 b rfl (j:=1) rfl de (Ef (ts':=ts.set k {t.put e with cpu:=(to:Int)}) s (by rw [abJ];exact o)) (tN) (tO) B hrg hsp hcr u (by show ((to:Nat):Int)<cp;omega))) ?_
  rintro b _ w80 ⟨jL,rfl,hl2,hsp2,nP,xJ⟩
  refine ⟨_,rfl,_,(show Mem W w80 (.blk G e.cells 333::abl RU em c24 dM 3 1::fM U cp cr gA I gc lA J lc uA K uc (some ⟨g,0,none⟩) L tc (some ⟨d,0,none⟩) q sc::aiq gA I gc gs lA J lc cl uA K uc cu (some ⟨g,0,none⟩) L tc (ts.set k {t.put e with cpu:=(to:Int)}) (some ⟨d,0,none⟩) q sc jL (fR jL++(T))) from xJ),?_⟩
  refine (xE∘Jq) λa Z b=>?_
  exact iF rfl Z (q6j (y:=(⟨cp,cr,gA,gc,gs,lA,lc,cl,uA,uc,cu,some ⟨g,0,none⟩,tc,(ts.set k {t.put e with cpu:=(to:Int)}),some ⟨d,0,none⟩,sc,jL⟩:aF)) 2 b rfl (MS (Ef s (by rw [abJ];exact o)) hl2) (by rw [hmo,if_pos F];exact nP))
 refine (JF∘JS) λa Z b=>?_
 exact iF rfl Z (q6j (y:=(⟨cp,cr,gA,gc,gs,lA,lc,cl,uA,uc,cu,some ⟨g,0,none⟩,tc,(ts.set k {t.put e with cpu:=(to:Int)}),some ⟨d,0,none⟩,sc,rs⟩:aF)) 2 b rfl (Ef s (by rw [abJ];exact o)) (by rw [hmo,if_neg (yT F)]))
def q62 {to:Nat} (n:Nat) (h:Mem W w F) (i:F.drop n=jC a x c m g b d++T) (j:dO x c m g b d) (ht:x.ts[k]?=some t) (e:(to:Int)<x.au):
  Calls abo 214 #[vP a 0,vI k,vI to] w (λr f=>∃y:aF,r= .returned (.tuple #[])/\y.av=jr x.av k (to:Int)/\Mem W f (F.take n++(mU a y++T))):=
 (q1q W w x a k to t c m g b d j ht e (F.take n++T) (h.front n i)).mono λr f ⟨y,l,o,p⟩=>⟨y,l,o,p.back⟩
def q1r (A:Option Addr) (c:Nat) (l:List Int) (v:Int) (w:World) (hr:Rd w w.heap.size 1 A (abn l) (l.map aX)) (p:abn l<=1000000):
    Calls abo 268 #[abk A l c,vI v] w (wu w l v):=by
 refine (jf Tryz.func268 19) ?_
 refine (cO 1∘bN 1∘Jl∘bM 1∘JB) λa Z d=>?_
 refine qg (λg n o=>∃(k:Nat),(k<=abn l)/\(∀i,i<k->l.getD i 0≠v)/\g=abn l-k/\Fr n 19 [] (ahK 8 k 7 (abn l) [(4,vI 0),(0,abk A l c),(1,vI v)])/\Mem w o []) (m:=abn l-0) ⟨0,abA _,λi h=>by omega,rfl,Z.sub kr,d.pk []⟩ ?_
 clear Z d;rintro g a q ⟨k,r,j,rfl,Z,d⟩
 refine Jb Z d ((cO 1∘JQ) (Ji (λe=>?_) λe=>?_))
 ·
  have f:k<abn l:=by omega
  refine (eO∘aJ 2∘aK∘bA 3) ?_
  obtain ⟨gA,s,rfl,_⟩:=hr.sat k
  refine (iC k 1∘Jy (h:=by exact aad hr k 0 om rfl rfl)∘Jp 1∘kW∘Jj) (Je (λb=>?_) λb=>?_)
  ·
   exact (JT∘aJ 2∘aK∘aP∘bC) λd=>q1o f b.symm d.below
  refine (aU∘JR∘dx 1∘Jp 1∘aK∘Jq) λa Z d=>?_
  exact ⟨_,om,k+1,by omega,zit j (λh=>b h.symm),rfl,Z.sub kr,d.pk []⟩
 exact (JF∘JX∘JG∘bF 1∘bC) λd=>q1p (λi hi=>j i om) d.below
def qpf (A:Option Addr) (c:Nat) (l:List Int) (v:Int) (w:World) (hr:Rd w w.heap.size 1 A (abn l) (l.map aX)) (d:abn l<=1000000):
    Calls abo 213 #[abk A l c,vI v] w (Is w (.bool (decide (v∈l)))):=by
 refine (jf Tryz.func213 9) ?_
 refine (aJ 1∘bA 2∘JL (h:=by exact λa=>q1r A c l v _ (a.old hr) d)) ?_
 rintro a _ f ⟨⟨i,rfl,e⟩,b⟩
 refine ⟨_,rfl,_,a.call b,?_⟩
 exact (Jp 2∘gq∘aP∘bC) λa=>cB e a.below
def qvi {c n:Nat} {l:List Int} {v:Int} (a:abn l=n) (hr:Rd w w.heap.size 1 A n (l.map aX)) (b:abn l<=1000000):Calls abo 213 #[.slice A n c,vI v] w (Is w (.bool (decide (v∈l)))):=by
 subst a
 exact qpf A c l v w hr b
def qpg (W w:World) (x:aF) (M:Nat) (N O P L Q:Nat) (q:dO x N O P L Q) (o:bK) (F:o.Ok) (T:List Fact) (b:Mem W w (jC M x N O P L Q++T)):
    Calls abo 155 #[vP M 0,.agg o.cells] w (kg W M T (qc1 x.av o)):=by
 obtain ⟨cp,cr,gA,gc,gs,lA,lc,cl,uA,uc,cu,tA,tc,ts,sA,sc,rs⟩:=x
 replace b:Mem W w (fM M cp cr gA N gc lA O lc uA P uc tA L tc sA Q sc::aiq gA N gc gs lA O lc cl uA P uc cu tA L tc ts sA Q sc rs (fR rs++(T))):=b
 obtain ⟨R,S,I,U,V⟩:=q.ln
 replace R:abn gs=N:=R;replace S:abn cl=O:=S;replace I:abn cu=P:=I;replace U:abn ts=L:=U;replace V:abn rs=Q:=V
 have g:=q.ln
 have hsp:eP gs cp rs:=q.spots
 have hrg:abn rs=abn gs:=q.sh.rs
 have hcr:cr<18446744073709551616:=q.ok.aj
 obtain ⟨G,H,_,E⟩:=mI q.sh.cfg
 replace G:1<=cp:=G;replace H:cp<=64:=H;replace E:dF gs=true:=E
 have nM:=(qw E).1;have nN:=(qw E).2.1
 have pX:(abn cl:Int)=cp:=q.sh.cl;have oI:(abn cu:Int)=cp:=q.sh.cu
 have nO:abn ts<=1000000:=q.few.t
 have hoc:=F.cpu;have hot:=F.task;have hog:=F.group;have how:=F.weight;have X:=F.to;have Y:=F.ticks;have yX:=F.mask;have pY:=F.kind;unfold aW at hoc hot hog how X Y
 obtain ⟨e,rfl⟩:=zo (b.own (i:=3) rfl) om
 refine (mg b Tryz.func155 67) ?_
 refine (JP∘JE) λw3 g3=>(bM 2∘JQ∘JB∘aJ 1∘Jg 5 O0∘JI (h:=by exact λb=>qno 1 b rfl q o.to)) λuV J=>(Jp 2∘gq∘Jj) (oW (λf=>?_) λf=>?_)
 ·
  exact (JT∘bF 2∘bO) λb=>by exact qt (y:=(⟨cp,cr,gA,gc,gs,lA,lc,cl,some ⟨e,0,none⟩,uc,cu,tA,tc,ts,sA,sc,rs⟩:aF)) 1 b rfl g (if_pos (decide_eq_false f))
 replace f:0<=o.to/\o.to<cp:=f
 obtain ⟨c,B⟩:∃n:Nat,o.to=(n:Int):=⟨o.to.toNat,by omega⟩
 have rE:((c:Nat):Int)<cp:=by omega
 have RX:abn cu<=1000000:=q.few.u
 refine (JF∘JP∘Jg 2 O0∘JI (h:=by exact λb=>MR o.task _)) λw16 J=>(Jp 2∘dY∘Jj) (oW (λd=>?_) λd=>?_)
 ·
  exact (JT∘bF 2∘bO) λb=>by exact qt (y:=(⟨cp,cr,gA,gc,gs,lA,lc,cl,some ⟨e,0,none⟩,uc,cu,tA,tc,ts,sA,sc,rs⟩:aF)) 1 b rfl g ((if_neg (nf (decide_eq_true f))).trans (if_pos (decide_eq_false d)))
 refine (aU∘aJ 1∘Jg 2 O0∘JI (h:=by exact λb=>Hq 1 b rfl q o.task)) λRB J=>(Jp 1∘dY∘Jj∘JQ∘JB∘aJ 3∘bQ∘Jj) (Ji (λC=>?_) λC=>?_)
 ·
  exact (JT∘bF 2∘bO) λb=>by exact qt (y:=(⟨cp,cr,gA,gc,gs,lA,lc,cl,some ⟨e,0,none⟩,uc,cu,tA,tc,ts,sA,sc,rs⟩:aF)) 1 b rfl g ((if_neg (nf (decide_eq_true f))).trans ((if_neg (nf (decide_eq_true d))).trans (if_pos (C))))
 obtain ⟨k,t,A,ht,hkl,yY⟩:=Ht C
 replace A:fidx ts o.task=(k:Int):=A;replace ht:ts[k]?=some t:=ht;replace hkl:k<abn ts:=hkl
 obtain ⟨D,K⟩:=q.task ht
 have hti:=D.id;have vZ:=D.group;have htc:=D.cpu;have HY:=D.weight;have yZ:=K.v;have htr:=K.r;have HZ:=K.mask
 replace htc:0<=t.cpu/\t.cpu<cp:=htc
 obtain ⟨gt,hgt⟩:∃n:Nat,t.group=(n:Int):=⟨t.group.toNat,by omega⟩
 obtain ⟨ct,hct⟩:∃n:Nat,t.cpu=(n:Int):=⟨t.cpu.toNat,by omega⟩
 obtain ⟨wt,hwt⟩:∃n:Nat,t.weight=(n:Int):=⟨t.weight.toNat,by omega⟩
 have rR:(⟨t.v,t.r,wt⟩:En).Ok:=aaj D.ent hwt yZ
 repeat (first|clear Z|clear b)
 intro a Z b
 obtain ⟨l,rfl⟩:=b.rat 5 k (hk:=(by omega:k<L))
 refine Jb Z b ((JF) λa Z b=>?_)
 refine wp_seq ?_
 refine Jb Z b ((Vs .n []) λM5=>(Vp [0]∘Vf 5 2∘Vn 1∘Vf 2 0∘Vf 3 4∘Vc 4 O1∘Vc 6 O0∘VI 7 .n (h:=by exact λb=>qvi I (b.rd (i:=4) rfl) RX)) λLH J=>(Vp [8]∘Vd∘aH) (Ji (λp=>?_) λp=>?_))
 ·
  exact (JT∘bF 2∘bO) λb=>by exact qt (y:=(⟨cp,cr,gA,gc,gs,lA,lc,cl,some ⟨e,0,none⟩,uc,cu,some ⟨l,0,none⟩,tc,ts,sA,sc,rs⟩:aF)) 1 b rfl g ((if_neg (nf (decide_eq_true f))).trans ((if_neg (nf (decide_eq_true d))).trans ((if_neg (by show ¬fidx ts o.task<0;rw [A];omega)).trans (if_pos (p)))))
 refine (JF) λa Z b=>?_
 refine wp_seq ?_
 refine Jb Z b ((Vs .n []) λrz=>(Vp [0]∘Vf 9 5∘Vn 1∘Vf 2 0∘Vf 3 5∘Vc 4 O1∘Vp [5]∘Vo (vI k) (by rw [A])∘Vy 6 (h:=by exact Yl.iK l k 8 rfl rfl rfl)∘Vf 7 3∘Vy 8 (v:=vI t.cpu) (h:=by exact Pd rfl rfl kr (λ_ h=>h.qu ql (i:=5) rfl (k:=k) (off:=3) (x:=t) (ht) rfl))∘Vc 10 O0∘Vp [11,12]∘Vd∘aH) (Je (λz=>?_) λz=>?_))
 ·
  exact (JT∘bF 2∘bO) λb=>by exact qt (y:=(⟨cp,cr,gA,gc,gs,lA,lc,cl,some ⟨e,0,none⟩,uc,cu,some ⟨l,0,none⟩,tc,ts,sA,sc,rs⟩:aF)) 1 b rfl g ((if_neg (nf (decide_eq_true f))).trans ((if_neg (nf (decide_eq_true d))).trans ((if_neg (by show ¬fidx ts o.task<0;rw [A];omega)).trans ((if_neg (p)).trans (if_pos (by rw [xS (s:=aF.av (⟨cp,cr,gA,gc,gs,lA,lc,cl,some ⟨e,0,none⟩,uc,cu,some ⟨l,0,none⟩,tc,ts,sA,sc,rs⟩:aF)) A ht];exact z))))))
 have hmb:=aeS t.mask (2^c)
 refine (JF) λa Z b=>?_
 refine wp_seq ?_
 refine Jb Z b ((Vs .n []) λGf=>(Vp [0]∘Vf 9 5∘Vn 1∘Vf 2 0∘Vf 3 5∘Vc 4 O1∘Vp [5]∘Vo (vI k) (by rw [A])∘Vy 6 (h:=by exact Yl.iK l k 8 rfl rfl rfl)∘Vf 7 4∘Vy 8 (v:=vQ t.mask) (h:=by exact Pd rfl rfl kr (λ_ h=>h.qu ql (i:=5) rfl (k:=k) (off:=4) (x:=t) (ht) rfl))∘Vc 10 O0∘Vo (vI c) (by rw [B])∘Vy 11 (v:=vQ (t.mask/2^c:Nat)) (h:=by exact aas (m:=t.mask) (n:=c) rfl rfl rfl (by show _<=64;omega))∘Vp [12]∘Vo (vQ ((t.mask/2^c)%2:Nat)) (by exact Lj (n:=1) (j:=1) rfl de om)∘Vp [13,14]∘Vd∘aH) (Je (λRY=>?_) λRY=>?_))
 ·
  exact (JT∘bF 2∘bO) λb=>by exact qt (y:=(⟨cp,cr,gA,gc,gs,lA,lc,cl,some ⟨e,0,none⟩,uc,cu,some ⟨l,0,none⟩,tc,ts,sA,sc,rs⟩:aF)) 1 b rfl g ((if_neg (nf (decide_eq_true f))).trans ((if_neg (nf (decide_eq_true d))).trans ((if_neg (by show ¬fidx ts o.task<0;rw [A];omega)).trans ((if_neg (p)).trans ((if_neg (by rw [xS (s:=aF.av (⟨cp,cr,gA,gc,gs,lA,lc,cl,some ⟨e,0,none⟩,uc,cu,some ⟨l,0,none⟩,tc,ts,sA,sc,rs⟩:aF)) A ht];exact z)).trans (if_pos (zfp (by rw [xS (s:=aF.av (⟨cp,cr,gA,gc,gs,lA,lc,cl,some ⟨e,0,none⟩,uc,cu,some ⟨l,0,none⟩,tc,ts,sA,sc,rs⟩:aF)) A ht]) B om)))))))
 refine (aU∘aJ 2∘Jo (vI k) (by rw [A])∘Jf 5∘Jc O0∘Jo (vI c) (by rw [B])∘JL (h:=by exact λb=>q62 1 b rfl q ht rE)) ?_
 rintro b _ w66 ⟨y,rfl,hys,xJ⟩
 refine ⟨_,rfl,_,(show Mem W w66 (.blk g3 o.cells 214::(mU M y++(T))) from xJ),?_⟩
 exact (qI∘bA 2∘aP∘bO) λb=>by exact zfm 1 b rfl ((qvb (x:=(⟨cp,cr,gA,gc,gs,lA,lc,cl,some ⟨e,0,none⟩,uc,cu,some ⟨l,0,none⟩,tc,ts,sA,sc,rs⟩:aF)) (decide_eq_true f) (decide_eq_true d) A ht p z (RO B om)).trans (by rw [hys,B]))
def ziu {a b:Int}:(a !=b)=decide (a≠b):=by rw [Bool.eq_iff_iff,bne_iff_ne,decide_eq_true_eq]
def qso {v:Int} (n:Nat) (f:Mem W w F) (h:F.drop n=jC e x m g a b d++T) (i:dO x m g a b d) (j:aI x.av c=v):Calls abo 215 #[vP e 0,vI c] w (Is w (vI v)):=j▸q60 n f h i
def zc1 {fr v lc be:Int} {i:Bool} (a:o.cpu=(c:Int)) (b:iR x.av o.cpu x.au.toNat=(fr,v)) (d:aI x.av c=lc) (e:t.cpu=(m:Int)) (f:be.toNat=g) (h:(t.ready&& (decide (t.cpu=fr)&& (decide ((t.mask/2^c)%2=1)&&decide (x.cu.getD m 0≠t.id))))=i):
  yU x.av o be t=(i&&decide (2*t.weight<=v-lc)&& (decide (be<0)||decide ((x.ts.getD g Tk.zero).weight<t.weight))):=by
 unfold yU tJ jq
 rw [show x.av.au=x.au from rfl,b,a,abE,d,f,<-h,show x.av.cu=x.cu from rfl,show x.av.ts=x.ts from rfl,e,abE]
 simp only [Bool.and_assoc]
def qph (W w:World) (x:aF) (A:Nat) (J K L p M:Nat) (B:dO x J K L p M) (o:bK) (ho:o.Ok) (T:List Fact) (e:Mem W w (jC A x J K L p M++T)):
    Calls abo 156 #[vP A 0,.agg o.cells] w (kg W A T (vK x.av o)):=by
 obtain ⟨cp,cr,gA,gc,gs,lA,lc,cl,uA,uc,cu,tA,tc,ts,sA,sc,rs⟩:=x
 replace e:Mem W w (fM A cp cr gA J gc lA K lc uA L uc tA p tc sA M sc::aiq gA J gc gs lA K lc cl uA L uc cu tA p tc ts sA M sc rs (fR rs++(T))):=e
 obtain ⟨mK,hll,nL,hlt,hls⟩:=B.ln
 replace mK:abn gs=J:=mK;replace hll:abn cl=K:=hll;replace nL:abn cu=L:=nL;replace hlt:abn ts=p:=hlt;replace hls:abn rs=M:=hls
 have Ie:=B.ln
 have hsp:eP gs cp rs:=B.spots
 have hrg:abn rs=abn gs:=B.sh.rs
 have hcr:cr<18446744073709551616:=B.ok.aj
 obtain ⟨hcp1,hcp2,_,hgs⟩:=mI B.sh.cfg
 replace hcp1:1<=cp:=hcp1;replace hcp2:cp<=64:=hcp2;replace hgs:dF gs=true:=hgs
 have nM:=(qw hgs).1;have nN:=(qw hgs).2.1
 have pX:(abn cl:Int)=cp:=B.sh.cl;have oI:(abn cu:Int)=cp:=B.sh.cu
 have nO:abn ts<=1000000:=B.few.t
 have hoc:=ho.cpu;have hot:=ho.task;have hog:=ho.group;have how:=ho.weight;have oJ:=ho.to;have oK:=ho.ticks;have yX:=ho.mask;have pY:=ho.kind;unfold aW at hoc hot hog how oJ oK
 have F:=qnu B.sh;replace F:∀t∈ts,1<=t.weight/\t.weight<=65536:=F
 obtain ⟨f,rfl⟩:=zo (e.own (i:=3) rfl) om
 have hld:∀c,aI (⟨cp,cr,gA,gc,gs,lA,lc,cl,some ⟨f,0,none⟩,uc,cu,tA,tc,ts,sA,sc,rs⟩:aF).av c<=65536000000/\0<=aI (⟨cp,cr,gA,gc,gs,lA,lc,cl,some ⟨f,0,none⟩,uc,cu,tA,tc,ts,sA,sc,rs⟩:aF).av c:=λc=>by have h1:0<=gV ts c/\gV ts c<=65536*abn ts:=qlq (c:=c) F;exact ⟨by show gV ts c<=_;omega,h1.1⟩
 refine (mg e Tryz.func156 136) ?_
 refine (JP∘JE) λw3 g3=>(bM 2∘bN 1∘Jg 1 O0∘JI (h:=by exact λe=>qno 1 e rfl B o.cpu)) λuW hbw=>(Jp 1∘dY∘Jj) (oW (λq=>?_) λq=>?_)
 ·
  exact (JT∘bF 2∘bO) λe=>by exact qt (y:=(⟨cp,cr,gA,gc,gs,lA,lc,cl,some ⟨f,0,none⟩,uc,cu,tA,tc,ts,sA,sc,rs⟩:aF)) 1 e rfl Ie (if_pos (decide_eq_false q))
 replace q:0<=o.cpu/\o.cpu<cp:=q
 obtain ⟨c,N⟩:∃n:Nat,o.cpu=(n:Int):=⟨o.cpu.toNat,by omega⟩
 have rE:((c:Nat):Int)<cp:=by omega
 obtain ⟨lc_,Q⟩:∃z,aI (⟨cp,cr,gA,gc,gs,lA,lc,cl,some ⟨f,0,none⟩,uc,cu,tA,tc,ts,sA,sc,rs⟩:aF).av c=z:=⟨_,rfl⟩
 have RZ:=hld c
 rw [Q] at RZ
 refine (aU∘cO 2∘bN 1∘Jn∘Jf 0∘Jf 0∘Jg 0 O1∘bM 1∘JB) λa Z e=>?_
 refine qg (λmS aS wS=>∃(i:Nat) (fr:Int) (R:Int),((i:Int)<=cp)/\(iR (⟨cp,cr,gA,gc,gs,lA,lc,cl,some ⟨f,0,none⟩,uc,cu,tA,tc,ts,sA,sc,rs⟩:aF).av o.cpu i=(fr,R))/\mS=cp.toNat-i/\Fr aS 136 [] (ahK 26 i 25 cp (ahK 7 R 6 fr ((19,.bool false)::ahX g3 A [])))/\Mem W wS (.blk g3 o.cells 214::fM A cp cr gA J gc lA K lc (some ⟨f,0,none⟩) L uc tA p tc sA M sc::aiq gA J gc gs lA K lc cl (some ⟨f,0,none⟩) L uc cu tA p tc ts sA M sc rs (fR rs++(T)))) (m:=cp.toNat-0) ⟨0,(-1),(-1),by omega,rfl,rfl,Z.sub kr,e.pt 7 [0,1,2,3,4,5,6]⟩ ?_
 clear Z e;rintro mS a w_ ⟨i,fr,R,hi,S,rfl,Z,e⟩
 refine Jb Z e ((cO 1∘JQ) (Ji (λhd27=>?_) λhd27=>?_))
 ·
  obtain ⟨lw,O⟩:∃z,aI (⟨cp,cr,gA,gc,gs,lA,lc,cl,some ⟨f,0,none⟩,uc,cu,tA,tc,ts,sA,sc,rs⟩:aF).av i=z:=⟨_,rfl⟩
  have R3:=hld i
  rw [O] at R3
  refine (eO∘aJ 2∘aK∘bA 2∘JI (h:=by exact λe=>qso 1 e rfl B O)) λGc hbw=>(Jp 1∘dY∘bA 1∘Jf 1∘Jc O0∘Jo (vI c) (by rw [N])∘Jp 2) (Jh (λR4=>?_) λR4=>?_)
  ·
   refine (Jp 4∘aH∘Jj) (Ji (λCt=>?_) λCt=>?_)
   ·
    refine (JT∘JR∘bM 4∘JR∘dx 1∘Jp 1∘aK∘Jq) λa Z e=>?_
    exact ⟨_,om,i+1,(i:Int),lw,by omega,by rw [Rf S,if_pos ⟨by omega,by rw [O];omega⟩,O],rfl,Z.sub kr,e.pt 7 [0,1,2,3,4,5,6]⟩
   refine (aU∘JR∘dx 1∘Jp 1∘aK∘Jq) λa Z e=>?_
   exact ⟨_,om,i+1,fr,R,by omega,by rw [Rf S,if_neg (by rw [O];omega)],rfl,Z.sub kr,e.pt 7 [0,1,2,3,4,5,6]⟩
  refine (Jp 4∘aH∘Jj∘aU∘JR∘dx 1∘Jp 1∘aK∘Jq) λa Z e=>?_
  exact ⟨_,om,i+1,fr,R,by omega,by rw [Rf S,if_neg (by rw [O];omega)],rfl,Z.sub kr,e.pt 7 [0,1,2,3,4,5,6]⟩
 have R5:i=cp.toNat:=by omega
 subst R5
 have U:=q1a (cpu:=o.cpu) hld de cp.toNat
 rw [S] at U
 replace U: -1<=fr/\fr<(cp.toNat:Int)/\ -1<=R/\R<=65536000000:=U
 refine (JF∘JX∘JG∘cO 1∘bN 1∘Jn∘Jf 0∘Jg 5 O1∘Jl∘bM 1∘JB) λa Z e=>?_
 refine qg (λmS aS wS=>∃(n:Nat) (s:Int),(n<=abn ts)/\(mV (gH (⟨cp,cr,gA,gc,gs,lA,lc,cl,some ⟨f,0,none⟩,uc,cu,tA,tc,ts,sA,sc,rs⟩:aF).av o n)=s)/\mS=abn ts-n/\Fr aS 136 [] (ahK 50 n 49 p ((48,.slice tA p tc)::(10,vI s)::(27,.bool false)::ahK 26 cp.toNat 25 cp (ahK 7 R 6 fr ((19,.bool false)::ahX g3 A []))))/\Mem W wS (.blk g3 o.cells 214::fM A cp cr gA J gc lA K lc (some ⟨f,0,none⟩) L uc tA p tc sA M sc::aiq gA J gc gs lA K lc cl (some ⟨f,0,none⟩) L uc cu tA p tc ts sA M sc rs (fR rs++(T)))) (m:=abn ts-0) ⟨0,(-1),abA _,rfl,rfl,Z.sub kr,e.pt 7 [0,1,2,3,4,5,6]⟩ ?_
 clear Z e;rintro mS a w_ ⟨n,s,hn,P,rfl,Z,e⟩
 refine Jb Z e ((cO 1∘JQ) (Ji (λR6=>?_) λR6=>?_))
 ·
  repeat (first|clear Z|clear e)
  intro a Z e
  obtain ⟨g,rfl⟩:=e.rat 5 n (hk:=(by omega:n<p))
  obtain ⟨t,ht⟩:∃z,ts[n]?=some z:=⟨_,abq om⟩
  obtain ⟨V,hto⟩:=B.task ht
  have hti:=V.id;have vZ:=V.group;have htc:=V.cpu;have HY:=V.weight;have yZ:=hto.v;have htr:=hto.r;have HZ:=hto.mask
  replace htc:0<=t.cpu/\t.cpu<cp:=htc
  obtain ⟨gt,hgt⟩:∃n:Nat,t.group=(n:Int):=⟨t.group.toNat,by omega⟩
  obtain ⟨ct,hct⟩:∃n:Nat,t.cpu=(n:Int):=⟨t.cpu.toNat,by omega⟩
  obtain ⟨wt,hwt⟩:∃n:Nat,t.weight=(n:Int):=⟨t.weight.toNat,by omega⟩
  have rR:(⟨t.v,t.r,wt⟩:En).Ok:=aaj V.ent hwt yZ
  have hbi:=qlt P
  obtain ⟨bb,hbb⟩:∃n:Nat,s.toNat=n:=⟨_,rfl⟩
  have hmb:=aeS t.mask (2^c)
  have hbw:=λh=>F (ts.getD bb Tk.zero) (qf Tk.zero h)
  refine Jb Z e ((eO∘aJ 1∘nU n 8∘Jy (v:= .agg t.cells) (h:=by exact Pe rfl rfl fE rfl (λ_ h=>h.zV ql (i:=5) rfl (ht)))∘JA aiA) λyB X=>(Jp 1∘JV fE aO (h1:=by exact Gu t)) λGg=>(Jj) λa Z e=>?_)
  refine qz (λaS wS=>Fr aS 136 [] ((13,.bool (t.ready&& (decide (t.cpu=fr)&& (decide ((t.mask/2^c)%2=1)&&decide (cu.getD ct 0≠t.id)))))::(11,vI n)::(12,vP X 0)::(51,.bool true)::ahK 50 n 49 p ((48,vS g p tc)::(10,vI s)::(27,.bool false)::ahK 26 cp.toNat 25 cp (ahK 7 R 6 fr ((19,.bool false)::ahX g3 A []))))/\Mem W wS (.blk X t.cells 232::.blk g3 o.cells 214::fM A cp cr gA J gc lA K lc (some ⟨f,0,none⟩) L uc (some ⟨g,0,none⟩) p tc sA M sc::aiq gA J gc gs lA K lc cl (some ⟨f,0,none⟩) L uc cu (some ⟨g,0,none⟩) p tc ts sA M sc rs (fR rs++(T)))) ?_ ?_
  ·
   refine Jb Z e ((Vs .n []) λyD=>(Vf 0 5∘Vc 1 O0∘Vp [2]) λa Z e l=>?_)
   rcases Z.tf 57 rfl with ⟨u,Z⟩|⟨u,Z⟩
   ·
    refine Vb Z e l ((Vf 3 3∘Vp [5]∘Vc 4 O0∘Vp [6,7,8]) λa Z e l=>?_)
    rcases Z.tf 63 rfl with ⟨Y,Z⟩|⟨Y,Z⟩
    ·
     have G:=eq_of_beq Y
     refine Vb Z e l ((Vf 9 4∘Vf 11 1∘Vc 10 O0∘Vc 12 O1∘Vo (vI c) (by rw [N])∘Vy 13 (v:=vQ (t.mask/2^c:Nat)) (h:=by exact aas (m:=t.mask) (n:=c) rfl rfl rfl (by show _<=64;omega))∘Vp [14]∘Vo (vQ ((t.mask/2^c)%2:Nat)) (by exact Lj (n:=1) (j:=1) rfl de om)∘Vp [15,16,17]) λa Z e l=>?_)
     rcases Z.tf 72 rfl with ⟨CU,Z⟩|⟨CU,Z⟩
     ·
      have R7:=eq_of_beq CU
      refine Vb Z e l ((Vp [18]∘Vf 23 3∘Vf 27 0∘Vn 19∘Vf 20 0∘Vf 21 4∘Vc 22 O2∘Vc 24 O0∘Vo (vI ct) (by rw [hct])∘Vy 25 (h:=by exact Yl.iK f ct 1 rfl rfl rfl)∘Vy 26 (h:=by exact aaf 5 ct 0 om rfl rfl rfl)∘Vc 28 O0∘Vp [29,30,31]∘Vd∘aH) λa Z e=>?_)
      have Z:=Z.sp 13 (.bool (t.ready&& (decide (t.cpu=fr)&& (decide ((t.mask/2^c)%2=1)&&decide (cu.getD ct 0≠t.id))))) rfl (congrArg abM (by rw [u,decide_eq_true G,decide_eq_true om,ab8,ab8,ab8];exact ziu))
      exact ⟨Z.sub kr,e.pt 8 [0,1,2,3,4,5,6,7]⟩
     have R7:=ne_of_beq_false CU
     refine ap Z (λ_=>l) [18,19,20,21,22,23,24,25,26,27,28,29,30,31] (bt 32 []) [(13,.bool false)] λa Z=>?_
     refine qe kr ?_
     have Z:=Z.sp 13 (.bool (t.ready&& (decide (t.cpu=fr)&& (decide ((t.mask/2^c)%2=1)&&decide (cu.getD ct 0≠t.id))))) rfl (congrArg abM (by rw [u,decide_eq_true G,decide_eq_false om];first|done|rfl))
     exact ⟨Z.sub kr,e.pt 8 [0,1,2,3,4,5,6,7]⟩
    have G:=ne_of_beq_false Y
    refine ap Z (λ_=>l) [9,10,11,12,13,14,15,16,17,18,19,20,21,22,23,24,25,26,27,28,29,30,31] (bt 32 []) [(13,.bool false)] λa Z=>?_
    refine qe kr ?_
    have Z:=Z.sp 13 (.bool (t.ready&& (decide (t.cpu=fr)&& (decide ((t.mask/2^c)%2=1)&&decide (cu.getD ct 0≠t.id))))) rfl (congrArg abM (by rw [u,decide_eq_false G];first|done|rfl))
    exact ⟨Z.sub kr,e.pt 8 [0,1,2,3,4,5,6,7]⟩
   refine ap Z (λ_=>l) [3,4,5,6,7,8,9,10,11,12,13,14,15,16,17,18,19,20,21,22,23,24,25,26,27,28,29,30,31] (bt 32 []) [(13,.bool false)] λa Z=>?_
   refine qe kr ?_
   have Z:=Z.sp 13 (.bool (t.ready&& (decide (t.cpu=fr)&& (decide ((t.mask/2^c)%2=1)&&decide (cu.getD ct 0≠t.id))))) rfl (congrArg abM (by rw [u];try rfl))
   exact ⟨Z.sub kr,e.pt 8 [0,1,2,3,4,5,6,7]⟩
  clear Z e;rintro a BJ ⟨Z,e⟩
  obtain ⟨ma,hma⟩:∃b,(t.ready&& (decide (t.cpu=fr)&& (decide ((t.mask/2^c)%2=1)&&decide (cu.getD ct 0≠t.id))))=b:=⟨_,rfl⟩
  replace Z:=Z.sp 13 (.bool ma) rfl (by rw [hma])
  have htk:=zc1 (x:=(⟨cp,cr,gA,gc,gs,lA,lc,cl,some ⟨f,0,none⟩,uc,cu,some ⟨g,0,none⟩,tc,ts,sA,sc,rs⟩:aF)) (be:=s) N S Q hct hbb hma
  refine qz (λaS wS=>Fr aS 136 [] ((116,.bool (yU (⟨cp,cr,gA,gc,gs,lA,lc,cl,some ⟨f,0,none⟩,uc,cu,some ⟨g,0,none⟩,tc,ts,sA,sc,rs⟩:aF).av o s t))::(13,.bool ma)::(11,vI n)::(12,vP X 0)::(51,.bool true)::ahK 50 n 49 p ((48,vS g p tc)::(10,vI s)::(27,.bool false)::ahK 26 cp.toNat 25 cp (ahK 7 R 6 fr ((19,.bool false)::ahX g3 A []))))/\Mem W wS (.blk X t.cells 232::.blk g3 o.cells 214::fM A cp cr gA J gc lA K lc (some ⟨f,0,none⟩) L uc (some ⟨g,0,none⟩) p tc sA M sc::aiq gA J gc gs lA K lc cl (some ⟨f,0,none⟩) L uc cu (some ⟨g,0,none⟩) p tc ts sA M sc rs (fR rs++(T)))) ?_ ?_
  ·
   refine Jb Z e ((Vs .n []) λG6=>(Vp [0,1]) λa Z e l=>?_)
   rcases Z.tf 87 rfl with ⟨H,Z⟩|⟨H,Z⟩
   ·
    refine Vb Z e l ((Vf 2 2∘Vp [5,6]∘Vf 7 1∘Vc 3 O0∘Vp [4]∘Vo (vI (2*t.weight)) (by exact mF ⟨by omega,by omega⟩)∘Vc 8 O1∘Vo (vI c) (by rw [N])∘VI 9 .n (h:=by exact λe=>qso 2 e rfl B Q)) λw95 hbw=>(Vp [10]∘Vo (vI (R-lc_)) (by exact mF ⟨by omega,by omega⟩)∘Vp [11,12,13]) λa Z e l=>?_)
    rcases Z.tf 99 rfl with ⟨CV,Z⟩|⟨CV,Z⟩
    ·
     have I:=of_decide_eq_true CV
     refine Vb Z e l ((Vp [14,15,16]) λa Z e l=>?_)
     rcases Z.tf 102 rfl with ⟨C,Z⟩|⟨C,Z⟩
     ·
      have D:=of_decide_eq_true C
      refine Vb Z e l ((Vq [17,18,19,20,21,22,23,24,25,26,27,28,29,30] [(116,.bool true)]∘Vd∘aH) λa Z e=>?_)
      have Z:=Z.sp 116 (.bool (yU (⟨cp,cr,gA,gc,gs,lA,lc,cl,some ⟨f,0,none⟩,uc,cu,some ⟨g,0,none⟩,tc,ts,sA,sc,rs⟩:aF).av o s t)) rfl (congrArg abM (by rw [htk,H,decide_eq_true I,decide_eq_true D];rfl))
      exact ⟨Z.sub kr,e.pt 8 [0,1,2,3,4,5,6,7]⟩
     have D:=of_decide_eq_false C
     refine ap Z (λ_=>l) [17,19] (bt 31 [18,20,21,22,23,24,25,26,27,28,29,30]) [(105,vP A 0),(103,vP X 2)] λa Z=>?_
     refine dD Z l 18 0 (v:=vI t.weight) λa Z=>?_
     refine oz Z l 20 λa Z=>?_
     refine ap Z (λ_=>l) [21,22] (bt 31 [23,24,25,26,27,28,29,30]) [(108,vP A 5)] λa Z=>?_
     refine dD Z l 23 2 λa Z=>?_
     refine pE Z (λ_=>l) (i:=24) rfl rfl (d:=110) rfl de kr (λ_ _ _ h=>h) (v:=vI s) (λ_=>Yl.pure kr) λa Z=>?_
     replace Z:=Z.sp 110 (vI bb) rfl (by rw [show s=(bb:Int) by omega])
     refine gX Z l 25 rfl (v:=vP g (bb*8)) (Yl.iK g bb 8 rfl rfl rfl) λa Z=>?_
     refine ap Z (λ_=>l) [26] (bt 31 [27,28,29,30]) [(112,vP g (bb*8+2))] λa Z=>?_
     refine gX Z l 27 rfl (v:=vI ((ts.getD bb Tk.zero).weight)) (Pd rfl rfl kr (λ_ h=>h.qu ql (i:=6) rfl (k:=bb) (off:=2) (x:=(ts.getD bb Tk.zero)) ((getD_at Tk.zero om)) rfl)) λa Z=>?_
     refine ap Z (λ_=>l) [28,29,30] (bt 31 []) [(116,.bool (decide ((t.weight:Int)>((ts.getD bb Tk.zero).weight:Int))))] λa Z=>?_
     refine qe kr ?_
     have Z:=Z.sp 116 (.bool (yU (⟨cp,cr,gA,gc,gs,lA,lc,cl,some ⟨f,0,none⟩,uc,cu,some ⟨g,0,none⟩,tc,ts,sA,sc,rs⟩:aF).av o s t)) rfl (congrArg abM (by rw [htk,H,decide_eq_true I,decide_eq_false D];rfl))
     exact ⟨Z.sub kr,e.pt 8 [0,1,2,3,4,5,6,7]⟩
    have I:=of_decide_eq_false CV
    refine ap Z (λ_=>l) [14,15,16,17,18,19,20,21,22,23,24,25,26,27,28,29,30] (bt 31 []) [(116,.bool false)] λa Z=>?_
    refine qe kr ?_
    have Z:=Z.sp 116 (.bool (yU (⟨cp,cr,gA,gc,gs,lA,lc,cl,some ⟨f,0,none⟩,uc,cu,some ⟨g,0,none⟩,tc,ts,sA,sc,rs⟩:aF).av o s t)) rfl (congrArg abM (by rw [htk,decide_eq_false I,Bool.and_false];rfl))
    exact ⟨Z.sub kr,e.pt 8 [0,1,2,3,4,5,6,7]⟩
   refine ap Z (λ_=>l) [2,3,4,5,6,7,8,9,10,11,12,13,14,15,16,17,18,19,20,21,22,23,24,25,26,27,28,29,30] (bt 31 []) [(116,.bool false)] λa Z=>?_
   refine qe kr ?_
   have Z:=Z.sp 116 (.bool (yU (⟨cp,cr,gA,gc,gs,lA,lc,cl,some ⟨f,0,none⟩,uc,cu,some ⟨g,0,none⟩,tc,ts,sA,sc,rs⟩:aF).av o s t)) rfl (congrArg abM (by rw [htk,H];rfl))
   exact ⟨Z.sub kr,e.pt 8 [0,1,2,3,4,5,6,7]⟩
  clear Z e;rintro a w16 ⟨Z,e⟩
  refine Jb Z e (Ju (λE=>?_) λE=>?_)
  ·
   refine (JT∘JR∘Jp 2∘aK∘Jj∘JR∘dx 1∘Jp 1∘aK∘Jq) λa Z e=>?_
   exact ⟨_,om,n+1,(n:Int),by omega,by rw [qsa P,show (aF.av (⟨cp,cr,gA,gc,gs,lA,lc,cl,some ⟨f,0,none⟩,uc,cu,some ⟨g,0,none⟩,tc,ts,sA,sc,rs⟩:aF)).ts.getD n Tk.zero=t from uz Tk.zero ht,if_pos E],rfl,Z.sub kr,e.pt 8 [1,2,3,4,5,6,7]⟩
  refine (aU∘JR∘dx 1∘Jp 1∘aK∘Jq) λa Z e=>?_
  exact ⟨_,om,n+1,s,by omega,by rw [qsa P,show (aF.av (⟨cp,cr,gA,gc,gs,lA,lc,cl,some ⟨f,0,none⟩,uc,cu,some ⟨g,0,none⟩,tc,ts,sA,sc,rs⟩:aF)).ts.getD n Tk.zero=t from uz Tk.zero ht,if_neg (yT E)],rfl,Z.sub kr,e.pt 8 [1,2,3,4,5,6,7]⟩
 have hnl:n=abn ts:=by omega
 subst hnl
 have hbi:=qlt P
 refine (JF∘JX∘JG∘bN 2∘aK∘Jj) (Ji (λIg=>?_) λIg=>?_)
 ·
  exact (JT∘bF 2∘bO) λe=>by exact qt (y:=(⟨cp,cr,gA,gc,gs,lA,lc,cl,some ⟨f,0,none⟩,uc,cu,tA,tc,ts,sA,sc,rs⟩:aF)) 1 e rfl Ie (qsb (x:=(⟨cp,cr,gA,gc,gs,lA,lc,cl,some ⟨f,0,none⟩,uc,cu,tA,tc,ts,sA,sc,rs⟩:aF)) (decide_eq_true q) (by rw [P];omega))
 obtain ⟨k,hk⟩:∃n:Nat,s=(n:Int):=⟨s.toNat,by omega⟩
 subst hk
 repeat (first|clear Z|clear e)
 intro a Z e
 obtain ⟨g,rfl⟩:=e.rat 5 k (hk:=(by omega:k<p))
 obtain ⟨t2,ht2⟩:∃z,ts[k]?=some z:=⟨_,abq om⟩
 refine Jb Z e ((aU∘aJ 1∘Jn∘Jf 0∘Jg 5 O1∘Jp 1∘nU k 8∘Jf 0∘Jy (v:=vI t2.id) (h:=by exact Pd rfl rfl kr (λ_ h=>(by have:=h.qu ql (i:=5) rfl (k:=k) (off:=0) (x:=t2) (ht2) rfl;simpa using this)))∘Jp 1∘aH∘bA 2∘Jf 1∘Jc O0∘Jo (vI c) (by rw [N])∘JL (h:=by exact λe=>q62 1 e rfl B ht2 rE)) ?_)
 rintro e _ CW ⟨y,rfl,hys,xJ⟩
 refine ⟨_,rfl,_,(show Mem W CW (.blk g3 o.cells 214::(mU A y++(T))) from xJ),?_⟩
 exact (qI∘bA 3∘aP∘bO) λe=>by exact zfm 1 e rfl ((qsc (x:=(⟨cp,cr,gA,gc,gs,lA,lc,cl,some ⟨f,0,none⟩,uc,cu,some ⟨g,0,none⟩,tc,ts,sA,sc,rs⟩:aF)) (decide_eq_true q) P ht2).trans (by rw [hys,N]))
def qx6 (W:World) (n:Nat) (l:List Tk) (a:Nat) (t:Tk) (fs:List Fact) (r:Ending) (b:World):Prop:=∃(A:Option Addr) (c:Nat),r= .returned (.slice A (n+1) c)/\n+1<=c/\Mem W b (fT A (n+1) c l:: .blk a t.cells 232::fs)
def R8 {l:List Tk} {r:Ending} (hr:r= .returned (.slice A (n+1) c)) (a:Mem W w (fT A (n+1) c l:: .blk m t.cells 232::fs)):qx6 W n l m t fs r w:=by
 obtain ⟨f,g,b,d⟩:=Br (a.own (i:=0) rfl)
 injection b with h j e
 subst e
 exact ⟨A,c,hr,d,a⟩
def q63 (f:Mem W w fs) {i j n g off b d m c:Nat} {C:Array Value} {xs:List Value} {t:TypeId} (h:fs[i]?=some (.blk n C t)) (hi:fs[j]?=some (.row (.slice (some ⟨g,0,none⟩) m c) m xs 232 8)) (a:i≠j) (hm:0<c) {ln lc:Nat}:
  (callFunc 262 [afp (some ⟨n,0,none⟩) ln lc,.slice (some ⟨g,off,none⟩) b d].toArray).run abo w= .ok (.value (.bool false)) w:=by
 rw [run_callFunc_extern Tryz.func262 kr kr kr (e:=adU #[45,45] #[4]) kr]
 show ((adU #[45,45] #[4] #[.slice (some ⟨n,0,none⟩) ln lc,.slice (some ⟨g,off,none⟩) b d]).run abo w).andThen _=_
 rw [qrt f dA h hi a hm ln lc]
 rfl
def add0 {g k:Nat}:(some (⟨g,0,none⟩:Addr)).map (·.add k)=some ⟨g,k,none⟩:=by rw [Option.map_some,acC,ab7]
def q64 (l:List Tk) (i:Nat):(l.flatMap bS).take (i*8)=(l.take i).flatMap bS:=by
 rcases ab5 (abn l) i with h|h
 ·rw [abI (by rw [nD];omega),abI om]
 ·have a:abn ((l.take i).flatMap bS)=i*8:=by rw [nD,abv];omega
  conv=>lhs;rw [<-ab1 i l,abX,<-a]
  exact adJ
def zmg (h:Mem W w fs) {j g n c i:Nat} {l:List Tk} (hi:fs[j]?=some (.row (.slice (some ⟨g,0,none⟩) n c) n (l.flatMap bS) 232 8)) (h1:i<abn l) (f:abn l<=c):
  ∃b,(if c=i+1 then some (⟨g,0,none⟩:Addr) else (some (⟨g,0,none⟩:Addr)).map (·.add ((i+1)*8)))=some b/\∀k v,((l.drop (i+1)).flatMap bS)[k]?=some v->w.cell? (b.add k)=some v:=by
 by_cases e:c=i+1
 ·rw [if_pos e]
  refine ⟨_,rfl,λk v d=>?_⟩
  rw [ab9 om] at d
  cases d
 ·rw [if_neg e]
  refine ⟨⟨g,(i+1)*8,none⟩,by simp [Addr.add],?_⟩
  exact h.mJ (a:=i+1) (ys:=[]) (by rw [abP];exact hi) ⟨abn l,abI (by rw [abC];omega)⟩ om
def ziv {xs ys B:List Value} (h:xs.length=k) {j:Nat} (a:k=j:=by rfl):(putAt (xs++ys) k B).take j=xs:=by
 subst a;subst h
 rw [Mj,abu]
 exact adJ
def q65 (z t:Tk) (g:Nat) (w:World) (a:w.heap[g]?=some (.cells t.cells 232 (0,0))):
    Calls abo 204 #[.agg z.cells,vP g 0] w (Is w (.bool (decide (z.id>t.id)))):=by
 refine (jf Tryz.func204 9) ?_
 exact (JP∘JE) λb c=>(Jp 1∘Jr∘Jg 0 O0∘Jf 0∘Jy (v:=vI t.id) (h:=by exact Pd rfl rfl kr (λ_ h=>h.mG a rfl))∘Jp 2∘gq∘aP) uj
def q1s (A:Option Addr) (c:Nat) (l:List Tk) (t:Tk) (g:Nat) (w:World) (hr:Rd w w.heap.size 8 A (abn l) (l.flatMap bS)) (v:abn l<=1000000) (q:w.heap[g]?=some (.cells t.cells 232 (0,0))):
    Calls abo 203 #[abk A l c,.func (.func 204) #[] #[vP g 0]] w (rZ w l t.id):=by
 refine (jf Tryz.func203 19) ?_
 refine (cO 1∘bN 1∘Jl∘bM 1∘JB) λa Z b=>?_
 refine qg (λp r s=>∃(k:Nat),(k<=abn l)/\(∀j,j<k->(l.getD j Tk.zero).id<=t.id)/\p=abn l-k/\Fr r 19 [] (ahK 8 k 7 (abn l) [(4,vI 0),(0,abk A l c),(1,.func (.func 204) #[] #[vP g 0])])/\Mem w s []) (m:=abn l-0) ⟨0,abA _,λj h=>by omega,rfl,Z.sub kr,b.pk []⟩ ?_
 clear Z b;rintro p a x ⟨k,y,e,rfl,Z,b⟩
 refine Jb Z b ((cO 1∘JQ) (Ji (λi=>?_) λi=>?_))
 ·
  have n:k<abn l:=by omega
  refine (eO∘aJ 2∘aK∘bA 3) ?_
  obtain ⟨gA,z,rfl,_⟩:=hr.sat k
  refine (iC k 8∘pG Tk.cells ql hr fE k Tk.zero) λa Z b=>?_
  refine fo Z 5 rfl rfl ?_
  refine zg Z (f:=204) (vs:=[.agg ((l.getD k Tk.zero).cells)]) (fst:=[]) (caps:=[vP g 0]) rfl rfl rfl kr rfl de (q65 (l.getD k Tk.zero) t g _ (b.lu q)) ?_
  rintro _ u ⟨rfl,o⟩
  refine ⟨_,rfl,?_⟩
  replace b:=b.call o
  clear Z;intro a Z
  refine Jb Z b ((kW∘Jj) (Ji (λd=>?_) λd=>?_))
  ·
   exact (JT∘aJ 2∘aK∘aP∘bC) λb=>q1b n e om b.below
  refine (aU∘JR∘dx 1∘Jp 1∘aK∘Jq) λa Z b=>?_
  exact ⟨_,om,k+1,by omega,q1d e om,rfl,Z.sub kr,b.pk []⟩
 exact (JF∘JX∘JG∘bF 1∘bC) λb=>q1c (λj B=>e j om) b.below
def qsp (W w:World) (A:Option Addr) (n c i:Nat) (l:List Tk) (t:Tk) (y:Nat) (fs:List Fact) (F:abn l=n) (G:n<=1000000) (hi:i<=n) (H:n<=c) (b:Mem W w (fT A n c l:: .blk y t.cells 232::fs)):
    Calls abo 205 #[.slice A n c,vI i,.slice (some ⟨y,0,none⟩) 1 1] w (qx6 W n (iW l i t) y t fs):=by
 refine (yR b Tryz.func205 95) ?_
 refine (aJ 1∘bA 2∘Jy (h:=by exact aae dA (j:=i) rfl rfl rfl om)∘nT∘bA 1∘Jl∘Jp 1∘bQ∘Jj∘JQ∘JP∘Jv 2 [(16,.bool false)]∘Jj∘aU∘aJ 1∘Jl∘Jp 1∘bQ∘Jj∘bN 3∘bQ∘Jj) (Je (λs=>?_) λs=>?_)
 ·
  refine (JT∘aJ 2∘JD (bS t) 0 (λ_ _=>aO) dA (hr:=by exact λb=>b.bB (i:=1) (n:=1) (size:=8) rfl rfl) (h1:=by exact Rh t)) λI J K z=>(JC (h:=by exact λb=>b.dw (i:=0) (ys:=((l++[t]).flatMap bS)) rfl (q6l l t))∘Jp 1∘dY∘aP) λa Z b=>?_
  have o:=b.pt 2 [0,1]
  exact lN rfl Z rfl (R8 rfl (o.dw (i:=0) rfl (by rw [zci (l:=l) (t:=t) (i:=i) om])))
 refine (aU∘bN 2∘dx 1∘Jp 1∘Jy (h:=by exact Yl.cap rfl rfl kr)∘Jp 1∘kW∘Jj) (Ji (λu=>?_) λu=>?_)
 ·
  repeat (first|clear Z|clear b)
  intro a Z b
  obtain ⟨gA,rfl⟩:=b.rat 0 i (hk:=(by omega:i<n))
  refine Jb Z b ((JT∘aJ 2∘Jy (h:=by exact aag dA (j:=i) rfl rfl rfl om)∘Jp 2∘dx 1∘Jp 1∘Js) λa Z b=>?_)
  refine fo Z 8 rfl rfl ?_
  refine qmn Z b (kn:= .i64) (xs:=(l.take i).flatMap bS) (m:=n+1-i) rfl dA kr rfl rfl ⟨by rw [nD,abv];omega,b.mJ (j:=0) (a:=0) (l:=l) (ys:=[]) (by rw [abP];rfl) ⟨i,rfl⟩ (abA _)⟩ om om om om rfl de ?_
  clear Z;intro a L e g Z p B
  replace b:=p
  have d:i+(n+1-i)=n+1:=om
  replace b:=b.aY (i:=0) (ys:=((l.take i).flatMap bS++zT (n+1-i))) rfl d (rfl)
  replace Z:=Z.sp 40 (vS e (n+1) g) rfl (iB d)
  refine Jb Z b ((Jp 1∘aH∘bA 2∘Jy (v:= .slice (if g=i then some ⟨e,0,none⟩ else (some ⟨e,0,none⟩:Option Addr).map (·.add (i*8))) ((n+1)-i) (g-i)) (h:=by exact aae dA (j:=i) rfl rfl rfl om)∘Jo (.slice (some ⟨e,i*8,none⟩) (n+1-i) (g-i)) (by rw [if_neg om,add0])∘Jp 1) λa Z b=>?_)
  refine fo Z 4 rfl rfl ?_
  refine Mi Z b (i:=0) (bS t) rfl dA rfl rfl rfl (by rw [ql,show afY 1 (n+1-i)=1 from ac4 om]) (λk v q=>by rw [acC,ab7];exact b.cell (i:=2) rfl (by rw [<-aez];exact q)) (Rh t) (by rw [ql];simp only [abp,nD,MU,abv];omega) rfl de ?_
  clear Z b;intro a M Z b
  refine Jb Z b ((qI∘Jj) λa Z b=>?_)
  refine wp_seq ?_
  refine Jb Z b ((Vs (.f .n) []) λC=>(Vp [0,1,2,5,6]∘yx 3 1∘Vy 4 (v:= .slice (if g=(i+1) then some ⟨e,0,none⟩ else (some ⟨e,0,none⟩:Option Addr).map (·.add ((i+1)*8))) ((n+1)- (i+1)) (g- (i+1))) (h:=by exact aae dA (j:=(i+1)) rfl rfl rfl om)∘Vo (.slice (some ⟨e,(i+1)*8,none⟩) (n+1- (i+1)) (g- (i+1))) (by rw [if_neg om,add0])∘Vy 7 (v:= .slice (if c=i then some ⟨gA,0,none⟩ else (some ⟨gA,0,none⟩:Option Addr).map (·.add (i*8))) (n-i) (c-i)) (h:=by exact aae dA (j:=i) rfl rfl rfl om)∘Vo (.slice (some ⟨gA,i*8,none⟩) (n-i) (c-i)) (by rw [if_neg om,add0])) λa Z b x=>?_)
  refine s_on Z 8 rfl ?_
  refine Mi Z b (i:=0) ((l.drop i).flatMap bS) rfl dA rfl rfl rfl (by rw [nD,abC,show afY (n-i) (n+1- (i+1))=n-i from ac4 om];omega) (b.mJ (j:=1) (a:=i) (ys:=[]) (by rw [abP];rfl) ⟨abn l,abI (by rw [abC];omega)⟩ om) (λv q=>Hf _ v q) (by rw [Le (by rw [ql];simp only [abp,nD,MU,abv];omega),nD,abC];simp only [abp,nD,MU,abv];omega) rfl de ?_
  clear Z b;intro a N Z b
  refine ay (b.pt 3 [1,2]) (λx=>?_)
  refine Vb Z b x ((Vd∘iQ∘aJ 2∘gq∘aP) λa Z b=>?_)
  have o:=b.pt 3 [0,2]
  exact lN rfl Z rfl (R8 rfl (o.dw (i:=0) rfl (by rw [<-F];exact zcj om)))
 repeat (first|clear Z|clear b)
 intro a Z b
 obtain ⟨gA,rfl⟩:=b.rat 0 i (hk:=(by omega:i<n))
 refine Jb Z b ((aU∘aJ 3∘dx 1∘Jy (h:=by exact aag dA (j:=n+1) rfl rfl rfl om)∘Jp 1∘kW∘Jq) λa Z b=>?_)
 obtain ⟨D,r,p⟩:=b.oF (i:=0) (m':=n+1) rfl om om
 replace b:=p;clear p
 replace r:abn D=8:=by rw [r];omega
 refine Jb Z b ((JG∘bN 4∘dx 1∘Jy (v:= .slice (if c=(i+1) then some ⟨gA,0,none⟩ else (some ⟨gA,0,none⟩:Option Addr).map (·.add ((i+1)*8))) ((n+1)- (i+1)) (c- (i+1))) (h:=by exact aae dA (j:=(i+1)) rfl rfl rfl om)∘Jo (.slice (some ⟨gA,(i+1)*8,none⟩) (n+1- (i+1)) (c- (i+1))) (by rw [if_neg om,add0])) λa Z b=>?_)
 refine fo Z 6 rfl rfl ?_
 refine zbs Z b rfl rfl (q63 b (i:=1) (j:=0) rfl rfl de om) rfl de ?_
 clear Z;intro a Z
 refine Jb Z b ((Jp 1∘aH∘Jj∘JT) λa Z b=>?_)
 refine wp_seq ?_
 refine Jb Z b ((Vs (.f .n) []) λE=>(Vp [0,1,2,5,6]∘yx 3 1∘Vy 4 (v:= .slice (if c=(i+1) then some ⟨gA,0,none⟩ else (some ⟨gA,0,none⟩:Option Addr).map (·.add ((i+1)*8))) ((n+1)- (i+1)) (c- (i+1))) (h:=by exact aae dA (j:=(i+1)) rfl rfl rfl om)∘Vo (.slice (some ⟨gA,(i+1)*8,none⟩) (n+1- (i+1)) (c- (i+1))) (by rw [if_neg om,add0])∘Vy 7 (v:= .slice (if c=i then some ⟨gA,0,none⟩ else (some ⟨gA,0,none⟩:Option Addr).map (·.add (i*8))) ((n+1)-i) (c-i)) (h:=by exact aae dA (j:=i) rfl rfl rfl om)∘Vo (.slice (some ⟨gA,i*8,none⟩) (n+1-i) (c-i)) (by rw [if_neg om,add0])) λa Z b x=>?_)
 refine s_on Z 8 rfl ?_
 refine Mi Z b (i:=0) ((l.drop i).flatMap bS) rfl dA rfl rfl rfl (by rw [nD,abC,show afY (n+1-i) (n+1- (i+1))=n+1- (i+1) from agM om];omega) (b.mJ (j:=0) (a:=i) (ys:=D) rfl ⟨abn l,abI (by rw [abC];omega)⟩ om) (λv q=>Hf _ v q) (by rw [nD,abC,abp,nD];omega) rfl de ?_
 clear Z b;intro a O Z b
 refine ay (b.pt 2 [1]) (λx=>?_)
 refine Vb Z b x ((Vd∘iQ∘aJ 2∘Jy (v:= .slice (if c=i then some ⟨gA,0,none⟩ else (some ⟨gA,0,none⟩:Option Addr).map (·.add (i*8))) ((n+1)-i) (c-i)) (h:=by exact aae dA (j:=i) rfl rfl rfl om)∘Jo (.slice (some ⟨gA,i*8,none⟩) (n+1-i) (c-i)) (by rw [if_neg om,add0])∘Jp 1) λa Z b=>?_)
 refine fo Z 4 rfl rfl ?_
 refine Mi Z b (i:=0) (bS t) rfl dA rfl rfl rfl (by rw [ql,show afY 1 (n+1-i)=1 from ac4 om]) (λk v q=>by rw [acC,ab7];exact b.cell (i:=1) rfl (by rw [<-aez];exact q)) (Rh t) (by rw [ql,Le (by rw [nD,abC,abp,nD];omega),abp,nD];omega) rfl de ?_
 clear Z b;intro a P Z b
 refine Jb Z b ((iQ∘bA 2∘dY∘aP) λa Z b=>?_)
 have o:=b.pt 2 [0,1]
 exact lN rfl Z rfl (R8 rfl (o.dw (i:=0) rfl (q6m om r)))
def qsq (W w:World) (g n c i:Nat) (l:List Tk) (fs:List Fact) (D:abn l=n) (u:n<=1000000) (hi:i<n) (x:n<=c) (d:Mem W w (fT (some ⟨g,0,none⟩) n c l::fs)):
    Calls abo 209 #[.slice (some ⟨g,0,none⟩) n c,vI i,vI ((i+1:Nat):Int)] w (λr y=>r= .returned (.slice (some ⟨g,0,none⟩) (n-1) c)/\Mem W y (fT (some ⟨g,0,none⟩) (n-1) c (l.eraseIdx i)::fs)):=by
 refine (yR d Tryz.func209 33) ?_
 refine (aJ 1∘bA 4∘Jl∘Jy (v:= .slice (if n=i then some ⟨g,0,none⟩ else (some ⟨g,0,none⟩:Option Addr).map (·.add (i*8))) ((i+1)-i) (n-i)) (h:=by exact abb dA (i:=i) (j:=i+1) (q:=n) rfl rfl rfl rfl rfl om om om)∘iQ∘Jj∘bN 3∘bQ∘Jj) (Je (λe=>?_) λe=>?_)
 ·
  intro a Z d
  exact absurd e om
 refine (aU∘aJ 1∘Jl∘Jp 1∘bQ∘Jj) λa Z d=>?_
 refine wp_seq ?_
 refine Jb Z d ((Vs (.f .n) []) λz=>(Vp [0,1,3,4]∘Vy 2 (h:=by exact aag dA (j:=i) rfl rfl rfl om)∘Vy 5 (h:=by exact aae dA (j:=(i+1)) rfl rfl rfl om)) λa Z d s=>?_)
 refine s_on Z 6 rfl ?_
 obtain ⟨A,o,k⟩:=zmg d (j:=0) (i:=i) rfl (by omega:i<abn l) (by omega:abn l<=c)
 replace Z:=Z.sp 25 (.slice (some A) (n- (i+1)) (c- (i+1))) rfl (by rw [o])
 replace d:=d.Gt (i:=0) (m':=i) (ys:=(l.take i).flatMap bS) rfl om (q64 l i)
 refine qup Z d (i:=0) (news:=(l.drop (i+1)).flatMap bS) rfl dA rfl rfl rfl (by rw [nD,abC];omega) k om (λv B=>Hf _ v B) rfl de ?_
 clear Z d;intro a C Z d
 refine ay (d.pt 1 []) (λs=>?_)
 refine Vb Z d s ((Vp [7]∘Vd∘aH) ?_)
 have b:i+(n- (i+1))=n-1:=om
 intro a Z d
 replace d:=d.aY (i:=0) (ys:=(l.eraseIdx i).flatMap bS) rfl b (zck om)
 replace Z:=Z.sp 0 (vS g (n-1) c) rfl (iB b)
 refine Jb Z d ((aJ 2∘Jl∘Jp 1∘Jy (v:= .slice (if c=n-1 then some ⟨g,0,none⟩ else (some ⟨g,0,none⟩:Option Addr).map (·.add ((n-1)*8))) (n- (n-1)) (c- (n-1))) (h:=by exact aal dA (i:=n-1) (j:=n) rfl rfl rfl rfl om om)∘Jo (.slice (some ⟨g,(n-1)*8,none⟩) (n- (n-1)) (c- (n-1))) (by rw [if_neg om,add0])) λa Z d=>?_)
 refine fo Z 5 rfl rfl ?_
 obtain ⟨E,p,m⟩:=d.oF (i:=0) (m':=n) rfl om om
 replace d:=m;clear m
 refine zht Z d (i:=0) rfl dA rfl rfl om (zme _) (by rw [abp,p,nD,aeG,if_pos om];omega) rfl λt d=>?_
 replace d:=d.Gt (i:=0) (m':=n-1) (ys:=(l.eraseIdx i).flatMap bS) rfl om (ziv (by rw [nD,aeG,if_pos om];omega))
 refine Jb Z d ((qI∘bA 2∘aK∘aP) λa Z d=>?_)
 exact lN rfl Z rfl ⟨rfl,d⟩
def q66 {g n c i:Nat} {l:List Tk} {L:List Fact} (O:lQ (fT (some ⟨g,0,none⟩) n c l) (fT (some ⟨g,0,none⟩) (n-1) c (l.eraseIdx i)) F L) (e:Mem W w F) (f:abn l=n) (a:n<=1000000) (hi:i<n):
  Calls abo 209 #[.slice (some ⟨g,0,none⟩) n c,vI i,vI ((i+1:Nat):Int)] w (λr b=>r= .returned (.slice (some ⟨g,0,none⟩) (n-1) c)/\Mem W b L):=by
 obtain ⟨p,q,rfl,rfl⟩:=O.split
 have d:=e.perm ac6
 obtain ⟨o,s,j,k⟩:=Br (d.own (i:=0) rfl)
 injection j with _ _ m
 subst m
 exact (qsq W w g n c i l (p++q) f a hi k d).mono λr b h=>⟨h.1,h.2.perm List.perm_middle.symm⟩
theorem At.mem {α:Type} {a:α} {l:List α} (h:At l a):a∈l:=by
 induction h with
 |z=>exact acB ..
 |s _ b=>exact acd _ b
def qsr {n c i m:Nat} {l:List Tk} {k:Option Addr->Nat->List Fact} (t:Tk) (j:Nat) (O:∀e d,lQ (fT A n c l) (fT e (n+1) d (iW l i t)) F (k e d)) (V:At F (.blk m t.cells 232)) (G:Mem W w F) (H:l.length=n) (o:n<=1000000) (hi:i<=n) (y:F[j]?=some (fT A n c l):=by exact rfl) (I:(λe d=>F.set j (fT e (n+1) d (iW l i t)))=k:=by kernel_rfl):
  Calls abo 205 #[.slice A n c,vI i,.slice (some ⟨m,0,none⟩) 1 1] w (λr z=>∃e d,r= .returned (.slice e (n+1) d)/\n+1<=d/\Mem W z (k e d)):=by
 have f:=(abB.1 y).1
 obtain ⟨p,q,B,g⟩:∃p q,F=p++fT A n c l::q/\∀b,F.set j b=p++b::q:=⟨F.take j,F.drop (j+1),by rw [<-(abB.1 y).2,<-ace f,ab1],λb=>by rw [List.set_eq_take_append_cons_drop,if_pos f]⟩
 have v:=(B▸G).perm (ac6 (l₁:=p) (a:=fT A n c l) (l₂:=q))
 obtain ⟨e,d,J,K⟩:=Br (v.own (i:=0) rfl)
 injection J with _ _ L
 subst L
 have C:=V.mem
 rw [B] at C
 have x:ag0 m t.cells 232∈p++q:=by
  rcases ab6.1 C with h|h
  ·exact adh _ h
  ·rcases abS.1 h with h|h
   ·cases h
   ·exact acW _ h
 obtain ⟨s,u,hs⟩:=List.append_of_mem x
 rw [hs] at v
 have M:=v.perm (af7 _ (ac6 (l₁:=s) (a:=ag0 m t.cells 232) (l₂:=u)))
 refine (qsp W w A n c i l t m (s++u) H o hi K M).mono λr z ⟨e,d,e1,e2,e3⟩=>⟨e,d,e1,e2,?_⟩
 have D:=e3.perm (af7 _ (ac6 (l₁:=s) (a:=ag0 m t.cells 232) (l₂:=u)).symm)
 rw [<-hs] at D
 have E:=D.perm (ac6 (l₁:=p) (l₂:=q)).symm
 rw [<-g] at E
 have N:=congrFun (congrFun I e) d
 rw [<-N]
 exact E
def ziw {L:List Fact} (t t1:Tk) (x:En) (h1:t.put x=t1) (O:lQ (.blk g t.cells 232) (.blk g t1.cells 232) F L) (a:Mem W w F) (b:x.Ok):
  Calls abo 202 #[vP g 0,.agg x.cells] w (λr c=>r= .returned (.tuple #[])/\Mem W c L):=by
 subst h1
 exact zii t x O a b
def q67 {c n g:Nat} {l:List Tk} (a:abn l=n) (hr:Rd w w.heap.size 8 A n (l.flatMap bS)) (b:abn l<=1000000) (d:w.heap[g]?=some (.cells t.cells 232 (0,0))):Calls abo 203 #[.slice A n c,.func (.func 204) #[] #[vP g 0]] w (rZ w l t.id):=by
 subst a
 exact q1s A c l t g w hr b d
def M8 {c m n b a yT Ih:Nat} {Ii:Option Addr} {ts':List Tk} (h:rX x c m n b a) (ht:abn ts'=yT):rX {x with tA:=Ii,tc:=Ih,ts:=ts'} c m n yT a:=⟨h.g,h.l,h.u,ht,h.s⟩
def M9 {cp:Int} (hc:cp=(c:Int)) (h:1<=o.weight/\o.weight<=65536/\o.mask≠0/\¬2^c<=o.mask):¬(l9 o.weight=false\/o.mask=0\/xL o.mask cp=true):=by
 subst hc
 rintro (a|a|a)
 ·exact of_decide_eq_false a ⟨h.1,h.2.1⟩
 ·exact h.2.2.1 a
 ·exact h.2.2.2 (of_decide_eq_true a)
def zc2 {cp:Int} (hc:cp=(c:Int)) (h:¬(1<=o.weight/\o.weight<=65536/\o.mask≠0/\¬2^c<=o.mask)):l9 o.weight=false\/o.mask=0\/xL o.mask cp=true:=by
 subst hc
 by_cases a:1<=o.weight/\o.weight<=65536
 ·by_cases b:o.mask=0
  ·exact .inr (.inl b)
  ·exact .inr (.inr (decide_eq_true (afb λd=>h ⟨a.1,a.2,b,d⟩)))
 ·exact .inl (decide_eq_false a)
def qlz (W w:World) (x:aF) (gm:Nat) (J K I D L:Nat) (p:dO x J K I D L) (o:bK) (E:o.Ok) (T:List Fact) (b:Mem W w (jC gm x J K I D L++T)) (M:∀c,c<abn x.cu->eB x.av c=true):
    Calls abo 150 #[vP gm 0,.agg o.cells] w (kg W gm T (rV x.av o)):=by
 obtain ⟨cp,cr,gA,gc,gs,lA,lc,cl,uA,uc,cu,tA,tc,ts,sA,sc,rs⟩:=x
 replace b:Mem W w (fM gm cp cr gA J gc lA K lc uA I uc tA D tc sA L sc::aiq gA J gc gs lA K lc cl uA I uc cu tA D tc ts sA L sc rs (fR rs++(T))):=b
 obtain ⟨N,O,A,B,P⟩:=p.ln
 replace N:abn gs=J:=N;replace O:abn cl=K:=O;replace A:abn cu=I:=A;replace B:abn ts=D:=B;replace P:abn rs=L:=P
 have d:=p.ln
 have hsp:eP gs cp rs:=p.spots
 have hrg:abn rs=abn gs:=p.sh.rs
 have hcr:cr<18446744073709551616:=p.ok.aj
 obtain ⟨F,G,_,C⟩:=mI p.sh.cfg
 replace F:1<=cp:=F;replace G:cp<=64:=G;replace C:dF gs=true:=C
 have nM:=(qw C).1;have nN:=(qw C).2.1
 have pX:(abn cl:Int)=cp:=p.sh.cl;have oI:(abn cu:Int)=cp:=p.sh.cu
 have nO:abn ts<=1000000:=p.few.t
 have hoc:=E.cpu;have hot:=E.task;have hog:=E.group;have how:=E.weight;have Q:=E.to;have R:=E.ticks;have yX:=E.mask;have pY:=E.kind;unfold aW at hoc hot hog how Q R
 have S:=p.ok.cu
 obtain ⟨j,rfl⟩:=zo (b.own (i:=3) rfl) om
 refine (mg b Tryz.func150 60) ?_
 refine (JP∘JE) λw3 g3=>(bM 2∘bN 1∘Jg 1 O0∘JI (h:=by exact λb=>qno 1 b rfl p o.cpu)) λuV hbw=>(Jp 1∘dY∘Jj) (oW (λe=>?_) λe=>?_)
 ·
  exact (JT∘bF 2∘bO) λb=>by exact qt (y:=(⟨cp,cr,gA,gc,gs,lA,lc,cl,some ⟨j,0,none⟩,uc,cu,tA,tc,ts,sA,sc,rs⟩:aF)) 1 b rfl d (if_pos (decide_eq_false e))
 replace e:0<=o.cpu/\o.cpu<cp:=e
 obtain ⟨c,q⟩:∃n:Nat,o.cpu=(n:Int):=⟨o.cpu.toNat,by omega⟩
 have rE:((c:Nat):Int)<cp:=by omega
 obtain ⟨id,m⟩:∃z,cu.getD c 0=z:=⟨_,rfl⟩
 have U:aW id:=by rw [<-m];exact S _ (qf 0 (by show c<abn cu;omega))
 intro a Z b
 unfold aW at U
 refine Jb Z b ((aU) λa Z b=>?_)
 refine wp_seq ?_
 refine Jb Z b ((Vs .n []) λwd3=>(Vp [0]∘Vf 5 1∘Vn 1∘Vf 2 0∘Vf 3 4∘Vc 4 O1∘Vc 6 O0∘Vo (vI c) (by rw [q])∘Vy 7 (h:=by exact Yl.iK j c 1 rfl rfl rfl)∘Vy 8 (v:=vI (cu.getD c 0)) (h:=by exact aaf 4 c 0 om rfl rfl rfl)∘Vo (vI id) (by rw [m])∘Vp [9]∘Vd∘aH∘bN 2∘aK∘Jj) (Je (λV=>?_) λV=>?_))
 ·
  exact (JT∘bF 2∘bO) λb=>by exact qt (y:=(⟨cp,cr,gA,gc,gs,lA,lc,cl,some ⟨j,0,none⟩,uc,cu,tA,tc,ts,sA,sc,rs⟩:aF)) 1 b rfl d ((if_neg (nf (decide_eq_true e))).trans (if_pos (by show cu.getD o.cpu.toNat 0=0;rw [q,abE,m];omega)))
 have r:id≠0:=by omega
 have H:=qsn (x:=(⟨cp,cr,gA,gc,gs,lA,lc,cl,some ⟨j,0,none⟩,uc,cu,tA,tc,ts,sA,sc,rs⟩:aF)) (M c (by show c<abn cu;omega)) (by show cu.getD c 0≠0;rw [m];exact r)
 rw [show (aF.cu (⟨cp,cr,gA,gc,gs,lA,lc,cl,some ⟨j,0,none⟩,uc,cu,tA,tc,ts,sA,sc,rs⟩:aF)).getD c 0=id from m] at H
 obtain ⟨k,t,X,ht,Y,yY⟩:=H
 replace X:fidx ts id=(k:Int):=X;replace ht:ts[k]?=some t:=ht;replace Y:k<abn ts:=Y
 repeat (first|clear Z|clear b)
 intro a Z b
 obtain ⟨u,rfl⟩:=b.rat 5 k (hk:=(by omega:k<D))
 refine Jb Z b ((aU∘aJ 2∘JI (h:=by exact λb=>qx5 1 b rfl p id k X)) λM0 hbw=>(Jp 1∘dY∘Jj) λa Z b=>?_)
 refine wp_seq ?_
 refine Jb Z b ((Vs (.t (.t (.t (.t (.f .n))))) [17]) λXm=>(Vp [0]∘Vf 5 1∘Vp [7,12]∘Vn 1∘Vf 2 0∘Vf 3 4∘Vc 4 O1∘Vc 6 O0∘Vo (vI c) (by rw [q])∘Vn 8∘Vf 9 0∘Vf 10 5∘Vc 11 O1∘Vy 13 (h:=by exact Yl.iK j c 1 rfl rfl rfl)) λa Z b HS=>?_)
 refine s_on Z 14 rfl ?_
 refine zf Z b (i:=4) rfl rfl rfl rfl kr rfl rfl (by rw [abx];omega) λaa5 b=>?_
 replace b:=b.dw (i:=4) (ys:=(cu.set c 0).map aX) rfl (Lh aX cu c 0 om)
 refine ay (b.pt 7 [0,1,2,3,5,6]) (λHS=>?_)
 refine Vb Z b HS ((Vu 15 (h:=by exact λ_=>Yl.iK u k 8 rfl rfl rfl)∘Vf 16 5) λa Z b HS=>?_)
 refine s_on Z 17 rfl ?_
 refine zf Z b (i:=5) rfl rfl rfl rfl kr rfl rfl (by rw [qQ bS 8 ql];omega) λaa6 b=>?_
 replace b:=b.dw (i:=5) (ys:=(ts.set k {t with ready:=false}).flatMap bS) rfl (uL bS 8 ql ts k t {t with ready:=false} ht 5 de _ rfl)
 refine dN kr ?_
 refine qe kr ?_
 refine Jb Z b ((JQ∘JP∘Jg 0 O0∘Jp 1∘aH∘Jj) (Je (λvk=>?_) λvk=>?_))
 ·
  exact (JT∘JR∘Jp 2∘Jn∘Jf 0∘Jg 5 O1∘Jp 2∘dx 1∘JO (h:=by exact λb=>q66 sV b (by rw [abJ];exact B) om om)) λw55=>(Jn∘Jf 0∘Jf 5∘JW fJ sV) λaa7=>(iQ∘bA 3∘aP∘bO) λb=>by exact qt (y:=(⟨cp,cr,gA,gc,gs,lA,lc,cl,some ⟨j,0,none⟩,uc,(cu.set c 0),some ⟨u,0,none⟩,tc,((ts.set k {t with ready:=false}).eraseIdx k),sA,sc,rs⟩:aF)) 1 b rfl ⟨d.g,d.l,by show abn (cu.set _ _)=I;rw [abJ];exact A,by show abn ((ts.set k _).eraseIdx k)=D-1;rw [aeG,abJ,if_pos om];omega,d.s⟩ (zcl (x:=(⟨cp,cr,gA,gc,gs,lA,lc,cl,some ⟨j,0,none⟩,uc,cu,some ⟨u,0,none⟩,tc,ts,sA,sc,rs⟩:aF)) (decide_eq_true e) q m r X ht om)
 exact (aU∘bF 3∘bO) λb=>by exact qt (y:=(⟨cp,cr,gA,gc,gs,lA,lc,cl,some ⟨j,0,none⟩,uc,(cu.set c 0),some ⟨u,0,none⟩,tc,(ts.set k {t with ready:=false}),sA,sc,rs⟩:aF)) 1 b rfl ⟨d.g,d.l,by show abn (cu.set _ _)=I;rw [abJ];exact A,by show abn (ts.set k _)=D;rw [abJ];exact B,d.s⟩ (q1e (x:=(⟨cp,cr,gA,gc,gs,lA,lc,cl,some ⟨j,0,none⟩,uc,cu,some ⟨u,0,none⟩,tc,ts,sA,sc,rs⟩:aF)) (decide_eq_true e) q m r X ht om)
def qvj (W w:World) (x:aF) (H:Nat) (M N O E J:Nat) (R:dO x M N O E J) (o:bK) (ho:o.Ok) (T:List Fact) (b:Mem W w (jC H x M N O E J++T)):
    Calls abo 148 #[vP H 0,.agg o.cells] w (kg W H T (yL x.av o)):=by
 obtain ⟨cp,cr,gA,gc,gs,lA,lc,cl,uA,uc,cu,tA,tc,ts,sA,sc,rs⟩:=x
 replace b:Mem W w (fM H cp cr gA M gc lA N lc uA O uc tA E tc sA J sc::aiq gA M gc gs lA N lc cl uA O uc cu tA E tc ts sA J sc rs (fR rs++(T))):=b
 obtain ⟨mK,hll,nL,hlt,hls⟩:=R.ln
 replace mK:abn gs=M:=mK;replace hll:abn cl=N:=hll;replace nL:abn cu=O:=nL;replace hlt:abn ts=E:=hlt;replace hls:abn rs=J:=hls
 have u:=R.ln
 have hsp:eP gs cp rs:=R.spots
 have hrg:abn rs=abn gs:=R.sh.rs
 have hcr:cr<18446744073709551616:=R.ok.aj
 obtain ⟨hcp1,S,_,V⟩:=mI R.sh.cfg
 replace hcp1:1<=cp:=hcp1;replace S:cp<=64:=S;replace V:dF gs=true:=V
 have nM:=(qw V).1;have nN:=(qw V).2.1
 have pX:(abn cl:Int)=cp:=R.sh.cl;have oI:(abn cu:Int)=cp:=R.sh.cu
 have nO:abn ts<=1000000:=R.few.t
 have hoc:=ho.cpu;have hot:=ho.task;have hog:=ho.group;have how:=ho.weight;have oJ:=ho.to;have oK:=ho.ticks;have yX:=ho.mask;have pY:=ho.kind;unfold aW at hoc hot hog how oJ oK
 obtain ⟨cn,X⟩:∃n:Nat,cp=(n:Int):=⟨cp.toNat,by omega⟩
 obtain ⟨d,rfl⟩:=zo (b.own (i:=5) rfl) om
 refine (mg b Tryz.func148 139) ?_
 refine (JP∘JE) λw3 g3=>(Jp 2∘bA 1∘Jn∘Jf 0∘Jp 1∘dY∘Jj∘JQ∘JB∘aJ 1∘Jg 1 O0∘JI (h:=by exact λb=>qno 1 b rfl R o.cpu)) λRL I=>(Jp 2∘gq∘Jj) (oW (λk=>?_) λk=>?_)
 ·
  exact (JT∘bF 2∘bO) λb=>by exact qt (y:=(⟨cp,cr,gA,gc,gs,lA,lc,cl,uA,uc,cu,tA,tc,ts,some ⟨d,0,none⟩,sc,rs⟩:aF)) 1 b rfl u (if_pos (decide_eq_false k))
 replace k:0<=o.cpu/\o.cpu<cp:=k
 obtain ⟨c,F⟩:∃n:Nat,o.cpu=(n:Int):=⟨o.cpu.toNat,by omega⟩
 have rE:((c:Nat):Int)<cp:=by omega
 refine (JF∘JP∘Jg 2 O0∘JI (h:=by exact λb=>MR o.task _)) λw24 I=>(Jp 2∘dY∘Jj) (oW (λB=>?_) λB=>?_)
 ·
  exact (JT∘bF 2∘bO) λb=>by exact qt (y:=(⟨cp,cr,gA,gc,gs,lA,lc,cl,uA,uc,cu,tA,tc,ts,some ⟨d,0,none⟩,sc,rs⟩:aF)) 1 b rfl u ((if_neg (nf (decide_eq_true k))).trans (if_pos (decide_eq_false B)))
 refine (JF) λa Z b=>?_
 refine qz (λaS wS=>Fr aS 139 [] ((26,.bool (!(decide (0<=o.group/\o.group<abn rs))))::(21,.bool false)::(15,.bool false)::(6,vP H 0)::ahX g3 H [])/\Mem W wS (.blk g3 o.cells 214::fM H cp cr gA M gc lA N lc uA O uc tA E tc (some ⟨d,0,none⟩) J sc::aiq gA M gc gs lA N lc cl uA O uc cu tA E tc ts (some ⟨d,0,none⟩) J sc rs (fR rs++(T)))) ?_ ?_
 ·
  refine Jb Z b ((Vs .n []) λGb=>(Vf 0 3∘Vc 1 O0∘Vp [2,3]) λa Z b e=>?_)
  rcases Z.tf 30 rfl with ⟨CX,Z⟩|⟨CX,Z⟩
  ·
   have R9:=of_decide_eq_true CX
   refine Vb Z b e ((Vq [4,5,6,7,8,9,10,11,12,13] [(26,.bool true)]∘Vd∘kW) λa Z b=>?_)
   have Z:=Z.sp 26 (.bool (!(decide (0<=o.group/\o.group<abn rs)))) rfl (congrArg abM (by rw [decide_eq_false om];rfl))
   exact ⟨Z.sub kr,b.pt 7 [0,1,2,3,4,5,6]⟩
  have R9:=of_decide_eq_false CX
  refine ap Z (λ_=>e) [4,6] (bf 14 [0,1,2,3,4,6]) [(33,vP H 0),(31,vP g3 3)] λa Z=>?_
  refine dD Z e 5 0 (v:=vI o.group) λa Z=>?_
  refine oz Z e 7 λa Z=>?_
  refine ap Z (λ_=>e) [8] (bt 14 [9,10,11,12,13]) [(35,vP H 6)] λa Z=>?_
  refine dD Z e 9 1 λa Z=>?_
  refine sS Z e 10 λa Z=>?_
  refine ap Z (λ_=>e) [11,12,13] (bt 14 []) [(26,.bool (decide ((o.group:Int)>=(J:Int))))] λa Z=>?_
  refine qe kr ?_
  have Z:=Z.sp 26 (.bool (!(decide (0<=o.group/\o.group<abn rs)))) rfl (congrArg abM (by rw [<-decide_not];exact decide_eq_decide.2 om))
  exact ⟨Z.sub kr,b.pt 7 [0,1,2,3,4,5,6]⟩
 clear Z b;rintro a w6 ⟨Z,b⟩
 refine Jb Z b (oW (λD=>?_) λD=>?_)
 ·
  exact (JT∘bF 2∘bO) λb=>by exact qt (y:=(⟨cp,cr,gA,gc,gs,lA,lc,cl,uA,uc,cu,tA,tc,ts,some ⟨d,0,none⟩,sc,rs⟩:aF)) 1 b rfl u ((if_neg (nf (decide_eq_true k))).trans ((if_neg (nf (decide_eq_true B))).trans (if_pos (by show ¬(0<=o.group/\o.group<(abn (rs.map aeR):Nat));rw [abx];exact D))))
 obtain ⟨g,hgg⟩:∃n:Nat,o.group=(n:Int):=⟨o.group.toNat,by omega⟩
 refine (JF) λa Z b=>?_
 refine qz (λaS wS=>Fr aS 139 [] ((40,.bool (!(decide (1<=o.weight/\o.weight<=65536/\o.mask≠0/\¬2^cn<=o.mask))))::(26,.bool false)::(21,.bool false)::(15,.bool false)::(6,vP H 0)::ahX g3 H [])/\Mem W wS (.blk g3 o.cells 214::fM H cp cr gA M gc lA N lc uA O uc tA E tc (some ⟨d,0,none⟩) J sc::aiq gA M gc gs lA N lc cl uA O uc cu tA E tc ts (some ⟨d,0,none⟩) J sc rs (fR rs++(T)))) ?_ ?_
 ·
  refine Jb Z b ((Vs .n []) λM5=>(Vf 0 4∘Vc 1 O0) λa Z b e=>?_)
  refine s_on Z 2 rfl ?_
  refine lq Z [vI o.weight] rfl rfl (MB o.weight _) ?_
  rintro _ QF ⟨rfl,I⟩
  refine ⟨_,rfl,?_⟩
  replace b:=b.call I
  clear Z;intro a Z
  refine ay (b.pt 7 [0,1,2,3,4,5,6]) (λe=>?_)
  refine Vb Z b e ((Vp [3,4]) λa Z b e=>?_)
  rcases Z.tf 45 rfl with ⟨CY,Z⟩|⟨CY,Z⟩
  ·
   have vk:=of_decide_eq_false ((Bool.not_eq_true' _).mp CY)
   refine Vb Z b e ((Vq [5,6,7,8,9,10,11,12,13,14,15,16,17,18,19] [(40,.bool true)]∘Vd∘aH) λa Z b=>?_)
   have Z:=Z.sp 40 (.bool (!(decide (1<=o.weight/\o.weight<=65536/\o.mask≠0/\¬2^cn<=o.mask)))) rfl (congrArg abM (by rw [decide_eq_false (λh=>by omega)];rfl))
   exact ⟨Z.sub kr,b.pt 7 [0,1,2,3,4,5,6]⟩
  have vk:=of_decide_eq_true ((Bool.not_eq_false' _).mp CY)
  refine ap Z (λ_=>e) [5] (bf 20 [0,1,2,3,4,5]) [(46,vP g3 7)] λa Z=>?_
  refine dD Z e 6 0 (v:=vQ o.mask) λa Z=>?_
  refine ap Z (λ_=>e) [7,8,9] (bf 20 [0,1,2,3,4,5,6,7,8,9]) [(50,.bool ((o.mask:Int)==(0:Int)))] λa Z=>?_
  refine Jb Z b (Je (λSc=>?_) λSc=>?_)
  ·
   intro a Z b
   refine ap Z (λ_=>e) [10,11,12,13,14,15,16,17,18,19] (bt 20 []) [(40,.bool true)] λa Z=>?_
   refine qe kr ?_
   have Z:=Z.sp 40 (.bool (!(decide (1<=o.weight/\o.weight<=65536/\o.mask≠0/\¬2^cn<=o.mask)))) rfl (congrArg abM (by rw [decide_eq_false (λh=>by omega)];rfl))
   exact ⟨Z.sub kr,b.pt 7 [0,1,2,3,4,5,6]⟩
  intro a Z b
  refine ap Z (λ_=>e) [10,12] (bt 20 [11,13,14,15,16,17,18,19]) [(53,vP H 0),(51,vP g3 7)] λa Z=>?_
  refine dD Z e 11 0 (v:=vQ o.mask) λa Z=>?_
  refine oz Z e 13 λa Z=>?_
  refine ap Z (λ_=>e) [14,15] (bt 20 [16,17,18,19]) [(56,vP H 0)] λa Z=>?_
  refine dD Z e 16 1 λa Z=>?_
  replace Z:=Z.sp 57 (vI cn) rfl (by rw [X];try rfl)
  refine s_on Z 17 rfl (jd Z b [vQ o.mask,vI cn] (.bool (decide (2^cn<=o.mask))) rfl rfl (Zv o.mask cn yX ⟨by omega,by omega⟩ _) λGd I b a Z=>?_)
  refine ay (b.pt 7 [0,1,2,3,4,5,6]) (λe=>?_)
  refine ap Z (λ_=>e) [18,19] (bt 20 []) [(40,.bool (decide (2^cn<=o.mask)))] λa Z=>?_
  refine qe kr ?_
  have Z:=Z.sp 40 (.bool (!(decide (1<=o.weight/\o.weight<=65536/\o.mask≠0/\¬2^cn<=o.mask)))) rfl (congrArg abM (by rw [<-decide_not];exact decide_eq_decide.2 ⟨λh1 h2=>h2.2.2.2 h1,λh1=>afb λh2=>h1 ⟨by omega,by omega,by omega,h2⟩⟩))
  exact ⟨Z.sub kr,b.pt 7 [0,1,2,3,4,5,6]⟩
 clear Z b;rintro a w8 ⟨Z,b⟩
 refine Jb Z b (oW (λG=>?_) λG=>?_)
 ·
  exact (JT∘bF 2∘bO) λb=>by exact qt (y:=(⟨cp,cr,gA,gc,gs,lA,lc,cl,uA,uc,cu,tA,tc,ts,some ⟨d,0,none⟩,sc,rs⟩:aF)) 1 b rfl u ((if_neg (nf (decide_eq_true k))).trans ((if_neg (nf (decide_eq_true B))).trans ((if_neg (by show ¬¬(0<=o.group/\o.group<(abn (rs.map aeR):Nat));rw [abx];exact not_not_intro D)).trans (if_pos (zc2 X G)))))
 obtain ⟨z,xV⟩:∃n:Nat,o.weight=(n:Int):=⟨o.weight.toNat,by omega⟩
 have hz:1<=z/\z<=65536:=by omega
 have hmb:=aeS o.mask (2^c)
 refine (JF∘aJ 1∘Jg 2 O0∘JI (h:=by exact λb=>Hq 1 b rfl R o.task)) λw64 I=>(Jp 2∘gq∘Jj) (Ji (λK=>?_) λK=>?_)
 ·
  replace K:fidx ts o.task>=0:=K
  exact (JT∘bF 2∘bO) λb=>by exact qt (y:=(⟨cp,cr,gA,gc,gs,lA,lc,cl,uA,uc,cu,tA,tc,ts,some ⟨d,0,none⟩,sc,rs⟩:aF)) 1 b rfl u ((if_neg (nf (decide_eq_true k))).trans ((if_neg (nf (decide_eq_true B))).trans ((if_neg (by show ¬¬(0<=o.group/\o.group<(abn (rs.map aeR):Nat));rw [abx];exact not_not_intro D)).trans ((if_neg (M9 X G)).trans (if_pos (by show 0<=fidx ts o.task;omega))))))
 replace K:¬(fidx ts o.task>=0):=K
 refine (JF∘JP∘Jg 7 O0∘Jf 1∘Jc O0∘Jo (vI c) (by rw [F])∘Jy (v:=vQ (o.mask/2^c:Nat)) (h:=by exact aas (m:=o.mask) (n:=c) rfl rfl rfl (by show _<=64;omega))∘Jp 1∘Jo (vQ ((o.mask/2^c)%2:Nat)) (by exact Lj (n:=1) (j:=1) rfl de om)∘Jp 2∘aH∘Jj) (Je (λSd=>?_) λSd=>?_)
 ·
  exact (JT∘bF 2∘bO) λb=>by exact qt (y:=(⟨cp,cr,gA,gc,gs,lA,lc,cl,uA,uc,cu,tA,tc,ts,some ⟨d,0,none⟩,sc,rs⟩:aF)) 1 b rfl u ((if_neg (nf (decide_eq_true k))).trans ((if_neg (nf (decide_eq_true B))).trans ((if_neg (by show ¬¬(0<=o.group/\o.group<(abn (rs.map aeR):Nat));rw [abx];exact not_not_intro D)).trans ((if_neg (M9 X G)).trans ((if_neg (by show ¬0<=fidx ts o.task;omega)).trans (if_pos (zfp rfl F om)))))))
 obtain ⟨em,hem⟩:∃l,kX (⟨cp,cr,gA,gc,gs,lA,lc,cl,uA,uc,cu,tA,tc,ts,some ⟨d,0,none⟩,sc,rs⟩:aF).av g c=l:=⟨_,rfl⟩
 have tN:=λh hh=>Rx (x:=(⟨cp,cr,gA,gc,gs,lA,lc,cl,uA,uc,cu,tA,tc,ts,some ⟨d,0,none⟩,sc,rs⟩:aF)) R (by omega:g<J) hem h hh
 have tO:=Ry (x:=(⟨cp,cr,gA,gc,gs,lA,lc,cl,uA,uc,cu,tA,tc,ts,some ⟨d,0,none⟩,sc,rs⟩:aF)) R (by omega:g<J) hem
 obtain ⟨⟨yA,yc,yl⟩,hy⟩:∃y,rs.getD g Rw.zero=y:=⟨_,rfl⟩
 have hys:=hsp g om;rw [hy] at hys
 have hyl:(abn yl:Int)=cp:=hys.1
 repeat (first|clear Z|clear b)
 intro a Z b
 obtain ⟨gy,rfl⟩:=b.jG 7 rfl om hy om
 obtain ⟨Y,hyz⟩:∃z,yl[c]?=some z:=⟨_,abq om⟩
 have nC:=hys.2 Y (abH hyz)
 have hyv:=nC.1.v;have qL:=nC.1.r;have r9:=nC.1.floor
 obtain ⟨C,ht1⟩:∃t,(⟨o.task,o.group,0,o.cpu,o.mask,true,0,0⟩:Tk).put (⟨Y.floor,0,z⟩:En)=t:=⟨_,rfl⟩
 have Ij:C.id=o.task:=by rw [<-ht1];rfl
 refine Jb Z b ((aU∘aJ 1∘Jf 3∘Jc O0∘Jo (vI g) (by rw [hgg])∘Jf 1∘Jc O0∘Jo (vI c) (by rw [F])∘JK (h:=by exact λb=>Rv 1 b rfl R (by show ((c:Nat):Int)<cp;omega) om hem)) λIk Il ZE Sg=>(Jp 1∘aH∘Jr∘Jg 2 O1∘Jg 3 O1∘Jg 1 O1∘Jg 7 O1∘eH #[vI o.task,vI o.group,vI 0,vI o.cpu,vQ o.mask,.bool true,vQ 0,vW 0]∘JA aiA) λw8 g8=>(JV fE aO) λSi=>(kW∘Jj) λa Z b=>?_)
 refine qz (λaS wS=>∃(g9:Nat),Fr aS 139 [] ((9,vP g9 0)::(8,vP g8 0)::(7,abk Ik em Il)::(66,.bool false)::(60,.bool false)::(40,.bool false)::(26,.bool false)::(21,.bool false)::(15,.bool false)::(6,vP H 0)::ahX g3 H [])/\Mem W wS (.blk g9 ((⟨Y.floor,0,z⟩:En).cells) 333::.blk g8 #[vI o.task,vI o.group,vI 0,vI o.cpu,vQ o.mask,.bool true,vQ 0,vW 0] 232::abl Ik em Il dM 3 1::.blk g3 o.cells 214::fM H cp cr gA M gc lA N lc uA O uc tA E tc (some ⟨d,0,none⟩) J sc::aiq gA M gc gs lA N lc cl uA O uc cu tA E tc ts (some ⟨d,0,none⟩) J sc rs (fR rs++(T)))) ?_ ?_
 ·
  refine Jb Z b ((Vs .n [20]) λG6=>(Vp [0]∘Vf 4 3∘Vf 8 1∘Vf 13 4∘Vn 1∘Vf 2 6∘Vc 3 O3∘Vc 5 O2∘Vo (vI g) (by rw [hgg])∘Vy 6 (h:=by exact Yl.iK d g 1 rfl rfl rfl)∘Vy 7 (v:= .slice ((rs.getD g Rw.zero).A) ((rs.getD g Rw.zero).l.length) ((rs.getD g Rw.zero).c)) (h:=by exact aaf 8 g Rw.zero om rfl rfl rfl)∘Vo (vS gy (abn yl) yc) (by rw [hy])∘Vc 9 O2∘Vo (vI c) (by rw [F])∘Vy 10 (h:=by exact Yl.iK gy c 3 rfl rfl rfl)∘Vf 11 2∘Vy 12 (v:=vQ Y.floor) (h:=by exact Pd rfl rfl kr (λ_ h=>h.uy 9 (j:=2) rfl om hy (hyz) rfl))∘Vc 14 O2∘Vo (vI z) (by rw [xV])) λa Z b e=>?_)
  refine zd [15,19] kr rfl ?_
  refine all_cons ?_ ?_
  ·refine qq Z (i:=15) rfl rfl ?_
   refine jd Z b [vQ Y.floor,vI z] (.tuple #[.agg ((⟨Y.floor,0,z⟩:En).cells),vI 0]) rfl rfl (qxx Y.floor z r9 hz _) λIm I b a Z=>?_
   refine ay (b.pt 9 [0,1,2,3,4,5,6,7,8]) (λe=>?_)
   refine Vb Z b e ((Vp [16]∘Vx 17∘Vx 18∘VA 19 .n #[vQ 0,vW 0,vW 0]) λw9 g9=>λa Z b e=>?_)
   refine s_on Z 20 rfl (bT Z b 0 rfl rfl rfl rfl rfl qp rfl rfl (mh (⟨Y.floor,0,z⟩:En)) λCZ b=>?_)
   refine dN kr ?_
   refine ap Z (bU kr) [21] (bt 22 []) [] λa Z=>?_
   refine qe kr ?_
   exact ⟨g9,Z.sub kr,b.pt 10 [0,1,2,3,4,5,6,7,8,9]⟩
  refine all_cons ?_ all_nil
  refine qq Z (i:=19) rfl rfl ?_
  refine gZ Z b #[vQ 0,vW 0,vW 0] ?_
  clear Z b;intro a w9 g9 Z b
  refine ay (b.pt 10 [1,2,3,4,5,6,7,8,9]) (λe=>?_)
  refine Vb Z b e ((VI 15 (.f .n) (h:=by exact λb=>qxx Y.floor z r9 hz _)) λIm I=>(Vp [16]∘Vx 17∘Vx 18) λa Z b e=>?_)
  refine s_on Z 20 rfl (bT Z b 0 rfl rfl rfl rfl rfl qp rfl rfl (mh (⟨Y.floor,0,z⟩:En)) λCZ b=>?_)
  refine dN kr ?_
  refine ap Z (bU kr) [21] (bt 22 []) [] λa Z=>?_
  refine qe kr ?_
  exact ⟨g9,Z.sub kr,b.pt 10 [0,1,2,3,4,5,6,7,8,9]⟩
 clear Z b;rintro a w16 ⟨g9,Z,b⟩
 refine Jb Z b ((JP∘dZ qp O0∘JO (h:=by exact λb=>ziw (⟨o.task,o.group,0,o.cpu,o.mask,true,0,0⟩:Tk) C (⟨Y.floor,0,z⟩:En) ht1 fJ b (Ra r9 hz))) λSj=>(nA∘bA 1∘Jn∘Jg 5 O4∘Jy (h:=by exact Yl.makeFunc (fst:=[]) (caps:=[vP g8 0]) rfl rfl rfl)∘JL (h:=by exact λb=>q67 hlt (b.rd (i:=8) rfl) nO (b.blk (i:=1) rfl))) ?_)
 rintro b _ Sk ⟨⟨ii,rfl,U,hi1,hi2⟩,I⟩
 refine ⟨_,rfl,_,b.call I,?_⟩
 refine (Jp 1∘kW∘Jj∘bN 2∘aK∘Jj) (Ji (λIo=>?_) λIo=>?_)
 ·
  obtain ⟨ix,hix⟩:∃n,vX ts C.id=n:=⟨_,rfl⟩
  have C8:=qsd ts C.id
  rw [hix] at U C8
  rw [if_pos om] at U
  refine (JT∘JR∘Jp 1∘Jn∘Jg 5 O4∘Jl∘Jo (vI ix) (by rw [show E=ix by omega])∘Jp 1∘gq∘Jj) λa Z b=>?_
  refine wp_seq ?_
  refine Jb Z b ((Vs (.t (.t (.t (.t (.t (.t (.t (.t (.f .n))))))))) [11]) λSl=>(Vp [0,1,5]∘Vn 2∘Vf 3 5∘Vc 4 O4∘nH 6 fE O1) λa Z b e=>?_)
  refine s_on Z 7 rfl (jl Z b dA [(0,.agg C.cells)] C.cells ?_)
  clear Z b;intro a Sn L Z b
  refine ay (b.pt 11 [1,2,3,4,5,6,7,8,10]) (λe=>?_)
  refine s_on Z 8 rfl ?_
  refine lq Z [.slice tA E tc,vI ix,vS L 1 1] rfl rfl (qsr (i:=ix) (l:=ts) C 9 (λ_ _=>OJ) O0 b hlt om om) ?_
  rintro _ Sq ⟨p,q,rfl,Ip,P⟩
  refine ⟨_,rfl,?_⟩
  replace b:=P
  clear Z;intro a Z
  refine ay (b.pt 11 [1,2,3,4,5,6,7,8,10]) (λe=>?_)
  refine Vb Z b e ((Vn 9∘Vf 10 5) λa Z b e=>?_)
  refine s_on Z 11 rfl (eG Z b 5 λC9 b=>?_)
  refine dN kr ?_
  refine qe kr ?_
  refine Jb Z b ((aJ 2∘Jf 1∘Jc O4∘Jo (vI c) (by rw [F])∘JL (h:=by exact λb=>M6 5 b rfl (j:=3) rfl de (M8 (Ii:=p) (Ih:=q) (ts':=iW ts ix C) (yT:=E+1) u (by rw [MV om];omega)) (tN) (tO) V hrg hsp hcr S (by show ((c:Nat):Int)<cp;omega))) ?_)
  rintro b _ Da ⟨Q,rfl,hl2,hsp2,nP,P⟩
  refine ⟨_,rfl,_,(show Mem W Da (.blk L C.cells 232::.blk g9 ((⟨Y.floor,0,z⟩:En).cells) 333::.blk g8 C.cells 232::abl Ik em Il dM 3 1::.blk g3 o.cells 214::fM H cp cr gA M gc lA N lc uA O uc p (E+1) q (some ⟨d,0,none⟩) J sc::aiq gA M gc gs lA N lc cl uA O uc cu p (E+1) q (iW ts ix C) (some ⟨d,0,none⟩) J sc Q (fR Q++(T))) from P),?_⟩
  exact (iQ∘bA 2∘aP∘bO) λb=>by exact qt (y:=(⟨cp,cr,gA,gc,gs,lA,lc,cl,uA,uc,cu,p,q,(iW ts ix C),some ⟨d,0,none⟩,sc,Q⟩:aF)) 5 b rfl (MS (M8 (Ii:=p) (Ih:=q) (ts':=iW ts ix C) (yT:=E+1) u (by rw [MV om];omega)) hl2) ((qsg (x:=(⟨cp,cr,gA,gc,gs,lA,lc,cl,uA,uc,cu,tA,tc,ts,some ⟨d,0,none⟩,sc,rs⟩:aF)) (t1:=C) (decide_eq_true k) (decide_eq_true B) D (M9 X G) (by show fidx ts o.task<0;omega) (RO F om) hgg F (congrArg Sp.floor (xQ (x:=(⟨cp,cr,gA,gc,gs,lA,lc,cl,uA,uc,cu,tA,tc,ts,some ⟨d,0,none⟩,sc,rs⟩:aF)) (by show g<abn rs;omega) hy hyz)) (by rw [<-ht1,xV];rfl) hem).trans (by rw [show vX ts o.task=ix by rw [<-Ij];exact hix];exact congrArg (λs=>(s,(0:Int),0)) nP.symm))
 obtain ⟨ix,hix⟩:∃n,vX ts C.id=n:=⟨_,rfl⟩
 have C8:=qsd ts C.id
 rw [hix] at U C8
 rw [if_neg om] at U
 refine (Jk 11 (vI ix) (h:=by rw [show ii=(ix:Int) by omega])∘aU) λa Z b=>?_
 refine wp_seq ?_
 refine Jb Z b ((Vs (.t (.t (.t (.t (.t (.t (.t (.t (.f .n))))))))) [11]) λSl=>(Vp [0,1,5]∘Vn 2∘Vf 3 5∘Vc 4 O4∘nH 6 fE O1) λa Z b e=>?_)
 refine s_on Z 7 rfl (jl Z b dA [(0,.agg C.cells)] C.cells ?_)
 clear Z b;intro a Sn L Z b
 refine ay (b.pt 11 [1,2,3,4,5,6,7,8,10]) (λe=>?_)
 refine s_on Z 8 rfl ?_
 refine lq Z [.slice tA E tc,vI ix,vS L 1 1] rfl rfl (qsr (i:=ix) (l:=ts) C 9 (λ_ _=>OJ) O0 b hlt om om) ?_
 rintro _ Sq ⟨p,q,rfl,Ip,P⟩
 refine ⟨_,rfl,?_⟩
 replace b:=P
 clear Z;intro a Z
 refine ay (b.pt 11 [1,2,3,4,5,6,7,8,10]) (λe=>?_)
 refine Vb Z b e ((Vn 9∘Vf 10 5) λa Z b e=>?_)
 refine s_on Z 11 rfl (eG Z b 5 λC9 b=>?_)
 refine dN kr ?_
 refine qe kr ?_
 refine Jb Z b ((aJ 2∘Jf 1∘Jc O4∘Jo (vI c) (by rw [F])∘JL (h:=by exact λb=>M6 5 b rfl (j:=3) rfl de (M8 (Ii:=p) (Ih:=q) (ts':=iW ts ix C) (yT:=E+1) u (by rw [MV om];omega)) (tN) (tO) V hrg hsp hcr S (by show ((c:Nat):Int)<cp;omega))) ?_)
 rintro b _ Da ⟨Q,rfl,hl2,hsp2,nP,P⟩
 refine ⟨_,rfl,_,(show Mem W Da (.blk L C.cells 232::.blk g9 ((⟨Y.floor,0,z⟩:En).cells) 333::.blk g8 C.cells 232::abl Ik em Il dM 3 1::.blk g3 o.cells 214::fM H cp cr gA M gc lA N lc uA O uc p (E+1) q (some ⟨d,0,none⟩) J sc::aiq gA M gc gs lA N lc cl uA O uc cu p (E+1) q (iW ts ix C) (some ⟨d,0,none⟩) J sc Q (fR Q++(T))) from P),?_⟩
 exact (iQ∘bA 2∘aP∘bO) λb=>by exact qt (y:=(⟨cp,cr,gA,gc,gs,lA,lc,cl,uA,uc,cu,p,q,(iW ts ix C),some ⟨d,0,none⟩,sc,Q⟩:aF)) 5 b rfl (MS (M8 (Ii:=p) (Ih:=q) (ts':=iW ts ix C) (yT:=E+1) u (by rw [MV om];omega)) hl2) ((qsg (x:=(⟨cp,cr,gA,gc,gs,lA,lc,cl,uA,uc,cu,tA,tc,ts,some ⟨d,0,none⟩,sc,rs⟩:aF)) (t1:=C) (decide_eq_true k) (decide_eq_true B) D (M9 X G) (by show fidx ts o.task<0;omega) (RO F om) hgg F (congrArg Sp.floor (xQ (x:=(⟨cp,cr,gA,gc,gs,lA,lc,cl,uA,uc,cu,tA,tc,ts,some ⟨d,0,none⟩,sc,rs⟩:aF)) (by show g<abn rs;omega) hy hyz)) (by rw [<-ht1,xV];rfl) hem).trans (by rw [show vX ts o.task=ix by rw [<-Ij];exact hix];exact congrArg (λs=>(s,(0:Int),0)) nP.symm))
def Iq:EI abo 277 215 .nilFunc 1 8:=⟨by kernel_rfl,by kernel_rfl,rfl,by omega⟩
def p9 (k:Nat):FuncId:=[148,149,150,150,151,152,153,154,155,156].getD k 0
def fewer (h:k<10):k=0\/k=1\/k=2\/k=3\/k=4\/k=5\/k=6\/k=7\/k=8\/k=9:=by omega
def q1t (h:k<10):callable abo (p9 k)=true:=by
 rcases fewer h with rfl|rfl|rfl|rfl|rfl|rfl|rfl|rfl|rfl|rfl<;>kernel_rfl
def zix (gm:Nat) {k:Nat} (h:k<10):(#[.func (.func 148) #[vP gm 0] #[],.func (.func 149) #[vP gm 0] #[],.func (.func 150) #[vP gm 0] #[],.func (.func 150) #[vP gm 0] #[],.func (.func 151) #[vP gm 0] #[],.func (.func 152) #[vP gm 0] #[],.func (.func 153) #[vP gm 0] #[],.func (.func 154) #[vP gm 0] #[],.func (.func 155) #[vP gm 0] #[],.func (.func 156) #[vP gm 0] #[]]:Array Value)[k]?=some (.func (.func (p9 k)) #[vP gm 0] #[]):=by
 rcases fewer h with rfl|rfl|rfl|rfl|rfl|rfl|rfl|rfl|rfl|rfl<;>rfl
section
variable {W w:World} {F T:List Fact} {x y:aF} {ng nl nu nt ns gm:Nat} {o:bK}
def q1u (n:Nat) (f:Mem W w F) (g:F.drop n=jC gm x ng nl nu nt ns++T) (c:dO x ng nl nu nt ns) (e:GoodS x.av) (d:o.Ok) (h:k<10) (hk:o.kind=k+1):Calls abo (p9 k) #[vP gm 0,.agg o.cells] w (kg W gm (F.take n++T) (dB x.av o)):=by
 have a:=f.front n g
 have b:=(Rj e.sh.sort).2 e.cur
 unfold dB
 rcases fewer h with rfl|rfl|rfl|rfl|rfl|rfl|rfl|rfl|rfl|rfl<;>rw [hk]
 ·exact qvj W w x gm ng nl nu nt ns c o d _ a
 ·exact qvg W w x gm ng nl nu nt ns c o d _ a
 ·exact qlz W w x gm ng nl nu nt ns c o d _ a b
 ·exact qlz W w x gm ng nl nu nt ns c o d _ a b
 ·exact q1n W w x gm ng nl nu nt ns c o d _ a b
 ·exact q1m W w x gm ng nl nu nt ns c o d _ a
 ·exact qmp W w x gm ng nl nu nt ns c o d _ a
 ·exact qpe W w x gm ng nl nu nt ns c o d _ a
 ·exact qpg W w x gm ng nl nu nt ns c o d _ a
 ·exact qph W w x gm ng nl nu nt ns c o d _ a
def zmh (c:Mem W w (mU gm y++T)) (hy:GoodS y.av):Calls abo 157 #[vP gm 0] w (λr b=>∃z:aF,r= .returned (.tuple #[])/\z.av=fF y.av/\Mem W b (mU gm z++T)):=
 (q1l W w y gm _ _ _ _ _ (MW hy.sh) T c).mono λr b ⟨a,e,d,_,hs,hm⟩=>⟨{y with rs:=a},e,hs,Mem.toB hm ⟨rfl,rfl,rfl,rfl,d⟩⟩
def wz (s:bE) (out:iI):Prop:=out.2.2≠0->out.1=s/\out.2.1=0
def q1v (s:bE) (o:bK):wz s (dB s o):=by
 have key:∀e:Nat,wz s (s,0,e):=λe _=>⟨rfl,rfl⟩
 have a:∀(t:bE) (g:Int),wz s (t,g,0):=λt g h=>absurd rfl h
 unfold dB
 split
 ·unfold yL;repeat' split
  all_goals first|exact key _|exact a _ _
 ·unfold yM;repeat' split
  all_goals first|exact key _|exact a _ _
 ·unfold rV;repeat' split
  all_goals first|exact key _|exact a _ _
 ·unfold rV;repeat' split
  all_goals first|exact key _|exact a _ _
 ·unfold jE;repeat' split
  all_goals first|exact key _|exact a _ _|(dsimp only;split<;>exact a _ _)
 ·unfold kL;repeat' split
  all_goals first|exact key _|exact a _ _
 ·unfold yN;repeat' split
  all_goals first|exact key _|exact a _ _
 ·unfold yO;repeat' split
  all_goals first|exact key _|exact a _ _
 ·unfold qc1;repeat' split
  all_goals first|exact key _|exact a _ _
 ·unfold vK;repeat' split
  all_goals first|exact key _|exact a _ _
 ·exact key _
def q68 (h:(dB s o).2.2≠0):(dB s o).1=s/\(dB s o).2.1=0:=q1v s o h
def q69 {s:bE} (h:o.kind<1\/10<o.kind):rW s o=(s,0,2):=by
 have e:dB s o=(s,0,2):=by
  unfold dB
  split<;>first|rfl|omega
 unfold rW
 rw [e]
 rfl
theorem Sr (h:(dB s o).2.2≠0):rW s o=(s,0,(dB s o).2.2):=by unfold rW;rw [if_pos h]
theorem Sv (h:(dB s o).2.2=0):rW s o=(fF (dB s o).1,(dB s o).2.1,0):=by unfold rW;rw [if_neg om]
end
abbrev ahY:=λa b=>(.blk a #[.func (.func 148) #[vP b 0] #[],.func (.func 149) #[vP b 0] #[],.func (.func 150) #[vP b 0] #[],.func (.func 150) #[vP b 0] #[],.func (.func 151) #[vP b 0] #[],.func (.func 152) #[vP b 0] #[],.func (.func 153) #[vP b 0] #[],.func (.func 154) #[vP b 0] #[],.func (.func 155) #[vP b 0] #[],.func (.func 156) #[vP b 0] #[]] 215:Fact)
def zc3 (W w:World) (x:aF) (gm:Nat) (ng nl nu nt ns:Nat) (B:dO x ng nl nu nt ns) (J:GoodS x.av) (o:bK) (C:o.Ok) (T:List Fact) (b:Mem W w (jC gm x ng nl nu nt ns++T)):
    Calls abo 102 #[vP gm 0,.agg o.cells] w (kg W gm T (rW x.av o)):=by
 obtain ⟨cp,cr,gA,gc,gs,lA,lc,cl,uA,uc,cu,tA,tc,ts,sA,sc,rs⟩:=x
 replace b:Mem W w (fM gm cp cr gA ng gc lA nl lc uA nu uc tA nt tc sA ns sc::aiq gA ng gc gs lA nl lc cl uA nu uc cu tA nt tc ts sA ns sc rs (fR rs++(T))):=b
 obtain ⟨n,p,q,r,s⟩:=B.ln
 replace n:abn gs=ng:=n;replace p:abn cl=nl:=p;replace q:abn cu=nu:=q;replace r:abn ts=nt:=r;replace s:abn rs=ns:=s
 have K:=C.kind
 refine (mg b Tryz.func102 67) ?_
 refine (JP∘JE) λN D=>(bM 2∘bN 1∘Jy (v:= .bool false) (h:=by exact aaF rfl rfl rfl)∘Jp 2∘Jn∘Jg 7 O1∘Jp 2∘aH∘Jj∘aU∘aJ 1∘Jy (h:=by exact Yl.makeFunc (fst:=[vP gm 0]) (caps:=[]) rfl rfl rfl)∘Jp 1∘Jy (h:=by exact Yl.makeFunc (fst:=[vP gm 0]) (caps:=[]) rfl rfl rfl)∘Jp 1∘Jy (h:=by exact Yl.makeFunc (fst:=[vP gm 0]) (caps:=[]) rfl rfl rfl)∘Jp 1∘Jy (h:=by exact Yl.makeFunc (fst:=[vP gm 0]) (caps:=[]) rfl rfl rfl)∘Jp 1∘Jy (h:=by exact Yl.makeFunc (fst:=[vP gm 0]) (caps:=[]) rfl rfl rfl)∘Jp 1∘Jy (h:=by exact Yl.makeFunc (fst:=[vP gm 0]) (caps:=[]) rfl rfl rfl)∘Jp 1∘Jy (h:=by exact Yl.makeFunc (fst:=[vP gm 0]) (caps:=[]) rfl rfl rfl)∘Jp 1∘Jy (h:=by exact Yl.makeFunc (fst:=[vP gm 0]) (caps:=[]) rfl rfl rfl)∘Jp 1∘Jy (h:=by exact Yl.makeFunc (fst:=[vP gm 0]) (caps:=[]) rfl rfl rfl)∘Jp 1∘Jy (h:=by exact Yl.makeFunc (fst:=[vP gm 0]) (caps:=[]) rfl rfl rfl)∘JU Iq #[.func (.func 148) #[vP gm 0] #[],.func (.func 149) #[vP gm 0] #[],.func (.func 150) #[vP gm 0] #[],.func (.func 150) #[vP gm 0] #[],.func (.func 151) #[vP gm 0] #[],.func (.func 152) #[vP gm 0] #[],.func (.func 153) #[vP gm 0] #[],.func (.func 154) #[vP gm 0] #[],.func (.func 155) #[vP gm 0] #[],.func (.func 156) #[vP gm 0] #[]]) λL e=>(Jp 1∘aH∘Jj∘JQ∘JP∘Jg 0 O1∘Jp 2) (Ji (λt=>?_) λt=>?_)
 ·
  exact (Jp 7∘aH∘Jj∘JT∘bF 2∘bO) λb=>by exact qt (y:=(⟨cp,cr,gA,gc,gs,lA,lc,cl,uA,uc,cu,tA,tc,ts,sA,sc,rs⟩:aF)) 2 b rfl B.ln (q69 om)
 refine (Jg 0 O1∘Jw .i64∘Jp 1∘Jl∘Jp 2∘aH∘Jj) (Ji (λu=>?_) λu=>?_)
 ·
  exact (JT∘bF 2∘bO) λb=>by exact qt (y:=(⟨cp,cr,gA,gc,gs,lA,lc,cl,uA,uc,cu,tA,tc,ts,sA,sc,rs⟩:aF)) 2 b rfl B.ln (q69 om)
 obtain ⟨k,E⟩:∃k:Nat,o.kind=k+1:=⟨o.kind-1,by omega⟩
 have g:k<10:=by omega
 refine (aU) λa Z b=>?_
 refine wp_seq ?_
 refine EX b [ahY e gm,.blk D o.cells 214] [0,1] [] λb j=>?_
 refine ap Z (λ_=>j) [0,1] (bf 13 [0,1]) [(52,vP D 0),(51,vS e 10 10)] λa Z=>?_
 refine dD Z j 2 1 (v:=vB o.kind) λa Z=>?_
 refine pE Z (λ_=>j) (i:=3) rfl rfl (d:=54) rfl de kr (λ_ _ _ h=>h) (v:=vB (IntKind.u8.wrap ((o.kind:Int)-1))) (λ_=>Yl.pure kr) λa Z=>?_
 replace Z:=Z.sp 54 (vB k) rfl (by rw [IntKind.wrap_u8];congr 1;omega)
 refine gX Z j 4 rfl (v:=vP e (k*1)) (Yl.iK e k 1 rfl rfl rfl) λa Z=>?_
 refine gX Z j 5 rfl (v:= .func (.func (p9 k)) #[vP gm 0] #[]) (Pd rfl rfl kr (λ_ h=>h.cell (i:=0) rfl (by rw [acX];exact zix gm g))) λa Z=>?_
 refine gX Z j 6 rfl (v:= .agg o.cells) (Pe rfl rfl mR rfl (λ_ h=>qj (h.blk (i:=1) rfl))) λa Z=>?_
 refine s_on Z 7 rfl ?_
 refine zg Z (f:=(p9 k)) (vs:=[.agg o.cells]) (fst:=[vP gm 0]) (caps:=[]) rfl rfl rfl (q1t g) rfl de (q1u 2 b rfl B J C g E) ?_
 rintro _ G ⟨y,rfl,l,m⟩
 refine ⟨_,rfl,?_⟩
 replace b:=(show Mem W G (ahY e gm::.blk D o.cells 214::(mU gm y++(T))) from m.back)
 clear Z;intro a Z
 refine ay (b.pk [0,1]) (λj=>?_)
 refine ap Z (λ_=>j) [8,9,10,11,12] (bt 13 []) (ahK 8 ((dB (⟨cp,cr,gA,gc,gs,lA,lc,cl,uA,uc,cu,tA,tc,ts,sA,sc,rs⟩:aF).av o).2.2) 7 ((dB (⟨cp,cr,gA,gc,gs,lA,lc,cl,uA,uc,cu,tA,tc,ts,sA,sc,rs⟩:aF).av o).2.1) []) λa Z=>?_
 refine qe kr ?_
 refine Jb Z b ((bN 2∘aK∘Jj) (Jh (λc=>?_) λc=>?_))
 ·
  replace c:(dB (⟨cp,cr,gA,gc,gs,lA,lc,cl,uA,uc,cu,tA,tc,ts,sA,sc,rs⟩:aF).av o).2.2≠0:=by omega
  exact (JT∘bF 3∘bO) λb=>by rw [Sr c];exact ⟨y,rfl,l.trans (q68 c).1,b.iP 2 rfl⟩
 replace c:(dB (⟨cp,cr,gA,gc,gs,lA,lc,cl,uA,uc,cu,tA,tc,ts,sA,sc,rs⟩:aF).av o).2.2=0:=by omega
 have A:=c
 have H:GoodS y.av:=by rw [l];exact Rt C J A
 refine (aU∘aJ 1∘JL (h:=by exact λb=>zmh (b.iP 2 rfl) H)) ?_
 rintro b _ M ⟨z,rfl,I,m⟩
 refine ⟨_,rfl,_,m,?_⟩
 exact (nA∘bA 3∘aP∘bO) λb=>by rw [Sv A];exact ⟨z,rfl,I.trans (by rw [l]),b⟩
def Db (w:World) (e:TypeId) (sz n:Nat) (xs:List Value) (r:Ending) (a:World):Prop:=
 (∃A c,r= .returned (.slice A n c)/\a.ownsRow w.heap.size e sz (.slice A n c) n xs/\n<=c)/\Below w.heap.size w a
def Na {e:TypeId} {sz:Nat} {xs:List Value} (hr:Rd w w.heap.size sz A n xs) (h:A.isNone=true) (hb:Below w.heap.size w W):Db w e sz n xs (.returned (.slice none 0 0)) W:=by
 have b:n=0:=by
  rcases acr n with a|a
  ·exact a
  ·obtain ⟨d,rfl,_⟩:=hr.row a
   cases h
 subst b
 have c:xs=[]:=afJ.1 (by rw [hr.len];omega)
 subst c
 exact ⟨⟨none,0,rfl,acA _ _ _ _,abr _⟩,hb⟩
def jQ (z:List Rw) (m:Nat):List Rw:=z++abD m Rw.zero
def qx8 (z:List Rw) (m:Nat):abn (jQ z m)=abn z+m:=by unfold jQ;rw [abp,ab2]
def qx9 {α:Type} (F:α->Value) (z:α) (m:Nat):(madeCells #[F z] (m*1)).toList=(abD m z).map F:=by
 rw [acX]
 unfold madeCells
 refine afz (by simp) λi a b=>?_
 simp [Nat.mod_one]
def q7a (m:Nat):(madeCells #[.slice none 0 0] (m*1)).toList=(jQ [] m).map aac:=qx9 aac Rw.zero m
def q1w (m:Nat):(madeCells (afp none 0 0).cells (m*1)).toList=(jQ [] m).map aac:=q7a m
def zc4 {z:List Rw} (y:Rw) (h:0<m):(jQ z m).set (abn z) y=jQ (z++[y]) (m-1):=by
 obtain ⟨k,rfl⟩:∃k,m=k+1:=⟨m-1,by omega⟩
 unfold jQ
 rw [aeJ,if_neg om,aeb,List.replicate_succ,aff,abu]
 rfl
def q7b (z:List Rw):jQ z 0=z:=by unfold jQ;rw [List.replicate_zero,abP]
def q7c {i gc lc uc tc:Nat} {lA uA tA:Option Addr} (hz:abn z=i) (hi:i=n) (h1:abn x.gs<=gc) (a:abn x.cl<=lc) (b:abn x.cu<=uc) (d:abn x.ts<=tc) (e:∀q∈z,abn q.l<=q.c) (f:x.rs.map aeR=z.map aeR)
  (hm:Mem w W (.row (.slice gA (abn x.gs) gc) (abn x.gs) (x.gs.flatMap fC) 198 2:: .row (.slice lA (abn x.cl) lc) (abn x.cl) (x.cl.map aX) 3 1:: .row (.slice uA (abn x.cu) uc) (abn x.cu) (x.cu.map aX) 3 1:: .row (.slice tA (abn x.ts) tc) (abn x.ts) (x.ts.flatMap bS) 232 8:: .row (.slice (some ⟨g,0,none⟩) n n) n ((jQ z (n-i)).map aac) 176 1::kY 200 z)):
  ZT w x (.returned (.agg #[.int .i64 x.au,.int .u64 (x.aj:Int),.slice gA (abn x.gs) gc,.slice lA (abn x.cl) lc,.slice uA (abn x.cu) uc,.slice tA (abn x.ts) tc,.slice (some ⟨g,0,none⟩) n n])) W:=by
 subst hz
 subst hi
 rw [aeb,q7b] at hm
 exact ⟨⟨x.au,x.aj,gA,gc,x.gs,lA,lc,x.cl,uA,uc,x.cu,tA,tc,x.ts,some ⟨g,0,none⟩,abn z,z⟩,rfl,⟨⟨rfl,rfl,rfl⟩,rfl,rfl,rfl,f⟩,⟨h1,a,b,d,abr _,e⟩,hm⟩
def qvm (A:Option Addr) (c:Nat) (l:List Gr) (w:World) (hr:Rd w w.heap.size 2 A (abn l) (l.flatMap fC)) (k:abn l<=1000000):
    Calls abo 192 #[abk A l c] w (Db w 198 2 (abn l) (l.flatMap fC)):=by
 refine (eF Tryz.func192 8) ?_
 refine (cO 1∘bN 1∘Jy (v:= .bool A.isNone) (h:=by exact aau rfl rfl rfl)∘aK∘Jj) (Ju (λe=>?_) λe=>?_)
 ·
  exact (JT∘bF 1∘bC) λb=>Na hr (by simpa using e) b.below
 refine (aU∘JP) λa Z b=>?_
 refine fo Z 0 rfl rfl ?_
 refine E5 Z b rfl jh rfl de ?_
 clear Z b;intro a m n Z b
 refine Jb Z b ((Jp 1∘JD (l.flatMap fC) 0 (λ_ _=>aO) jh (hr:=by exact λb=>b.old hr) (h1:=by exact He _)) λo g j f=>?_)
 have d:0+abn l=abn l:=ab7 _
 rw [d] at f
 exact (JC (h:=by exact λb=>b.aY (i:=0) (ys:=l.flatMap fC) rfl d (rfl))∘Jk 7 (.slice g (abn l) j) (h:=by exact iB d)∘Jp 1∘gq∘aP∘bC) λb=>by exact ⟨⟨_,_,rfl,b.own (i:=0) rfl,f⟩,b.below⟩
def qjw (A:Option Addr) (c:Nat) (l:List Int) (w:World) (hr:Rd w w.heap.size 1 A (abn l) (l.map aX)) (k:abn l<=1000000):
    Calls abo 193 #[abk A l c] w (Db w 3 1 (abn l) (l.map aX)):=by
 refine (eF Tryz.func193 8) ?_
 refine (cO 1∘bN 1∘Jy (v:= .bool A.isNone) (h:=by exact aau rfl rfl rfl)∘aK∘Jj) (Ju (λe=>?_) λe=>?_)
 ·
  exact (JT∘bF 1∘bC) λb=>Na hr (by simpa using e) b.below
 refine (aU∘JP) λa Z b=>?_
 refine fo Z 0 rfl rfl ?_
 refine E5 Z b rfl kE rfl de ?_
 clear Z b;intro a m n Z b
 refine Jb Z b ((Jp 1∘JD (l.map aX) 0 (λ_ _=>aO) kE (hr:=by exact λb=>b.old hr) (h1:=by exact QW _)) λo g j f=>?_)
 have d:0+abn l=abn l:=ab7 _
 rw [d] at f
 exact (JC (h:=by exact λb=>b.aY (i:=0) (ys:=l.map aX) rfl d (rfl))∘Jk 7 (.slice g (abn l) j) (h:=by exact iB d)∘Jp 1∘gq∘aP∘bC) λb=>by exact ⟨⟨_,_,rfl,b.own (i:=0) rfl,f⟩,b.below⟩
def qvn (A:Option Addr) (c:Nat) (l:List Tk) (w:World) (hr:Rd w w.heap.size 8 A (abn l) (l.flatMap bS)) (k:abn l<=1000000):
    Calls abo 194 #[abk A l c] w (Db w 232 8 (abn l) (l.flatMap bS)):=by
 refine (eF Tryz.func194 8) ?_
 refine (cO 1∘bN 1∘Jy (v:= .bool A.isNone) (h:=by exact aau rfl rfl rfl)∘aK∘Jj) (Ju (λe=>?_) λe=>?_)
 ·
  exact (JT∘bF 1∘bC) λb=>Na hr (by simpa using e) b.below
 refine (aU∘JP) λa Z b=>?_
 refine fo Z 0 rfl rfl ?_
 refine E5 Z b rfl dA rfl de ?_
 clear Z b;intro a m n Z b
 refine Jb Z b ((Jp 1∘JD (l.flatMap bS) 0 (λ_ _=>aO) dA (hr:=by exact λb=>b.old hr) (h1:=by exact Hf _)) λo g j f=>?_)
 have d:0+abn l=abn l:=ab7 _
 rw [d] at f
 exact (JC (h:=by exact λb=>b.aY (i:=0) (ys:=l.flatMap bS) rfl d (rfl))∘Jk 7 (.slice g (abn l) j) (h:=by exact iB d)∘Jp 1∘gq∘aP∘bC) λb=>by exact ⟨⟨_,_,rfl,b.own (i:=0) rfl,f⟩,b.below⟩
def qvo (A:Option Addr) (c:Nat) (l:List Sp) (w:World) (hr:Rd w w.heap.size 3 A (abn l) (l.flatMap jk)) (k:abn l<=1000000):
    Calls abo 195 #[abk A l c] w (Db w 200 3 (abn l) (l.flatMap jk)):=by
 refine (eF Tryz.func195 8) ?_
 refine (cO 1∘bN 1∘Jy (v:= .bool A.isNone) (h:=by exact aau rfl rfl rfl)∘aK∘Jj) (Ju (λe=>?_) λe=>?_)
 ·
  exact (JT∘bF 1∘bC) λb=>Na hr (by simpa using e) b.below
 refine (aU∘JP) λa Z b=>?_
 refine fo Z 0 rfl rfl ?_
 refine E5 Z b rfl lV rfl de ?_
 clear Z b;intro a m n Z b
 refine Jb Z b ((Jp 1∘JD (l.flatMap jk) 0 (λ_ _=>aO) lV (hr:=by exact λb=>b.old hr) (h1:=by exact QV _)) λo g j f=>?_)
 have d:0+abn l=abn l:=ab7 _
 rw [d] at f
 exact (JC (h:=by exact λb=>b.aY (i:=0) (ys:=l.flatMap jk) rfl d (rfl))∘Jk 7 (.slice g (abn l) j) (h:=by exact iB d)∘Jp 1∘gq∘aP∘bC) λb=>by exact ⟨⟨_,_,rfl,b.own (i:=0) rfl,f⟩,b.below⟩
abbrev ahE {α:Type}:=λa (b:List α) c d e f g h i j k l m n o p q r s t u v=>(.row (vS a (abn b) (abn b)) (abn b) c 176 1::abm d e f bS 232 8::abl g h i aX 3 1::abl j k l aX 3 1::abm m n o fC 198 2::.blk p #[vI 0,vQ 0,vN,vN,vN,vN,vN] 48::.blk q #[vI r,vQ s,abk m n o,abk j k l,abk g h i,abk d e f,abk t b u] 48::v:List Fact)
abbrev aiD:Array Go.Value:=#[vI 0,vQ 0,vN,vN,vN,vN,vN]
theorem qnw (x:aF) (w:World) (K:eU w x) (H:bY x):
    Calls abo 147 #[.agg x.cells] w (ZT w x):=by
 have hfg:=H.g;have hfl:=H.l;have hfu:=H.u;have hft:=H.t;have hfs:=H.s
 refine (eF Tryz.func147 45) ?_
 refine (JP∘JE) λw1 I=>(JA aiD) λw2 N=>(Jr∘Jf 0∘Jg 2 O1∘JK (h:=by exact λb=>qvm x.gA x.gc x.gs _ (b.old K.g) (H.g))) λF G w9 V=>(Jf 0∘Jf 2) λa Z b=>?_
 refine fo Z 6 rfl rfl ?_
 refine qG Z b (i:=2) rfl rfl rfl rfl kr rfl rfl (by simp [aF.cells]) λanW b=>?_
 refine Jb Z b ((qI∘Jj) λa Z b=>?_)
 refine wp_seq ?_
 refine Jb Z b ((Vs .n [10,12,14]) λwd2=>(Vf 0 3∘Vf 3 4∘Vf 6 5∘Vc 1 O2∘Vc 4 O2∘Vc 7 O2∘VK 2 .n (h:=by exact λb=>qjw x.lA x.lc x.cl _ (b.old K.l) (H.l))) λd e FV O=>(Vf 9 3∘VK 5 (.f .n) (h:=by exact λb=>qjw x.uA x.uc x.cu _ (b.old K.u) (H.u))) λj k w17 P=>(VK 8 (.f (.f .n)) (h:=by exact λb=>qvn x.tA x.tc x.ts _ (b.old K.t) (H.t))) λo p FN Q=>λa Z b HS=>?_)
 refine s_on Z 10 rfl ?_
 refine qG Z b (i:=5) rfl rfl rfl rfl kr rfl rfl (by simp [aF.cells]) λW b=>?_
 refine dN kr ?_
 refine ap Z (bU kr) [11] (bt 15 [12,13,14]) [(22,vP I 4)] λa Z=>?_
 refine s_on Z 12 rfl ?_
 refine qG Z b (i:=5) rfl rfl rfl rfl kr rfl rfl (by simp [aF.cells]) λX b=>?_
 refine dN kr ?_
 refine ap Z (bU kr) [13] (bt 15 [14]) [(23,vP I 5)] λa Z=>?_
 refine s_on Z 14 rfl ?_
 refine qG Z b (i:=5) rfl rfl rfl rfl kr rfl rfl (by simp [aF.cells]) λY b=>?_
 refine dN kr ?_
 refine qe kr ?_
 refine Jb Z b ((JP∘Jg 6 O5∘Jl) λa Z b=>?_)
 refine fo Z 3 rfl rfl ?_
 refine xw Z b (m:=abn x.rs) rfl nY rfl rfl om om rfl de ?_
 clear Z b;intro a Hl D Z b
 refine Jb Z b ((Jp 1∘aH∘Jq) λa Z b=>?_)
 rw [q1w] at b
 replace b:=b.ow 200 3
 replace b:Mem w _ (ahE D x.rs ((jQ [] (abn x.rs)).map aac) o x.ts p j x.cu k d x.cl e F x.gs G N I x.au x.aj x.sA x.sc (kY 200 [])):=b
 refine Jb Z b ((JG∘JQ∘JP∘Jg 6 O6∘Jl∘bM 1∘JB) λa Z b=>?_)
 refine qg (λmS aS wS=>∃(i:Nat) (z:List Rw),(i<=abn x.rs)/\(abn z=i)/\(z.map aeR=(x.rs.take i).map aeR)/\(∀q∈z,abn q.l<=q.c)/\mS=abn x.rs-i/\Fr aS 45 [] (ahK 31 i 30 (abn x.rs) [(29,abk x.sA x.rs x.sc),(3,vS D (abn x.rs) (abn x.rs)),(2,vP N 0),(1,vP I 0)])/\Mem w wS (ahE D x.rs ((jQ z (abn x.rs-i)).map aac) o x.ts p j x.cu k d x.cl e F x.gs G N I x.au x.aj x.sA x.sc (kY 200 z))) (m:=abn x.rs-0) ⟨0,[],abA _,rfl,rfl,(λq h=>by cases h),rfl,Z.sub kr,b.pt 7 [0,1,2,3,4,5,6]⟩ ?_
 clear Z b;rintro mS a w_ ⟨i,z,hi,L,hz,R,rfl,Z,b⟩
 refine Jb Z b ((cO 1∘JQ) (Ji (λS=>?_) λS=>?_))
 ·
  have E:i<abn x.rs:=by omega
  obtain ⟨y,U⟩:∃q,x.rs.getD i Rw.zero=q:=⟨_,rfl⟩
  have qL:Rd w w.heap.size 3 y.A (abn y.l) (y.l.flatMap jk):=by rw [<-U];exact K.row E
  have hyl:abn y.l<=1000000:=by rw [<-U];exact H.r _ (qf Rw.zero E)
  refine (eO∘aJ 1) ?_
  obtain ⟨GQ,GR,M,_⟩:=Rd.sat K.s i
  have J:=K.s;rw [M] at J
  refine (Jk 29 (.slice (some ⟨GQ,GR,none⟩) (abn x.rs) x.sc) (h:=by rw [M];try rfl)∘iC i 1∘Jy (v:= .slice ((x.rs.getD i Rw.zero).A) ((x.rs.getD i Rw.zero).l.length) ((x.rs.getD i Rw.zero).c)) (h:=by exact aad J i Rw.zero E rfl rfl)∘Jo (.slice y.A (abn y.l) y.c) (by rw [U])∘bM 2∘JR∘Jp 3∘JK (h:=by exact λb=>qvo y.A y.c y.l _ (b.old qL) (hyl))) λB C HV T=>(nU i 1) λa Z b=>?_
  refine fo Z 5 rfl rfl ?_
  refine zf Z b (i:=1) rfl rfl rfl rfl kr rfl rfl (by rw [abx,qx8];omega) λanX b=>?_
  replace b:=b.dw (i:=1) (ys:=(jQ (z++[(⟨B,C,y.l⟩:Rw)]) (abn x.rs- (i+1))).map aac) rfl ((Lh aac _ i (⟨B,C,y.l⟩:Rw) (by rw [qx8];omega)).trans (by rw [show i=abn z from L.symm,zc4 (⟨B,C,y.l⟩:Rw) om];rfl))
  refine Jb Z b ((qI∘Jq∘JC (h:=by exact λb=>b.pt (fs':=(abm B y.l C jk 200 3::ahE D x.rs ((jQ (z++[(⟨B,C,y.l⟩:Rw)]) (abn x.rs- (i+1))).map aac) o x.ts p j x.cu k d x.cl e F x.gs G N I x.au x.aj x.sA x.sc (kY 200 z))) 8 [0,1,2,3,4,5,6,7])∘JC (h:=by exact λb=>aaA (fs:=(ahE D x.rs ((jQ (z++[(⟨B,C,y.l⟩:Rw)]) (abn x.rs- (i+1))).map aac) o x.ts p j x.cu k d x.cl e F x.gs G N I x.au x.aj x.sA x.sc [])) b)∘JC (h:=by exact λb=>(show Mem w _ (ahE D x.rs ((jQ (z++[(⟨B,C,y.l⟩:Rw)]) (abn x.rs- (i+1))).map aac) o x.ts p j x.cu k d x.cl e F x.gs G N I x.au x.aj x.sA x.sc (kY 200 (z++[(⟨B,C,y.l⟩:Rw)]))) from b))∘JG∘JR∘dx 1∘Jp 1∘aK∘Jq) λa Z b=>?_)
  replace Z:=Z.sp 29 (abk x.sA x.rs x.sc) rfl (by rw [M])
  exact ⟨_,om,i+1,(z++[(⟨B,C,y.l⟩:Rw)]),by omega,by rw [abp,L];rfl,by rw [abU,hz,zb9 E,U];rfl,λq h=>(ab6.1 h).elim (R q) (λh=>by rw [agc] at h;subst h;exact T),rfl,Z.sub kr,b.pt 7 [0,1,2,3,4,5,6]⟩
 have hzt:x.rs.take i=x.rs:=abI om
 have hil:i=abn x.rs:=by omega
 refine (JF∘JX∘JG∘aJ 1∘Jf 6∘JW uh uh) λanZ=>(nA∘Jr∘Jy (v:= .agg #[vI x.au,vQ x.aj,abk F x.gs G,abk d x.cl e,abk j x.cu k,abk o x.ts p,vS D (abn x.rs) (abn x.rs)]) (h:=by exact Pe rfl rfl gG rfl (λ_ h=>qj (h.blk (i:=6) rfl)))∘JV gG sV) λAb=>(ny∘aP) λa Z b=>?_
 exact iM rfl Z (.cellS (i:=5) Z b rfl rfl gG rfl) (q7c (x:=x) (n:=abn x.rs) (i:=i) L hil V O P Q R (by rw [hzt] at hz;exact hz.symm) (b.pt 7 [4,3,2,1,0]))
def q7d (w:World) (x:aF) (r:Ending) (w':World):Prop:=∃y:aF,r= .returned (.tuple #[.agg y.cells,.int .i64 0])/\kN x y/\fD y/\Mem w w' (jF y)
def zfq (w:World) (s:bE) (r:Ending) (w':World):Prop:=∃(gm:Nat) (y:aF),r= .returned (.tuple #[.pointer (some ⟨gm,0,none⟩),.int .i64 0])/\y.av=s/\Mem w w' (mU gm y)
def Ir (w:World) (r:Ending) (w':World):Prop:=r= .returned (.tuple #[.pointer none,.int .i64 2])/\Below w.heap.size w w'
def og (w:World) (b:Bool) (s:bE) (r:Ending) (w':World):Prop:=if b=true then zfq w s r w' else Ir w r w'
def zc5 {w':World} {b:Bool} {s:bE} (h:b=false) (hb:Below w.heap.size w w'):og w b s (.returned (.tuple #[.pointer none,.int .i64 2])) w':=by
 unfold og
 rw [if_neg (by rw [h];decide)]
 exact ⟨rfl,hb⟩
def q7e {w':World} {b:Bool} {gm:Nat} {y:aF} (h:b=true) (hs:y.av=s) (hm:Mem w w' (mU gm y)):og w b s (.returned (.tuple #[.pointer (some ⟨gm,0,none⟩),.int .i64 0])) w':=by
 unfold og
 rw [if_pos h]
 exact ⟨gm,y,rfl,hs,hm⟩
section
variable {W w w':World} {F T fs gs:List Fact} {x y:aF} {gm:Nat}
theorem Mem.Iu (n:Nat) (h:Mem W w F) (a:F.drop n=mU gm x++T):eU w x:=h.tL n a ⟨rfl,rfl,rfl,rfl,rfl⟩
theorem Mem.Dc (n:Nat) (h:Mem W w F) (a:F.drop n=mU gm x++T):w.heap[gm]?=some (.cells #[.int .i64 x.au,.int .u64 (x.aj:Int),.slice x.gA (abn x.gs) x.gc,.slice x.lA (abn x.cl) x.lc,.slice x.uA (abn x.cu) x.uc,.slice x.tA (abn x.ts) x.tc,.slice x.sA (abn x.rs) x.sc,.bool true] 273 (0,0)):=h.nZ n a ⟨rfl,rfl,rfl,rfl,rfl⟩
theorem Mem.zkz (h:Mem W w fs) {g:Nat} {C ds:Array Value} {t:TypeId} (hb:W.heap[g]?=some (.cells C t (0,0))) (b:C.toList.take ds.size=ds.toList):w.rangeAt g 0 ds.toList:=λj u a=>by
 have c:=h.znk hb
 refine c j u ?_
 rw [<-b,List.getElem?_take] at a
 split at a
 ·exact a
 ·cases a
def aaN (h:Mem W w fs) (k:Mem w w' gs):Mem W w' gs:=(h.pW k).iP (abn fs) (by rw [afj])
end
def q7f {α:Type} (f:α->List Value) (sz:Nat) (a:∀x,abn (f x)=sz) (g:0<sz) (z:α) (m:Nat):(madeCells (f z).toArray (m*sz)).toList=(abD m z).flatMap f:=by
 unfold madeCells
 have d:abn ((abD m z).flatMap f)=m*sz:=by rw [qQ f sz a,ab2]
 refine afz (by rw [d];simp) λi k e=>?_
 have h:i<m*sz:=by rw [<-d];exact e
 have j:i/sz<abn (abD m z):=by rw [ab2];exact Nat.div_lt_of_lt_mul (by rw [ahe];exact h)
 have c:=adW i g
 have b:=Dx f sz a (abD m z) (i/sz) (i%sz) j c
 rw [show i/sz*sz+i%sz=i by rw [ahe];exact Nat.div_add_mod i sz,abq e,List.getElem_replicate] at b
 rw [abq (by rw [a];exact c)] at b
 injection b with b
 rw [b]
 simp [a]
 rw [abq (by rw [a];exact c)]
 rfl
def ziy (m:Nat):(madeCells (Value.agg #[.int .u64 0,.int .u32 0,.int .u64 0]).cells (m*3)).toList=(abD m Sp.zero).flatMap jk:=q7f jk 3 (λ_=>rfl) de Sp.zero m
def q7g (m:Nat):(madeCells #[.int .i64 0] (m*1)).toList=(abD m (0:Int)).map aX:=qx9 aX 0 m
def q7h (x:aF) (d:Nat) (w:World) (f:bY x) (g:eU w x) (hm:w.heap[d]?=some (.cells #[vI x.au,vQ x.aj,abk x.gA x.gs x.gc,abk x.lA x.cl x.lc,abk x.uA x.cu x.uc,abk x.tA x.ts x.tc,abk x.sA x.rs x.sc,.bool true] 273 (0,0))):
    Calls abo 103 #[vP d 0] w (q7d w x):=by
 refine (eF Tryz.func103 19) ?_
 refine (JP∘JA aiD) λl j=>(bM 1∘bN 1∘Jy (v:= .bool false) (h:=by exact aaF rfl rfl rfl)∘Jp 2∘Jn∘Jf 7∘Jy (v:= .bool true) (h:=by exact Pd rfl rfl kr (λ_ h=>h.mG hm rfl))∘Jp 2∘aH∘Jj∘aU∘aJ 1∘Jn∘Jf 0∘Jy (v:= .agg x.cells) (h:=by exact Pe rfl rfl gG rfl (λ_ h=>h.zkz hm rfl))∘JL (h:=by exact λb=>qnw x _ (g.old b) (f))) ?_
 rintro b _ k ⟨y,rfl,heq,c,hm⟩
 refine ⟨_,rfl,_,(show Mem w _ (.blk j aiD 48::jF y) from b.pW hm),?_⟩
 refine (JV gG aO (h1:=by exact Y8 y)) λe=>(Jp 1∘kW∘aP) λa Z b=>?_
 exact dI rfl Z (.cellS (i:=0) Z b rfl rfl gG rfl) (.tmp Z rfl) (⟨y,rfl,heq,c,b.pt 1 []⟩)
def ziz {cp:Int} {cr gc:Nat} {gA:Option Addr} {gs:List Gr} (a:abn gs<=1000000):bY (⟨cp,cr,gA,gc,gs,none,0,[],none,0,[],none,0,[],none,0,[]⟩:aF):=⟨a,abA _,abA _,abA _,abA _,λy b=>by cases b⟩
def zmi {cp:Int} {cr gc:Nat} {gs:List Gr} (hr:Rd w w.heap.size 2 gA (abn gs) (gs.flatMap fC)):eU w (⟨cp,cr,gA,gc,gs,none,0,[],none,0,[],none,0,[],none,0,[]⟩:aF):=⟨hr,Rd.nil,Rd.nil,Rd.nil,Rd.nil,λy a=>by cases a⟩
theorem zmj {a:List Sp} {cr gc c m g:Nat} {gs:List Gr} (b:Mem W w F) (hr:Rd W W.heap.size 2 gA (abn gs) (gs.flatMap fC)) {q:Nat} (d:abn z=q) (i j k n:Nat) (h1:F[i]?=some (.row (.slice (some ⟨m,0,none⟩) (abn a) (abn a)) (abn a) ((abD (abn a) (0:Int)).map aX) 3 1)) (e:F[j]?=some (.row (.slice (some ⟨g,0,none⟩) (abn a) (abn a)) (abn a) ((abD (abn a) (0:Int)).map aX) 3 1)) (f:F[k]?=some (.row (.slice A q c) q (z.map aac) 176 1)) (h:F.drop n=kY 200 z):eU w (⟨(abn a:Int),cr,gA,gc,gs,some ⟨m,0,none⟩,abn a,(abD (abn a) (0:Int)),some ⟨g,0,none⟩,abn a,(abD (abn a) (0:Int)),none,0,[],A,c,z⟩:aF):=
 ⟨b.old hr,by show Rd w _ 1 _ (adZ _) _;rw [ab2];exact b.rd h1,by show Rd w _ 1 _ (adZ _) _;rw [ab2];exact b.rd e,Rd.nil,by show Rd w _ 1 _ (abn z) _;rw [d];exact b.rd f,λy l=>b.jT (List.mem_of_mem_drop (h▸ZR l))⟩
def zi0 {a:List Sp} {cr gc c m g:Nat} {gA A:Option Addr} {gs:List Gr} (hr:abD (abn a) Sp.zero=a) (hk:abn z=abn gs) (hz:∀q∈z,q.l=a):(⟨(abn a:Int),cr,gA,gc,gs,some ⟨m,0,none⟩,abn a,(abD (abn a) (0:Int)),some ⟨g,0,none⟩,abn a,(abD (abn a) (0:Int)),none,0,[],A,c,z⟩:aF).av=newS (abn a:Int) cr gs:=by
 have d:z.map aeR=abD (abn gs) a:=by
  rw [List.eq_replicate_iff]
  refine ⟨by rw [abx];exact hk,λb e=>?_⟩
  obtain ⟨q,f,rfl⟩:=ab0.1 e
  exact hz q f
 unfold aF.av newS
 dsimp only
 rw [d,abE,hr]
abbrev ahB {α:Type}:=λa b c d e f g (h:List α) i j=>(.row (vS a b b) b c 3 1::.row (vS d b b) b c 3 1::.blk e #[vI b,vQ f,abk g h i] 44::j:List Fact)
abbrev ahZ {α:Type}:=λa b c (d:List α) e f g=>((8,.agg #[vI a,vQ b,abk c d e])::(7,.bool false)::(3,vI 0)::(2,.pointer none)::(1,vP f 0)::(0,.agg #[vI a,vQ b,abk c d e])::g:List (Nat×Go.Value))
abbrev aip {α:Type}:=λa (b:Nat) c d (e:List α) f g h i j k=>(.blk a #[vI b,vQ c,abk d e f,vS g b b,vS h b b,vN,.slice i j k] 48:Fact)
abbrev ait {α:Type}:=λa b c d e f g (h:List α) i j=>(.blk a #[vI 0,vQ 0,vN,vN,vN,vN,vN] 48::.row (vS b c c) c d 3 1::.blk e #[vI c,vQ f,abk g h i] 44::j:List Fact)
def zi1 (cp:Int) (cr:Nat) (gA:Option Addr) (gc:Nat) (gs:List Gr) (w:World) (O:(⟨cp,cr,gA,gc,gs,none,0,[],none,0,[],none,0,[],none,0,[]⟩:aF).av.Ok) (Y:abn gs<=1000000) (hr:Rd w w.heap.size 2 gA (abn gs) (gs.flatMap fC)):
    Calls abo 99 #[.agg #[vI cp,vQ cr,.slice gA (abn gs) gc]] w (og w (fU (⟨cp,cr,gA,gc,gs,none,0,[],none,0,[],none,0,[],none,0,[]⟩:aF).av) (newS cp cr gs)):=by
 have aoc:=O.aj
 refine (eF Tryz.func99 34) ?_
 refine (JP∘JE) λw1 p=>(bM 2∘JQ∘JP∘dZ yJ O0∘JI (h:=by exact λc=>Zx (⟨cp,cr,gA,gc,gs,none,0,[],none,0,[],none,0,[],none,0,[]⟩:aF) O (ziz Y) _ (zmi (c.old hr)))) λw6 hbw=>(Jp 1∘bQ∘Jj) (Ju (λA=>?_) λA=>?_)
 ·
  exact (JT∘bF 2∘bO) λc=>zc5 (by simpa using A) c.below
 obtain ⟨B,C,_,J⟩:=mI (x:=(⟨cp,cr,gA,gc,gs,none,0,[],none,0,[],none,0,[],none,0,[]⟩:aF)) (by simpa using A)
 replace B:1<=cp:=B;replace C:cp<=64:=C;replace J:dF gs=true:=J
 have hgl:=(qw J).2.1
 have P:fU (⟨cp,cr,gA,gc,gs,none,0,[],none,0,[],none,0,[],none,0,[]⟩:aF).av=true:=by simpa using A
 obtain ⟨b,D⟩:∃l:List Sp,abD cp.toNat Sp.zero=l:=⟨_,rfl⟩
 obtain rfl:cp=(abn b:Int):=by rw [<-D,ab2];omega
 have Q:abD (abn b) Sp.zero=b:=D
 refine (aU) λa Z c=>?_
 refine wp_seq ?_
 refine Jb Z c ((Vs .n [9]) λwd3=>λa Z c j=>?_)
 refine EY (f:=0) (l:=(bt 10 [])) (λt u=>∃(d:Nat) (e:Nat) (g:Nat),Fr t 34 [] [(4,vP g 0),(7,.bool false),(3,vI 0),(2,.pointer none),(1,vP p 0),(0,.agg #[vI (abn b),vQ cr,abk gA gs gc])]/\Mem w u (.blk g #[vI (abn b),vQ cr,abk gA gs gc,vS d (abn b) (abn b),vS e (abn b) (abn b),vN,vN] 48::ahB e (abn b) ((madeCells #[vI 0] (abn b*1)).toList) d p cr gA gs gc [])) ?_ λE=>?_
 ·
  clear Z c j;rintro a V ⟨d,e,g,Z,c⟩
  refine qe kr ?_
  rw [q7g] at c
  replace c:=c.nil 176 1
  replace c:=c.ow 200 3
  replace c:Mem w _ (.row (vN) 0 [] 176 1::.blk g #[vI (abn b),vQ cr,abk gA gs gc,vS d (abn b) (abn b),vS e (abn b) (abn b),vN,vN] 48::ahB e (abn b) ((abD (abn b) (0:Int)).map aX) d p cr gA gs gc (kY 200 [])):=c
  refine Jb Z c ((JQ∘JP∘Jg 2 O4∘Jl∘bM 1∘JB) λa Z c=>?_)
  refine qg (λmS t u=>∃(k:Nat) (z:List Rw) (R:Option Addr) (N:Nat),(k<=abn gs)/\(abn z=k)/\(∀q∈z,q.l=b)/\(k<=N)/\mS=abn gs-k/\Fr t 34 [] (ahK 19 k 18 (abn gs) [(4,vP g 0),(7,.bool false),(3,vI 0),(2,.pointer none),(1,vP p 0)])/\Mem w u (.row (.slice R k N) k (z.map aac) 176 1::aip g (abn b) cr gA gs gc d e R k N::ahB e (abn b) ((abD (abn b) (0:Int)).map aX) d p cr gA gs gc (kY 200 z))) (m:=abn gs-0) ⟨0,[],none,0,abA _,rfl,(λq h=>by cases h),abr _,rfl,Z.sub kr,c.pt 5 [0,1,2,3,4]⟩ ?_
  clear Z c;rintro mS a w_ ⟨k,z,R,N,hk,K,hz,hcs,rfl,Z,c⟩
  refine Jb Z c ((cO 1∘JQ) (Ji (λS=>?_) λS=>?_))
  ·
   refine (eO∘Vs (.f .n) [8]) λGb=>(Vf 0 6∘Vf 2 0∘Vc 1 O0∘Vc 3 O3) λa Z c j=>?_
   refine s_on Z 4 rfl ?_
   refine xw Z c (m:=abn b) rfl lV rfl rfl om om rfl de ?_
   clear Z c;intro a w25 o Z c
   refine ay (c.pt 6 [2,3,4,5]) (λj=>?_)
   refine s_on Z 5 rfl (jl Z c nY [(0,vS o (abn b) (abn b))] #[vS o (abn b) (abn b)] ?_)
   clear Z c;intro a M0 g26 Z c
   refine ay (c.pt 7 [3,4,5,6]) (λj=>?_)
   refine s_on Z 6 rfl (qV Z c (i:=2) rfl nY rfl rfl rfl (news:=([(⟨some ⟨o,0,none⟩,abn b,b⟩:Rw)].map aac)) (c.bB (i:=0) (n:=1) (size:=1) rfl rfl) (ZU _) om om rfl de ?_)
   clear Z c;intro a Hl r s Z c T
   refine ay (c.pt 7 [3,4,5,6]) (λj=>?_)
   refine Vb Z c j ((Vf 7 6) λa Z c j=>?_)
   refine s_on Z 8 rfl (eG Z c 3 λCJ c=>?_)
   refine dN kr ?_
   refine qe kr ?_
   replace c:=c.dw (i:=1) (ys:=b.flatMap jk) rfl ((ziy _).trans (by rw [Q]))
   replace c:=c.dw (i:=2) (ys:=(z++[(⟨some ⟨o,0,none⟩,abn b,b⟩:Rw)]).map aac) rfl (by rw [abU])
   replace c:=c.pt (fs':=(.row (vS o (abn b) (abn b)) (abn b) (b.flatMap jk) 200 3::.row (.slice r (k+1) s) (k+1) ((z++[(⟨some ⟨o,0,none⟩,abn b,b⟩:Rw)]).map aac) 176 1::aip g (abn b) cr gA gs gc d e r (k+1) s::ahB e (abn b) ((abD (abn b) (0:Int)).map aX) d p cr gA gs gc (kY 200 z))) 7 [1,2,3,4,5,6]
   replace c:=aaA (fs:=(.row (.slice r (k+1) s) (k+1) ((z++[(⟨some ⟨o,0,none⟩,abn b,b⟩:Rw)]).map aac) 176 1::aip g (abn b) cr gA gs gc d e r (k+1) s::ahB e (abn b) ((abD (abn b) (0:Int)).map aX) d p cr gA gs gc [])) c
   replace c:Mem w _ (.row (.slice r (k+1) s) (k+1) ((z++[(⟨some ⟨o,0,none⟩,abn b,b⟩:Rw)]).map aac) 176 1::aip g (abn b) cr gA gs gc d e r (k+1) s::ahB e (abn b) ((abD (abn b) (0:Int)).map aX) d p cr gA gs gc (kY 200 (z++[(⟨some ⟨o,0,none⟩,abn b,b⟩:Rw)]))):=c
   refine Jb Z c ((JG∘JR∘dx 1∘Jp 1∘aH∘Jq) λa Z c=>?_)
   exact ⟨_,om,k+1,(z++[(⟨some ⟨o,0,none⟩,abn b,b⟩:Rw)]),r,s,by omega,by rw [abp,K];rfl,λq h=>(ab6.1 h).elim (hz q) (λh=>by rw [agc] at h;subst h;rfl),T,rfl,Z.sub kr,c.pt 5 [0,1,2,3,4]⟩
  have W:abn z=abn gs:=by omega
  refine (JF∘JX∘JG∘JP∘dZ gG O1∘Jo (.agg ((⟨(abn b:Int),cr,gA,gc,gs,some ⟨d,0,none⟩,abn b,(abD (abn b) (0:Int)),some ⟨e,0,none⟩,abn b,(abD (abn b) (0:Int)),none,0,[],R,N,z⟩:aF).cells)) (by unfold aF.cells;rw [ab2,K];try rfl)∘JL (h:=by exact λc=>qnw (⟨(abn b:Int),cr,gA,gc,gs,some ⟨d,0,none⟩,abn b,(abD (abn b) (0:Int)),some ⟨e,0,none⟩,abn b,(abD (abn b) (0:Int)),none,0,[],R,N,z⟩:aF) _ (zmj c hr K 3 2 0 5 rfl rfl rfl rfl) (⟨Y,by rw [ab2];omega,by rw [ab2];omega,abA _,by show abn z<=1000000;omega,λq hq=>by rw [hz q hq];omega⟩))) ?_
  rintro c _ Gc ⟨y,rfl,heq,hcap,hm⟩
  refine ⟨_,rfl,_,(aaN c hm),?_⟩
  exact (eH #[vI y.au,vQ y.aj,abk y.gA y.gs y.gc,abk y.lA y.cl y.lc,abk y.uA y.cu y.uc,abk y.tA y.ts y.tc,abk y.sA y.rs y.sc,.bool true]∘JE) λLH g33=>(bM 2∘JZ∘bO) λc=>q7e (y:=y) P ((MF heq).trans (zi0 Q W hz)) (c.pt 1 [0])
 refine EY (f:=2) (l:=(bt 10 [7,9])) (λt u=>∃(d:Nat) (g:Nat) (e:Nat),Fr t 34 [] ((14,vS e (abn b) (abn b))::(4,vP g 0)::(11,vS d (abn b) (abn b))::ahZ (abn b) cr gA gs gc p [])/\Mem w u (.row (vS e (abn b) (abn b)) (abn b) ((madeCells #[vI 0] (abn b*1)).toList) 3 1::ait g d (abn b) ((madeCells #[vI 0] (abn b*1)).toList) p cr gA gs gc [])) ?_ λF=>?_
 ·
  clear Z c j;rintro a V ⟨d,g,e,Z,c⟩
  have j:=c.pk (fs':=[.blk p #[vI (abn b),vQ cr,abk gA gs gc] 44]) [3]
  refine Vb Z c j ((Vy 7 (v:= .agg #[vI (abn b),vQ cr,abk gA gs gc,vS d (abn b) (abn b),vS e (abn b) (abn b),vN,vN]) (h:=by exact Yl.build (vs:=[(0,.agg #[vI (abn b),vQ cr,abk gA gs gc]),(1,vS d (abn b) (abn b)),(2,vS e (abn b) (abn b))]) rfl kr kr)) λa Z c j=>?_)
  refine s_on Z 9 rfl (bT Z c 1 rfl rfl rfl rfl rfl gG rfl rfl (by simp [abR]) λU c=>?_)
  refine dN kr ?_
  exact E _ _ ⟨d,e,g,Z.sub kr,c.pk [1,0,2,3]⟩
 refine EY (f:=3) (l:=(bt 10 [7,8,9])) (λt u=>∃(d:Nat) (e:Nat),Fr t 34 [] ((14,vS e (abn b) (abn b))::(11,vS d (abn b) (abn b))::ahZ (abn b) cr gA gs gc p [])/\Mem w u (ahB e (abn b) ((madeCells #[vI 0] (abn b*1)).toList) d p cr gA gs gc [])) ?_ λG=>?_
 ·
  clear Z c j;rintro a V ⟨d,e,Z,c⟩
  have j:=c.pk (fs':=[.blk p #[vI (abn b),vQ cr,abk gA gs gc] 44]) [2]
  refine Vb Z c j ((Vy 7 (v:= .agg #[vI (abn b),vQ cr,abk gA gs gc,vS d (abn b) (abn b),vS e (abn b) (abn b),vN,vN]) (h:=by exact Yl.build (vs:=[(0,.agg #[vI (abn b),vQ cr,abk gA gs gc]),(1,vS d (abn b) (abn b)),(2,vS e (abn b) (abn b))]) rfl kr kr)∘VA 8 (.f (.f .n)) aiD) λX g=>λa Z c j=>?_)
  refine s_on Z 9 rfl (bT Z c 0 rfl rfl rfl rfl rfl gG rfl rfl (by simp [abR]) λU c=>?_)
  refine dN kr ?_
  exact E _ _ ⟨d,e,g,Z.sub kr,c.pk [0,1,2,3]⟩
 refine EY (f:=3) (l:=(bt 10 [6,7,9])) (λt u=>∃(d:Nat) (g:Nat),Fr t 34 [] ((4,vP g 0)::(11,vS d (abn b) (abn b))::(13,vI (abn b))::ahZ (abn b) cr gA gs gc p [])/\Mem w u (ait g d (abn b) ((madeCells #[vI 0] (abn b*1)).toList) p cr gA gs gc [])) ?_ λH=>?_
 ·
  clear Z c j;rintro a V ⟨d,g,Z,c⟩
  have j:=c.pk (fs':=[.blk p #[vI (abn b),vQ cr,abk gA gs gc] 44]) [2]
  refine s_on Z 6 rfl ?_
  refine xw Z c (m:=abn b) rfl kE rfl rfl om om rfl de ?_
  clear Z c;intro a L e Z c
  refine ay (c.pk [3]) (λj=>?_)
  exact F _ _ ⟨d,g,e,Z.sub kr,c.pk [0,1,2,3]⟩
 refine EY (f:=3) (l:=(bt 10 [3,7,9])) (λt u=>∃(e:Nat) (g:Nat),Fr t 34 [] ((4,vP g 0)::(14,vS e (abn b) (abn b))::(10,vI (abn b))::ahZ (abn b) cr gA gs gc p [])/\Mem w u (ait g e (abn b) ((madeCells #[vI 0] (abn b*1)).toList) p cr gA gs gc [])) ?_ λI=>?_
 ·
  clear Z c j;rintro a V ⟨e,g,Z,c⟩
  have j:=c.pk (fs':=[.blk p #[vI (abn b),vQ cr,abk gA gs gc] 44]) [2]
  refine s_on Z 3 rfl ?_
  refine xw Z c (m:=abn b) rfl kE rfl rfl om om rfl de ?_
  clear Z c;intro a M d Z c
  refine ay (c.pk [3]) (λj=>?_)
  exact F _ _ ⟨d,g,e,Z.sub kr,c.pk [2,1,0,3]⟩
 refine Vb Z c j ((Vf 1 0∘Vf 4 0∘nH 0 yJ O0∘Vc 2 O0∘Vc 5 O0) λa Z c j=>?_)
 refine zd [3,6,8] kr rfl ?_
 refine all_cons ?_ ?_
 ·refine qq Z (i:=3) rfl rfl ?_
  refine xw Z c (m:=abn b) rfl kE rfl rfl om om rfl de ?_
  clear Z c;intro a M d Z c
  refine ay (c.pk [1]) (λj=>?_)
  refine zd [6,8] kr rfl ?_
  refine all_cons ?_ ?_
  ·refine qq Z (i:=6) rfl rfl ?_
   refine xw Z c (m:=abn b) rfl kE rfl rfl om om rfl de ?_
   clear Z c;intro a L e Z c
   refine ay (c.pk [2]) (λj=>?_)
   exact G _ _ ⟨d,e,Z.sub kr,c.pk [0,1,2]⟩
  refine all_cons ?_ all_nil
  refine qq Z (i:=8) rfl rfl ?_
  refine gZ Z c aiD ?_
  clear Z c;intro a X g Z c
  refine ay (c.pk [2]) (λj=>?_)
  exact H _ _ ⟨d,g,Z.sub kr,c.pk [0,1,2]⟩
 refine all_cons ?_ ?_
 ·refine qq Z (i:=6) rfl rfl ?_
  refine xw Z c (m:=abn b) rfl kE rfl rfl om om rfl de ?_
  clear Z c;intro a L e Z c
  refine ay (c.pk [1]) (λj=>?_)
  refine zd [3,8] kr rfl ?_
  refine all_cons ?_ ?_
  ·refine qq Z (i:=3) rfl rfl ?_
   refine xw Z c (m:=abn b) rfl kE rfl rfl om om rfl de ?_
   clear Z c;intro a M d Z c
   refine ay (c.pk [2]) (λj=>?_)
   exact G _ _ ⟨d,e,Z.sub kr,c.pk [1,0,2]⟩
  refine all_cons ?_ all_nil
  refine qq Z (i:=8) rfl rfl ?_
  refine gZ Z c aiD ?_
  clear Z c;intro a X g Z c
  refine ay (c.pk [2]) (λj=>?_)
  exact I _ _ ⟨e,g,Z.sub kr,c.pk [0,1,2]⟩
 refine all_cons ?_ all_nil
 refine qq Z (i:=8) rfl rfl ?_
 refine gZ Z c aiD ?_
 clear Z c;intro a X g Z c
 refine ay (c.pk [1]) (λj=>?_)
 refine zd [3,6] kr rfl ?_
 refine all_cons ?_ ?_
 ·refine qq Z (i:=3) rfl rfl ?_
  refine xw Z c (m:=abn b) rfl kE rfl rfl om om rfl de ?_
  clear Z c;intro a M d Z c
  refine ay (c.pk [2]) (λj=>?_)
  exact H _ _ ⟨d,g,Z.sub kr,c.pk [1,0,2]⟩
 refine all_cons ?_ all_nil
 refine qq Z (i:=6) rfl rfl ?_
 refine xw Z c (m:=abn b) rfl kE rfl rfl om om rfl de ?_
 clear Z c;intro a L e Z c
 refine ay (c.pk [2]) (λj=>?_)
 exact I _ _ ⟨e,g,Z.sub kr,c.pk [1,0,2]⟩
structure dH where
 au:Nat
 groups:Nat
 aj:Nat
 ps:List Nat
 ws:List Nat
def dH.cells (n:dH):Array Value:=(.int .u8 (n.au:Int):: .int .u8 (n.groups:Int):: .int .u32 (n.aj:Int)::(n.ps.map (λz:Nat=>abO .u8 (z:Int))++n.ws.map (λz:Nat=>abO .u16 (z:Int)))).toArray
structure dH.Ok (n:dH):Prop where
 au:n.au<256
 groups:n.groups<256
 aj:n.aj<4294967296
 pl:abn n.ps=5
 wl:abn n.ws=5
 ps:∀z∈n.ps,z<256
 ws:∀z∈n.ws,z<65536
section
variable {n:dH} {i g:Nat} {gs:List Gr} {ds:List Nat} {x:Gr}
theorem dH.Iw (h:n.Ok) (hi:i<5):n.cells[3+i*1]?=some (.int .u8 (n.ps.getD i 0:Int))/\n.ps.getD i 0<256:=by
 have a:i<abn n.ps:=by rw [h.pl];exact hi
 refine ⟨?_,h.ps _ (qf 0 a)⟩
 grind [dH.cells,getD_at]
theorem dH.Df (h:n.Ok) (hi:i<5):n.cells[8+i*1]?=some (.int .u16 (n.ws.getD i 0:Int))/\n.ws.getD i 0<65536:=by
 have a:i<abn n.ws:=by rw [h.wl];exact hi
 refine ⟨?_,h.ws _ (qf 0 a)⟩
 rw [acX,show 8+i=(5+i)+3 by omega]
 rw [<-aez]
 unfold dH.cells
 dsimp only
 rw [adQ,adQ,adQ,adK (by rw [abx,h.pl];omega),abx,h.pl,Nat.add_sub_cancel_left,ac0,getD_at 0 a]
 rfl
def fH (ps ws:List Nat):Nat->List Gr×List Nat
 |0=>([⟨0,1⟩],[0])
 |i+1=>
  let q:=fH ps ws i
  let u:=ps.getD i 0%abn q.1
  let up:=if q.2.getD u 0=4 then 0 else u
  (q.1++[⟨(up:Int),((1+ws.getD i 0:Nat):Int)⟩],q.2++[q.2.getD up 0+1])
def qya:∀(f g:Nat),g<abn gs->(∀i,0<i->i<=g->d9 gs i)->jy (gs++[x]) f g=jy gs f g
 |0,_,_,_=>rfl
 | f + 1, g, b, a => by
  rw [jy,jy]
  split
  ·rfl
  ·rename_i d
   have c:=a g om (abr _)
   unfold d9 at c
   rw [abt,adO b,<-abt]
   rw [qya f _ om (λi hi e=>a i hi om)]
theorem Nb {α:Type} {l:List α} {x d:α} {g:Nat} (a:g<abn l):(l++[x]).getD g d=l.getD g d:=by grind
theorem qss {α:Type} {l:List α} {x d:α}:(l++[x]).getD (abn l) d=x:=by grind
structure jm (gs:List Gr) (ds:List Nat):Prop where
 len:abn ds=abn gs
 ok:dF gs=true
 dep:∀g,g<abn gs->ds.getD g 0=iV gs g
def qyb:jm [⟨0,1⟩] [0]:=⟨rfl,by decide,λg a=>by
 obtain rfl:g=0:=by simp at a;omega
 rfl⟩
theorem jm.le (h:jm gs ds) (b:g<abn gs):ds.getD g 0<=4:=by
 rw [h.dep g b]
 have a:=(qw h.ok).2.2.2 g b
 unfold pO at a
 rw [Bool.or_eq_true,beq_iff_eq,decide_eq_true_eq] at a
 rcases a with rfl|a
 ·exact abA _
 ·exact a.2.2.2
theorem jm.snoc {up w:Nat} (h:jm gs ds) (k:up<abn gs) (p:ds.getD up 0<4) (q:w<65536) (r:abn gs<256):jm (gs++[⟨(up:Int),((1+w:Nat):Int)⟩]) (ds++[ds.getD up 0+1]):=by
 obtain ⟨s,t,l,u⟩:=qw h.ok
 have a:abn (gs++[(⟨(up:Int),((1+w:Nat):Int)⟩:Gr)])=abn gs+1:=by rw [abp];rfl
 have m:∀g,g<abn gs->∀i,0<i->i<=g->d9 gs i:=λg c=>yK h.ok c
 have b:∀g,g<abn gs->iV (gs++[⟨(up:Int),((1+w:Nat):Int)⟩]) g=iV gs g:=λg c=>qya g g c (m g c)
 have d:(gs++[(⟨(up:Int),((1+w:Nat):Int)⟩:Gr)]).getD (abn gs) Gr.zero=⟨(up:Int),((1+w:Nat):Int)⟩:=qss
 have j:∀i,0<i->i<=abn gs->d9 (gs++[⟨(up:Int),((1+w:Nat):Int)⟩]) i:=λi hi o=>by
  grind [d9,Nb]
 have e:iV (gs++[⟨(up:Int),((1+w:Nat):Int)⟩]) (abn gs)=ds.getD up 0+1:=by
  rw [Qp j om,d]
  show iV (gs++[⟨(up:Int),((1+w:Nat):Int)⟩]) ((up:Int)).toNat+1=_
  rw [abE,b up k,h.dep up k]
 refine ⟨by rw [abp,a,h.len];rfl,?_,λg c=>?_⟩
 ·unfold dF
  rw [a,Nb om,decide_eq_true ⟨by omega,by omega,l⟩,ab8]
  refine vD λg c=>?_
  grind [pO,Nb,l9]
 ·rw [a] at c
  rcases ab5 g (abn gs) with f|f
  ·rw [Nb (by rw [h.len];exact f),b g f,h.dep g f]
  ·obtain rfl:g=abn gs:=by omega
   rw [e,<-h.len,qss]
theorem q7i {ps ws:List Nat} (e:∀z∈ws,z<65536):∀i,i<=5->jm (fH ps ws i).1 (fH ps ws i).2/\(fH ps ws i).1.length=i+1
 |0,_=>⟨qyb,rfl⟩
 | i + 1, hi => by
  obtain ⟨a,f⟩:=q7i (ps:=ps) e i om
  have d:ps.getD i 0% (fH ps ws i).1.length<(fH ps ws i).1.length:=adW _ om
  have b:ws.getD i 0<65536:=by
   grind [qf]
  have j:(fH ps ws i).2.getD 0 0=0:=by rw [a.dep 0 om];rfl
  have key:∀up,up<(fH ps ws i).1.length->(fH ps ws i).2.getD up 0<4->jm ((fH ps ws i).1++[⟨(up:Int),((1+ws.getD i 0:Nat):Int)⟩]) ((fH ps ws i).2++[(fH ps ws i).2.getD up 0+1]):=λup h c=>a.snoc h c b om
  rw [fH]
  dsimp only
  refine ⟨?_,by rw [abp,f];rfl⟩
  by_cases c:(fH ps ws i).2.getD (ps.getD i 0% (fH ps ws i).1.length) 0=4
  ·grind
  ·rw [if_neg c];exact key _ d (by have:=a.le d;omega)
def qnx {ps ws:List Nat} {u up:Nat} (b:fH ps ws i=(gs,ds)) (c:ps.getD i 0%abn gs=u) (a:(if ds.getD u 0=4 then 0 else u)=up):fH ps ws (i+1)=(gs++[⟨(up:Int),((1+ws.getD i 0:Nat):Int)⟩],ds++[ds.getD up 0+1]):=by
 rw [fH,b]
 dsimp only
 rw [c,a]
end
def dH.gs (n:dH):List Gr:=(fH n.ps n.ws (n.groups%6)).1
def dH.cp (n:dH):Nat:=1+n.au%4
theorem dH.right {n:dH} (h:n.Ok):dF n.gs=true/\abn n.gs=n.groups%6+1:=by
 have:=q7i (ps:=n.ps) h.ws (n.groups%6) om
 exact ⟨this.1.ok,this.2⟩
def bK.zero:bK:=⟨0,0,0,0,0,0,0,0⟩
def rF (x:bK):List Value:=x.cells.toList
def zi2 (x:bK):abn (rF x)=8:=rfl
theorem q7j (l:List bK):∀u∈l.flatMap rF,u.oneCell'=true:=by
 intro u a
 obtain ⟨x,_,b⟩:=acw.1 a
 exact Z7 x u b
structure iY where
 kind:Nat
 cpu:Nat
 task:Nat
 group:Nat
 to:Nat
 weight:Nat
 ticks:Nat
 mask:Nat
structure iY.Ok (x:iY):Prop where
 kind:x.kind<256
 cpu:x.cpu<256
 task:x.task<256
 group:x.group<256
 to:x.to<256
 weight:x.weight<65536
 ticks:x.ticks<4294967296
 mask:x.mask<256
def iY.zero:iY:=⟨0,0,0,0,0,0,0,0⟩
def iY.cells (x:iY):Array Value:= #[.int .u8 (x.kind:Int),.int .u8 (x.cpu:Int),.int .u8 (x.task:Int),.int .u8 (x.group:Int),.int .u8 (x.to:Int),.int .u16 (x.weight:Int),.int .u32 (x.ticks:Int),.int .u8 (x.mask:Int)]
def y5 (x:iY):List Value:=x.cells.toList
def Sw (x:iY):abn (y5 x)=8:=rfl
def zi3 (x:iY):∀v∈x.cells.toList,v.oneCell'=true:=by simp [iY.cells,abR]
def jH:List Nat:=[1,1,1,2,2,3,3,4,5,5,5,5,6,6,6,6,7,8,9,10]
def iY.AB (x:iY):Nat:=if 0<x.mask%4 then (1*2^ (1+x.to%4)-1)|||1*2^ (x.cpu%4) else x.mask
def iY.op (x:iY):bK:=⟨jH.getD (x.kind%20) 0,((x.cpu%4:Nat):Int),((1+x.task%12:Nat):Int),((x.group%6:Nat):Int),((1+x.weight:Nat):Int),((x.to%4:Nat):Int),((1+x.ticks%16777216:Nat):Int),x.AB⟩
def qyc (h:k<20):(#[.int .u8 1,.int .u8 1,.int .u8 1,.int .u8 2,.int .u8 2,.int .u8 3,.int .u8 3,.int .u8 4,.int .u8 5,.int .u8 5,.int .u8 5,.int .u8 5,.int .u8 6,.int .u8 6,.int .u8 6,.int .u8 6,.int .u8 7,.int .u8 8,.int .u8 9,.int .u8 10]:Array Value)[k]?=some (.int .u8 (jH.getD k 0:Int)):=by
 have:∀k,k<20->(#[.int .u8 1,.int .u8 1,.int .u8 1,.int .u8 2,.int .u8 2,.int .u8 3,.int .u8 3,.int .u8 4,.int .u8 5,.int .u8 5,.int .u8 5,.int .u8 5,.int .u8 6,.int .u8 6,.int .u8 6,.int .u8 6,.int .u8 7,.int .u8 8,.int .u8 9,.int .u8 10]:Array Value)[k]?=some (.int .u8 (jH.getD k 0:Int)):=by
  intro k a
  match k,a with
  |0,_|1,_|2,_|3,_|4,_|5,_|6,_|7,_|8,_|9,_|10,_|11,_|12,_|13,_|14,_|15,_|16,_|17,_|18,_|19,_=>rfl
  |k+20,h=>omega
 exact this k h
def zc6 (k:Nat):jH.getD k 0<=10:=by
 rcases ab5 k 20 with h|h
 ·have:∀k,k<20->jH.getD k 0<=10:=by decide
  exact this k h
 ·rw [abt,adL h];decide
def zmk {x:iY} (h:x.Ok):x.AB<256:=by
 unfold iY.AB
 split
 ·have a:2^ (1+x.to%4)<=2^4:=adk de om
  have b:2^ (x.cpu%4)<=2^3:=adk de om
  exact Nat.or_lt_two_pow (n:=8) om om
 ·exact h.mask
theorem iY.zns {x:iY} (h:x.Ok):x.op.Ok:=by
 have a:=zc6 (x.kind%20)
 have b:=zmk h
 have c:=h.weight
 refine ⟨?_,?_,?_,?_,?_,?_,?_,?_⟩
 ·show jH.getD (x.kind%20) 0<256;omega
 ·show aW ((x.cpu%4:Nat):Int);unfold aW;omega
 ·show aW ((1+x.task%12:Nat):Int);unfold aW;omega
 ·show aW ((x.group%6:Nat):Int);unfold aW;omega
 ·show aW ((1+x.weight:Nat):Int);unfold aW;omega
 ·show aW ((x.to%4:Nat):Int);unfold aW;omega
 ·show aW ((1+x.ticks%16777216:Nat):Int);unfold aW;omega
 ·show x.AB<_;omega
def mM (l:List iY) (most:Nat):List bK:=(l.take most).map iY.op
def q7k {l:List iY} {most:Nat} (h:∀x∈l,x.Ok):∀o∈mM l most,o.Ok:=λo a=>by
 obtain ⟨x,b,rfl⟩:=ab0.1 a
 exact iY.zns (h x (acf b))
def q7l:SI abo 100 13:=⟨by kernel_rfl,by kernel_rfl⟩
def zml:EI abo 101 275 (.agg #[.int .u8 0,.int .u8 0,.int .u8 0,.int .u8 0,.int .u8 0,.int .u16 0,.int .u32 0,.int .u8 0]) 8 16:=⟨by kernel_rfl,by kernel_rfl,rfl,by omega⟩
def zfs:SI abo 275 8:=⟨by kernel_rfl,by kernel_rfl⟩
def zc7 (l:List iY) (m:Nat):abO .i64 (if ((m:Int)<(abn l:Int)) then (m:Int) else (abn l:Int))= .int .i64 ((abn (l.take m):Nat):Int):=by
 rw [abv]
 congr 1
 split<;>omega
def q7m {z:Nat} (h:z<=4):1*2^z<=18446744073709551615:=by
 have a:2^z<=2^4:=adk de h
 omega
def AJ (w:World) (cp:Int) (cr:Nat) (gs:List Gr) (r:Ending) (a:World):Prop:=(∃A c,r= .returned (.agg #[vI cp,vQ cr,.slice A (abn gs) c])/\a.ownsRow w.heap.size 198 2 (.slice A (abn gs) c) (abn gs) (gs.flatMap fC)/\abn gs<=c)/\Below w.heap.size w a
def zc8 {cp:Int} {cr k c:Nat} {gs a:List Gr} (b:gs=a) (d:abn gs=k) (e:W.ownsRow w.heap.size 198 2 (.slice A k c) k (gs.flatMap fC)) (hc:k<=c) (hb:Below w.heap.size w W):AJ w cp cr a (.returned (.agg #[vI cp,vQ cr,.slice A k c])) W:=by
 subst b
 subst d
 exact ⟨⟨A,c,rfl,e,hc⟩,hb⟩
abbrev aia:=λa b c d e f g h i j k l m n=>(.blk a #[vI b,vQ c,.slice d e f] 44::.row g e h 198 2::.blk i #[vI 0,vQ 0,vN] j::.blk k l m::n:List Fact)
def q1x (n:dH) (F:n.Ok) (w:World):
    Calls abo 100 #[.agg n.cells] w (AJ w (n.cp:Int) n.aj n.gs):=by
 have aon:=F.aj;have aoo:=F.au;have aop:=F.groups
 refine (eF Tryz.func100 63) ?_
 refine (JP∘JE) λw1 l=>(JA #[vI 0,vQ 0,vN]) λw2 H=>(Jr∘Jg 0 O1∘Jw .i64∘Jp 1∘Jo (vI (n.au%4:Nat)) (by exact ze .i64 _ 4)∘Jp 1∘Jo (vI (1+(n.au%4):Nat)) (by exact za om om)∘Jg 2 O1∘Jw .u64∘eH #[vI 0,vI 1]∘JU jh #[vI 0,vI 1]) λw16 x=>(eH #[vI (1+(n.au%4):Nat),vQ n.aj,vS x 1 1]∘JA #[vI 0,vQ 0,vN]) λw3 I=>(JV yJ aO) λT=>(aH∘Jr∘JU kE #[vI 0]) λuW K=>(Jp 1∘aK∘Jq∘JC (h:=by exact λb=>b.fu (i:=2) (n:=1) (size:=2) rfl rfl de)∘JC (h:=by exact λb=>b.fu (i:=0) (n:=1) (size:=1) rfl rfl de)∘JC (h:=by exact λb=>(show Mem w _ [.row (vS K 1 1) 1 ([0].map dM) 3 1,.blk I #[vI (1+(n.au%4):Nat),vQ n.aj,vS x 1 1] 44,.row (vS x 1 1) 1 ([(⟨0,1⟩:Gr)].flatMap fC) 198 2,.blk H #[vI 0,vQ 0,vN] 44,.blk l n.cells 100] from b))∘JG∘JQ∘JP∘Jg 1 O4∘Jw .i64∘Jp 1∘Jo (vI (n.groups%6:Nat)) (by exact ze .i64 _ 6)∘bM 1∘JB) λa Z b=>?_
 refine qg (λmS aS wS=>∃(i:Nat) (gs:List Gr) (c:List Nat) (X:Option Addr) (G:Nat) (Y:Option Addr) (R:Nat),(i<=n.groups%6)/\(fH n.ps n.ws i=(gs,c))/\(jm gs c)/\(abn gs=i+1)/\(abn c=i+1)/\(i+1<=G)/\(i+1<=R)/\mS=n.groups%6-i/\Fr aS 63 [] (ahK 23 i 22 (n.groups%6:Nat) [(4,.slice Y (i+1) R),(3,vP I 0),(2,vP H 0),(1,vP l 0)])/\Mem w wS (.row (.slice Y (i+1) R) (i+1) (c.map dM) 3 1::aia I (1+(n.au%4):Nat) n.aj X (i+1) G (.slice X (i+1) G) (gs.flatMap fC) H 44 l n.cells 100 [])) (m:=n.groups%6-0) ⟨0,[⟨0,1⟩],[0],(some ⟨x,0,none⟩),1,(some ⟨K,0,none⟩),1,abA _,rfl,qyb,rfl,rfl,abr _,abr _,rfl,Z.sub kr,b.pk [0,1,2,3,4]⟩ ?_
 clear Z b;rintro mS a w_ ⟨i,gs,c,X,G,Y,R,hi,U,A,B,L,V,hyc,rfl,Z,b⟩
 refine Jb Z b ((cO 1∘JQ) (Ji (λM=>?_) λM=>?_))
 ·
  have N:i<5:=by omega
  have hpv:=(dH.Iw F N).2
  have O:=(dH.Df F N).2
  obtain ⟨u,S⟩:∃u,n.ps.getD i 0%abn gs=u:=⟨_,rfl⟩
  have W:u<abn gs:=by rw [<-S];exact adW _ om
  have hdu:=A.le W
  obtain ⟨up,C⟩:∃z,(if c.getD u 0=4 then 0 else u)=z:=⟨_,rfl⟩
  refine (eO∘aJ 2∘aK∘Jj) λa Z b=>?_
  refine wp_seq ?_
  refine Jb Z b ((Vs .n []) λGb=>(Vp [0]∘Vf 1 3∘Vf 5 2∘Vy 2 (v:=vP l (3+i*1)) (h:=by exact (Yl.sP (ad:=⟨l,3,none⟩) (m:=5) (y:=i) (sz:=1) rfl rfl rfl kr om).as (by rw [acC]))∘Vy 3 (v:=vB (n.ps.getD i 0)) (h:=by exact Pd rfl rfl kr (λ_ h=>h.cell (i:=4) rfl (dH.Iw F om).1))∘Vw 4 .i64∘Vc 6 O1∘Vl 7∘Vy 8 (v:=vI ((n.ps.getD i 0)% (i+1):Nat)) (h:=by exact aaw (m:=(n.ps.getD i 0)) (n:=(i+1)) rfl rfl rfl om)∘Vo (vI u) (by rw [<-S,B])∘Vp [9]∘Vd∘aH∘bN 2) ?_)
  repeat (first|clear Z|clear b)
  intro a Z b
  obtain ⟨gY,rfl⟩:=b.rat 0 u
  refine Jb Z b ((nU u 1∘Jy (h:=by exact aaf 0 u 0 om rfl rfl rfl)∘Jp 1∘gq∘Jj) (Je (λP=>?_) λP=>?_))
  ·
   have d:up=0:=by rw [<-C,if_pos om]
   have hd0:c.getD 0 0=0:=by rw [A.dep 0 om];rfl
   have o:up<abn gs:=by omega
   have p:c.getD up 0<4:=by rw [d,hd0];decide
   refine (JT∘JR∘Jp 1∘Jq∘Jk 6 (vI up) (h:=by rw [d];try rfl)∘JG∘aJ 3∘nU up 1∘Jy (h:=by exact aaf 0 up 0 om rfl rfl rfl)∘dx 1∘JU kE #[vI ((c.getD up 0)+1:Nat)]) λFD q=>(JD ([c.getD up 0+1].map dM) 1 (λ_ _=>fJ) kE (hr:=by exact λb=>b.bB (i:=0) (n:=1) (size:=1) rfl rfl) (h1:=by simp [abR,dM])) λw47 e g r=>(Jp 1∘aH∘Jq∘JC (h:=by exact λb=>b.dw (i:=1) (ys:=(c++[c.getD up 0+1]).map dM) rfl (by rw [abU]))∘JC (h:=by exact λb=>(show Mem w _ (ahJ q ((c.getD up 0)+1:Nat)::.row (.slice e ((i+1)+1) g) ((i+1)+1) ((c++[c.getD up 0+1]).map dM) 3 1::aia I (1+(n.au%4):Nat) n.aj X (i+1) G (.slice X (i+1) G) (gs.flatMap fC) H 44 l n.cells 100 []) from b))∘JG∘Vs (.t (.t (.t (.f .n)))) [13]) λQ=>(Vf 0 2∘Vp [2,3]∘Vf 4 8∘Vc 1 O2∘Vy 5 (v:=vP l (8+i*1)) (h:=by exact (Yl.sP (ad:=⟨l,8,none⟩) (m:=5) (y:=i) (sz:=1) rfl rfl rfl kr om).as (by rw [acC]))∘Vy 6 (v:= .int .u16 (n.ws.getD i 0)) (h:=by exact Pd rfl rfl kr (λ_ h=>h.cell (i:=4) rfl (dH.Df F om).1))∘Vw 7 .i64∘Vp [8]∘Vo (vI (1+(n.ws.getD i 0):Nat)) (by exact za om om)∘Vy 9 (v:= .agg #[vI up,vI (1+(n.ws.getD i 0):Nat)]) (h:=by exact Yl.build (vs:=(ahK 0 up 1 (1+(n.ws.getD i 0):Nat) [])) rfl kr kr)) λa Z b D=>?_
   refine s_on Z 10 rfl (jl Z b jh [(0,.agg #[vI up,vI (1+(n.ws.getD i 0):Nat)])] #[vI up,vI (1+(n.ws.getD i 0):Nat)] ?_)
   clear Z b;intro a Gd J Z b
   refine ay (b.pk [1,2,3,5,6]) (λD=>?_)
   refine s_on Z 11 rfl (qV Z b (i:=4) rfl jh rfl rfl rfl (news:=([(⟨(up:Int),((1+n.ws.getD i 0:Nat):Int)⟩:Gr)].flatMap fC)) (b.bB (i:=0) (n:=1) (size:=2) rfl rfl) (He _) om om rfl de ?_)
   clear Z b;intro a Sy j k Z b s
   refine ay (b.pk [1,2,3,5,6]) (λD=>?_)
   refine Vb Z b D ((Vf 12 2) λa Z b D=>?_)
   refine s_on Z 13 rfl (eG Z b 3 λE b=>?_)
   refine dN kr ?_
   refine qe kr ?_
   replace b:=b.dw (i:=4) (ys:=(gs++[(⟨(up:Int),((1+n.ws.getD i 0:Nat):Int)⟩:Gr)]).flatMap fC) rfl (by rw [abX])
   replace b:Mem w _ (.blk J #[vI up,vI (1+(n.ws.getD i 0):Nat)] 198::ahJ q ((c.getD up 0)+1:Nat)::.row (.slice e ((i+1)+1) g) ((i+1)+1) ((c++[c.getD up 0+1]).map dM) 3 1::aia I (1+(n.au%4):Nat) n.aj j ((i+1)+1) k (.slice j ((i+1)+1) k) ((gs++[(⟨(up:Int),((1+n.ws.getD i 0:Nat):Int)⟩:Gr)]).flatMap fC) H 44 l n.cells 100 []):=b
   refine Jb Z b ((JG∘JR∘dx 1∘Jp 1∘aH∘Jq) λa Z b=>?_)
   exact ⟨_,om,i+1,(gs++[(⟨(up:Int),((1+n.ws.getD i 0:Nat):Int)⟩:Gr)]),(c++[c.getD up 0+1]),j,k,e,g,by omega,qnx U S C,A.snoc o p O om,by rw [abp,B];rfl,by rw [abp,L];rfl,s,r,rfl,Z.sub kr,b.pk [2,3,4,5,6]⟩
  have d:up=u:=by rw [<-C,if_neg om]
  have o:up<abn gs:=by omega
  have p:c.getD up 0<4:=by rw [d];omega
  refine (Jk 6 (vI up) (h:=by rw [d])∘aU∘aJ 3∘nU up 1∘Jy (h:=by exact aaf 0 up 0 om rfl rfl rfl)∘dx 1∘JU kE #[vI ((c.getD up 0)+1:Nat)]) λFD q=>(JD ([c.getD up 0+1].map dM) 1 (λ_ _=>fJ) kE (hr:=by exact λb=>b.bB (i:=0) (n:=1) (size:=1) rfl rfl) (h1:=by simp [abR,dM])) λw47 e g r=>(Jp 1∘aH∘Jq∘JC (h:=by exact λb=>b.dw (i:=1) (ys:=(c++[c.getD up 0+1]).map dM) rfl (by rw [abU]))∘JC (h:=by exact λb=>(show Mem w _ (ahJ q ((c.getD up 0)+1:Nat)::.row (.slice e ((i+1)+1) g) ((i+1)+1) ((c++[c.getD up 0+1]).map dM) 3 1::aia I (1+(n.au%4):Nat) n.aj X (i+1) G (.slice X (i+1) G) (gs.flatMap fC) H 44 l n.cells 100 []) from b))∘JG∘Vs (.t (.t (.t (.f .n)))) [13]) λQ=>(Vf 0 2∘Vp [2,3]∘Vf 4 8∘Vc 1 O2∘Vy 5 (v:=vP l (8+i*1)) (h:=by exact (Yl.sP (ad:=⟨l,8,none⟩) (m:=5) (y:=i) (sz:=1) rfl rfl rfl kr om).as (by rw [acC]))∘Vy 6 (v:= .int .u16 (n.ws.getD i 0)) (h:=by exact Pd rfl rfl kr (λ_ h=>h.cell (i:=4) rfl (dH.Df F om).1))∘Vw 7 .i64∘Vp [8]∘Vo (vI (1+(n.ws.getD i 0):Nat)) (by exact za om om)∘Vy 9 (v:= .agg #[vI up,vI (1+(n.ws.getD i 0):Nat)]) (h:=by exact Yl.build (vs:=(ahK 0 up 1 (1+(n.ws.getD i 0):Nat) [])) rfl kr kr)) λa Z b D=>?_
  refine s_on Z 10 rfl (jl Z b jh [(0,.agg #[vI up,vI (1+(n.ws.getD i 0):Nat)])] #[vI up,vI (1+(n.ws.getD i 0):Nat)] ?_)
  clear Z b;intro a Gd J Z b
  refine ay (b.pk [1,2,3,5,6]) (λD=>?_)
  refine s_on Z 11 rfl (qV Z b (i:=4) rfl jh rfl rfl rfl (news:=([(⟨(up:Int),((1+n.ws.getD i 0:Nat):Int)⟩:Gr)].flatMap fC)) (b.bB (i:=0) (n:=1) (size:=2) rfl rfl) (He _) om om rfl de ?_)
  clear Z b;intro a Sy j k Z b s
  refine ay (b.pk [1,2,3,5,6]) (λD=>?_)
  refine Vb Z b D ((Vf 12 2) λa Z b D=>?_)
  refine s_on Z 13 rfl (eG Z b 3 λE b=>?_)
  refine dN kr ?_
  refine qe kr ?_
  replace b:=b.dw (i:=4) (ys:=(gs++[(⟨(up:Int),((1+n.ws.getD i 0:Nat):Int)⟩:Gr)]).flatMap fC) rfl (by rw [abX])
  replace b:Mem w _ (.blk J #[vI up,vI (1+(n.ws.getD i 0):Nat)] 198::ahJ q ((c.getD up 0)+1:Nat)::.row (.slice e ((i+1)+1) g) ((i+1)+1) ((c++[c.getD up 0+1]).map dM) 3 1::aia I (1+(n.au%4):Nat) n.aj j ((i+1)+1) k (.slice j ((i+1)+1) k) ((gs++[(⟨(up:Int),((1+n.ws.getD i 0:Nat):Int)⟩:Gr)]).flatMap fC) H 44 l n.cells 100 []):=b
  refine Jb Z b ((JG∘JR∘dx 1∘Jp 1∘aH∘Jq) λa Z b=>?_)
  exact ⟨_,om,i+1,(gs++[(⟨(up:Int),((1+n.ws.getD i 0:Nat):Int)⟩:Gr)]),(c++[c.getD up 0+1]),j,k,e,g,by omega,qnx U S C,A.snoc o p O om,by rw [abp,B];rfl,by rw [abp,L];rfl,s,r,rfl,Z.sub kr,b.pk [2,3,4,5,6]⟩
 have hie:i=n.groups%6:=by omega
 have hgs:gs=n.gs:=by unfold dH.gs;rw [<-hie,U]
 refine (JF∘JX∘JG∘JP∘dZ yJ O1∘JV yJ oV) λabw=>(ny∘aP) λa Z b=>?_
 exact iM rfl Z (.cellS (i:=3) Z b rfl rfl yJ rfl) (zc8 hgs B (b.own (i:=2) rfl) V b.below)
def aaV {α:Type} {l:List α} {m:Nat}:l.take (min m (abn l))=l.take m:=by
 rcases Nat.le_total m (abn l) with h|h
 ·rw [ac4 h]
 ·rw [agM h,adr,abI h]
def qny (l:List iY) (most:Nat):abn (mM l most)=abn (l.take most):=abx ..
def q7n {e:TypeId} {q a:List bK} (h:q=a) (b:abn q=n) (d:W.ownsRow w.heap.size e 8 (.slice A n c) n (q.flatMap rF)) (hc:n<=c) (hb:Below w.heap.size w W):Db w e 8 (abn a) (a.flatMap rF) (.returned (.slice A n c)) W:=by
 subst h
 subst b
 exact ⟨⟨A,c,rfl,d,hc⟩,hb⟩
abbrev aif:=λa=>((5,vB 3)::(6,vB 3)::(7,vB 4)::(8,vB 5)::(9,vB 5)::(10,vB 5)::(11,vB 5)::(12,vB 6)::(13,vB 6)::(14,vB 6)::(15,vB 6)::(16,vB 7)::(17,vB 8)::(18,vB 9)::(19,vB 10)::a:List (Nat×Go.Value))
abbrev aix:=λa b c d e f g h i j k l m n o p=>(.blk a #[vB (jH.getD (b%20) 0),vI (c%4:Nat),vI (1+(d%12):Nat),vI (e%6:Nat),vI (1+f:Nat),vI (g%4:Nat),vI (1+(h%16777216):Nat),vQ i] 214::.blk j k 275::.row (.slice l (m+1) n) (m+1) o 214 8::p:List Fact)
abbrev aiE:Array Go.Value:=#[vB 1,vB 1,vB 1,vB 2,vB 2,vB 3,vB 3,vB 4,vB 5,vB 5,vB 5,vB 5,vB 6,vB 6,vB 6,vB 6,vB 7,vB 8,vB 9,vB 10]
def q1y (A:Option Addr) (c:Nat) (l:List iY) (most:Nat) (w:World) (Y:∀x∈l,x.Ok) (hr:Rd w w.heap.size 8 A (abn l) (l.flatMap y5)) (hc:abn l<=c) (hn:abn l<=9223372036854775807) (hm:most<=1000):
    Calls abo 101 #[abk A l c,vI most] w (Db w 214 8 (abn (mM l most)) ((mM l most).flatMap rF)):=by
 have J:abn (l.take most)<=most/\abn (l.take most)<=abn l:=by rw [abv];omega
 have r:Rd w w.heap.size 8 A (abn (l.take most)) ((l.take most).flatMap y5):=by have h:=hr.upto (k:=abn (l.take most)) om;rw [Yy y5 8 Sw,abv,aaV] at h;rw [abv];exact h
 have C:∀x∈l.take most,x.Ok:=λx B=>Y x (acf B)
 obtain ⟨e,p⟩:∃z,l.take most=z:=⟨_,rfl⟩
 rw [p] at r J C
 refine (jf Tryz.func101 79) ?_
 refine (aJ 1∘bA 1∘Jq∘JC (h:=by exact λb=>b.nil 214 8)∘JG∘bN 2∘Jl∘Jp 1∘Jy (v:=vI (if (most:Int)<(abn l:Int) then (most:Int) else (abn l:Int))) (h:=by exact Yl.min rfl rfl rfl)∘Jo (vI (abn e)) (by rw [<-p];exact zc7 l most)∘Jy (h:=by exact aag zml (j:=abn e) rfl rfl rfl om)∘Jl∘bM 1∘JB) λa Z b=>?_
 refine qg (λR aS wS=>∃(k:Nat) (q:List bK) (X:Option Addr) (I:Nat),(k<=abn e)/\(q=(e.take k).map iY.op)/\(k<=I)/\R=abn e-k/\Fr aS 79 [] (ahK 16 k 15 (abn e) [(14,abk A e c),(5,.slice X k I),(4,vN)])/\Mem w wS [.row (.slice X k I) k (q.flatMap rF) 214 8]) (m:=abn e-0) ⟨0,[],none,0,abA _,rfl,abr _,rfl,Z.sub kr,b.pk [0]⟩ ?_
 clear Z b;rintro R a w_ ⟨k,q,X,I,hk,K,L,rfl,Z,b⟩
 refine Jb Z b ((cO 1∘JQ) (Ji (λD=>?_) λD=>?_))
 ·
  have s:k<abn e:=by omega
  obtain ⟨x,B⟩:∃z,e.getD k iY.zero=z:=⟨_,rfl⟩
  have d:x.Ok:=by rw [<-B];exact C _ (qf iY.zero s)
  have hx1:=d.kind;have hx2:=d.cpu;have hx3:=d.task;have hx4:=d.group;have hx5:=d.to;have hx6:=d.weight;have hx7:=d.ticks;have hx8:=d.mask
  have hp1:1<=2^ (1+x.to%4):=Nat.one_le_two_pow
  have M:=q7m (show 1+x.to%4<=4 by omega)
  have N:=q7m (show x.cpu%4<=4 by omega)
  refine (eO∘JP) ?_
  obtain ⟨gA,oA,rfl,_⟩:=r.sat k
  refine (iC k 8∘pG iY.cells Sw r zfs k iY.zero∘Jo (.agg x.cells) (by rw [B])∘JA #[vB 0,vB 0,vB 0,vB 0,vB 0,.int .u16 0,vW 0,vB 0]) λw7 S=>(JV zfs aO (h1:=by exact zi3 x)) λT=>(bQ∘Jr∘Jg 1 O0∘Jw .i64∘Jp 1∘Jo (vI (x.cpu%4:Nat)) (by exact ze .i64 _ 4)∘Jg 2 O0∘Jw .i64∘Jp 1∘Jo (vI (x.task%12:Nat)) (by exact ze .i64 _ 12)∘Jp 1∘Jo (vI (1+(x.task%12):Nat)) (by exact za om om)∘Jg 3 O0∘Jw .i64∘Jp 1∘Jo (vI (x.group%6:Nat)) (by exact ze .i64 _ 6)∘Jg 4 O0∘Jw .i64∘Jp 1∘Jo (vI (x.to%4:Nat)) (by exact ze .i64 _ 4)∘Jg 5 O0∘Jw .i64∘Jp 1∘Jo (vI (1+x.weight:Nat)) (by exact za om om)∘Jg 6 O0∘Jp 1∘Jo (vW (x.ticks%16777216:Nat)) (by exact ze .u32 _ 16777216)∘Jw .i64∘Jp 1∘Jo (vI (1+(x.ticks%16777216):Nat)) (by exact za om om)∘Jg 7 O0∘Jw .u64∘eH #[vB 0,vI (x.cpu%4:Nat),vI (1+(x.task%12):Nat),vI (x.group%6:Nat),vI (1+x.weight:Nat),vI (x.to%4:Nat),vI (1+(x.ticks%16777216):Nat),vQ x.mask]∘JA #[vB 0,vI 0,vI 0,vI 0,vI 0,vI 0,vI 0,vQ 0]) λw8 U=>(JV mR aO) λO=>(aH∘Jj∘JQ∘JP∘Jg 7 O1∘Jp 1∘Jo (vB (x.mask%4:Nat)) (by exact ze .u8 _ 4)∘Jp 1∘bQ∘Jj) (Ji (λE=>?_) λE=>?_)
  ·
   have t:x.AB=(1*2^ (1+x.to%4)-1)|||1*2^ (x.cpu%4):=by unfold iY.AB;rw [if_pos om]
   refine (JT∘JP∘Jg 5 O0∘Jp 1∘Jo (vI (1+(x.to%4):Nat)) (by exact za om om)∘Jy (v:=vQ (1*2^ (1+(x.to%4)):Nat)) (h:=by exact aaE (m:=1) (n:=(1+(x.to%4))) rfl rfl rfl (by show _<=64;omega) (M))∘zZ 1∘Jf 7∘JW aO uS) λV=>(qI∘Jj∘Vs .n [7]) λM5=>(Vf 0 7∘Vf 2 1∘Vc 1 O0∘Vc 3 O0∘Vy 4 (v:=vQ (1*2^ (x.cpu%4):Nat)) (h:=by exact aaE (m:=1) (n:=(x.cpu%4)) rfl rfl rfl (by show _<=64;omega) (N))∘Vp [5]∘Vo (vQ ((1*2^ (1+(x.to%4))-1)|||(1*2^ (x.cpu%4)):Nat)) (by exact Wx (m:=1*2^ (1+(x.to%4))-1) (n:=1*2^ (x.cpu%4)) om om)∘Vf 6 7) λa Z b HS=>?_
   refine s_on Z 7 rfl (eG Z b 0 λW b=>?_)
   refine dN kr ?_
   refine qe kr ?_
   refine Jb Z b ((JG∘JP∘Jy (v:= .agg aiE) (h:=by exact aar (n:=20) (sz:=1) (vs:=((0,vB 1)::(1,vB 1)::(2,vB 1)::(3,vB 2)::(4,vB 2)::aif [])) rfl rfl kr kr)∘Jg 0 O1∘Jp 1∘Jo (vB (x.kind%20:Nat)) (by exact ze .u8 _ 20)∘Jy (v:=vB (jH.getD (x.kind%20) 0)) (h:=by exact Yl.zgk (m:=20) (y:=x.kind%20) rfl rfl rfl kr om (qyc om))∘Jf 0∘JW aO aO) λF=>(iQ∘Jj∘JR∘Jp 1∘Jy (v:= .agg #[vB (jH.getD (x.kind%20) 0),vI (x.cpu%4:Nat),vI (1+(x.task%12):Nat),vI (x.group%6:Nat),vI (1+x.weight:Nat),vI (x.to%4:Nat),vI (1+(x.ticks%16777216):Nat),vQ ((1*2^ (1+(x.to%4))-1)|||(1*2^ (x.cpu%4)):Nat)]) (h:=by exact Pe rfl rfl mR rfl (λ_ h=>qj (h.blk (i:=0) rfl)))∘Jo (.agg x.op.cells) (by unfold bK.cells iY.op;rw [t];try rfl)∘JU rY x.op.cells) λP u=>(JD ([x.op].flatMap rF) 3 (λ_ _=>oV) rY (hr:=by exact λb=>b.bB (i:=0) (n:=1) (size:=8) rfl rfl) (h1:=by exact q7j _)) λQ f g o=>(Jp 1∘aH∘Jq∘JC (h:=by exact λb=>b.dw (i:=3) (ys:=(q++[x.op]).flatMap rF) rfl (by rw [abX]))∘JC (h:=by exact λb=>(show Mem w _ (.blk u x.op.cells 214::aix U x.kind x.cpu x.task x.group x.weight x.to x.ticks ((1*2^ (1+(x.to%4))-1)|||(1*2^ (x.cpu%4)):Nat) S x.cells f k g ((q++[x.op]).flatMap rF) []) from b))∘JG∘JR∘dx 1∘Jp 1∘aK∘Jq) λa Z b=>?_)
   exact ⟨_,om,k+1,(q++[x.op]),f,g,by omega,by rw [K,yF iY.zero s,B,abU];rfl,o,rfl,Z.sub kr,b.pk [3]⟩
  have t:x.AB=x.mask:=by unfold iY.AB;rw [if_neg om]
  refine (aU∘JP∘Jy (v:= .agg aiE) (h:=by exact aar (n:=20) (sz:=1) (vs:=((0,vB 1)::(1,vB 1)::(2,vB 1)::(3,vB 2)::(4,vB 2)::aif [])) rfl rfl kr kr)∘Jg 0 O1∘Jp 1∘Jo (vB (x.kind%20:Nat)) (by exact ze .u8 _ 20)∘Jy (v:=vB (jH.getD (x.kind%20) 0)) (h:=by exact Yl.zgk (m:=20) (y:=x.kind%20) rfl rfl rfl kr om (qyc om))∘Jf 0∘JW aO aO) λF=>(qI∘Jj∘JR∘Jp 1∘dZ mR O0∘Jo (.agg x.op.cells) (by unfold bK.cells iY.op;rw [t];try rfl)∘JU rY x.op.cells) λP u=>(JD ([x.op].flatMap rF) 3 (λ_ _=>oV) rY (hr:=by exact λb=>b.bB (i:=0) (n:=1) (size:=8) rfl rfl) (h1:=by exact q7j _)) λQ f g o=>(Jp 1∘gq∘Jq∘JC (h:=by exact λb=>b.dw (i:=3) (ys:=(q++[x.op]).flatMap rF) rfl (by rw [abX]))∘JC (h:=by exact λb=>(show Mem w _ (.blk u x.op.cells 214::aix U x.kind x.cpu x.task x.group x.weight x.to x.ticks x.mask S x.cells f k g ((q++[x.op]).flatMap rF) []) from b))∘JG∘JR∘dx 1∘Jp 1∘aK∘Jq) λa Z b=>?_
  exact ⟨_,om,k+1,(q++[x.op]),f,g,by omega,by rw [K,yF iY.zero s,B,abU];rfl,o,rfl,Z.sub kr,b.pk [3]⟩
 have G:k=abn e:=by omega
 have H:q=mM l most:=by rw [K,G,adr,<-p];rfl
 exact (JF∘JX∘JG∘aJ 2∘aK∘aP∘bC) λb=>q7n H (by rw [H,qny,p,<-G]) (b.own (i:=0) rfl) L b.below
def zc9 (b:o.Ok) (h:GoodS s):GoodS (rW s o).1:=by
 by_cases a:(dB s o).2.2=0
 ·rw [Sv a];exact (Rt b h a).rise
 ·rw [Sr a];exact h
theorem zda (a:o.Ok) (h:GoodS s) (hr:lT s=true):lT (rW s o).1=true:=by grind [Sr,Sv,q1f,dB,Rt]
def zdb {cp:Int} {gs:List Gr} (h1:1<=cp/\cp<=64) (u:cr<=1099511627776) (s:dF gs=true) (v:∀g∈gs,g.Ok):GoodS (newS cp cr gs)/\lT (newS cp cr gs)=true:=by
 obtain ⟨c,rfl⟩:∃c:Nat,cp=(c:Int):=⟨cp.toNat,by omega⟩
 have m:∀g,g<abn gs->(newS (c:Int) cr gs).sp.getD g []=abD c Sp.zero:=λg a=>by
  show (abD (abn gs) (abD ((c:Int)).toNat Sp.zero)).getD g []=_
  rw [abt,afL,if_pos a]
  rfl
 have k:∀g o,(newS (c:Int) cr gs).spot g o=Sp.zero:=λg o=>by
  unfold bE.spot
  rcases ab5 g (abn gs) with a|a
  ·rw [m g a,abt,afL]
   split<;>rfl
  ·rw [show (newS (c:Int) cr gs).sp.getD g []=[] by
    show (abD (abn gs) _).getD g []=_
    rw [abt,adL (by rw [ab2];exact a)];rfl]
   rfl
 have hz:(Sp.zero).Ok:=⟨by decide,by decide,by decide⟩
 have e:(newS (c:Int) cr gs).sp.length=abn gs:=ab2 ..
 have b:GoodS (newS (c:Int) cr gs):=by
  refine ⟨⟨⟨by show aW (c:Int);unfold aW;omega,by show cr<_;omega,v,λx f=>?_,λx f=>?_,λx f=>(by cases f),λl w x f=>?_⟩,h1,u,s,?_,?_,e,λo p=>?_,λg a=>?_,λg o a _=>?_,λi j _ y=>absurd y (Nat.not_lt_zero _),λt ht=>(by cases ht)⟩,λd q=>?_⟩
  ·rw [acR f];unfold aW;decide
  ·rw [acR f];unfold aW;decide
  ·rw [acR w] at f
   rw [acR f];exact hz
  ·show (abn (abD ((c:Int)).toNat (0:Int)):Int)=(c:Int);rw [ab2];rfl
  ·show (abn (abD ((c:Int)).toNat (0:Int)):Int)=(c:Int);rw [ab2];rfl
  ·have:(newS (c:Int) cr gs).cl.getD o 0=0:=acR (qf 0 p)
   rw [this];decide
  ·rw [e] at a;rw [m g a,ab2];rfl
  ·rw [k]
   rw [e] at a
   unfold eu
   have r:=pQ s a
   rw [abG]
   refine ⟨?_,by simp [Sp.zero]⟩
   unfold bV
   rw [decide_eq_true_eq]
   exact ⟨r.1,r.2,by show ((0:Nat):Int)<_;have:=r.1;show (0:Int)<(gs.getD g Gr.zero).weight;omega,.inr rfl⟩
  ·exact .inl (acR (qf 0 q))
 refine ⟨b,?_⟩
 unfold lT
 rw [(Ri b.sh.ok).2 b.sh,ab8]
 refine vD λd q=>?_
 rw [(Rj b.sh.sort).2 b.cur d q,ab8]
 refine vD λg a=>?_
 have hm:aR (newS (c:Int) cr gs) g d=[]:=by
  have key:∀n g,abn gs-g<=n->aR (newS (c:Int) cr gs) g d=[]:=by
   intro n
   induction n with
   |zero=>
    intro g a
    rw [Mq,e,ab9 (by rw [List.length_range];omega)]
    rfl
   |succ n z=>
    intro g a
    rw [Mq,show (newS (c:Int) cr gs).ts=[] from rfl]
    rw [List.filterMap_nil,List.nil_append,List.filterMap_eq_nil_iff]
    intro h A
    obtain ⟨i,hi,rfl⟩:=aco A
    rw [List.getElem_drop,List.getElem_range]
    unfold lD
    rw [if_neg]
    rintro ⟨_,B⟩
    exact absurd (z (g+1+i) om) (by simpa using B)
  exact key _ g (abr _)
 unfold kK
 rw [decide_eq_true_eq]
 exact .inl hm
def zi4 {cp:Int} {gc:Nat} {gs:List Gr} (h:(⟨cp,cr,gA,gc,gs,none,0,[],none,0,[],none,0,[],none,0,[]⟩:aF).av.Ok/\abn gs<=1000000/\fU (⟨cp,cr,gA,gc,gs,none,0,[],none,0,[],none,0,[],none,0,[]⟩:aF).av=true) (hr:Rd w w.heap.size 2 gA (abn gs) (gs.flatMap fC)):Calls abo 99 #[.agg #[vI cp,vQ cr,.slice gA (abn gs) gc]] w (zfq w (newS cp cr gs)):=
 (zi1 cp cr gA gc gs w h.1 h.2.1 hr).mono λr a k=>by unfold og at k;rwa [if_pos h.2.2] at k
def zi5 {cp:Int} {gA:Option Addr} {gc:Nat} {gs:List Gr} (h1:1<=cp/\cp<=64) (c:cr<=1099511627776) (b:dF gs=true) (d:∀g∈gs,g.Ok):(⟨cp,cr,gA,gc,gs,none,0,[],none,0,[],none,0,[],none,0,[]⟩:aF).av.Ok/\abn gs<=1000000/\fU (⟨cp,cr,gA,gc,gs,none,0,[],none,0,[],none,0,[],none,0,[]⟩:aF).av=true:=by
 have f:=(qw b).2.1
 refine ⟨⟨by show aW cp;unfold aW;omega,by show cr<_;omega,d,λx a=>(by cases a),λx a=>(by cases a),λx a=>(by cases a),λl e=>(by cases e)⟩,by omega,?_⟩
 unfold fU
 rw [abG,decide_eq_true_eq]
 exact ⟨⟨h1.1,h1.2,c⟩,b⟩
section
variable {W w:World} {F T:List Fact} {x:aF} {gm:Nat}
def Sz (n:Nat) (b:Mem W w F) (c:F.drop n=mU gm x++T) (a:GoodS x.av) {o:bK} (d:o.Ok):Calls abo 102 #[vP gm 0,.agg o.cells] w (kg W gm (F.take n++T) (rW x.av o)):=
 zc3 W w x gm _ _ _ _ _ (MW a.sh) a o d _ (b.front n c)
def zi6 (n:Nat) (a:Mem W w F) (b:F.drop n=mU gm x++T) (c:GoodS x.av):Calls abo 103 #[vP gm 0] w (q7d w x):=
 q7h x gm w (MW c.sh).few (a.Iu n b) (a.Dc n b)
end
section
variable {W w w':World} {F T A B G:List Fact} {x y:aF} {gm:Nat} {s:bE}
theorem Mem.wB (n:Nat) (h:Mem W w F) (k:Mem w w' G) (b:F.drop n=T):Mem W w' (F.take n++(G++T)):=by
 have a:=h.pW k
 rw [<-ab1 n F,b,abu] at a
 exact a.perm (List.Perm.append_left _ List.perm_append_comm)
def SA (n:Nat) (a:Mem W w F) (b:F.drop n=mU gm x++T) (hs:x.av=s) (c:GoodS s) {o:bK} (d:o.Ok):Calls abo 102 #[.pointer (some ⟨gm,0,none⟩),.agg o.cells] w (kg W gm (F.take n++T) (rW s o)):=by
 subst hs
 exact Sz n a b c d
def Iy (w:World) (s:bE) (r:Ending) (w':World):Prop:=∃y:aF,r= .returned (.tuple #[.agg y.cells,.int .i64 0])/\y.av=s/\fD y/\Mem w w' (jF y)
def zi7 (n:Nat) (a:Mem W w F) (b:F.drop n=mU gm x++T) (hs:x.av=s) (c:GoodS s):Calls abo 103 #[.pointer (some ⟨gm,0,none⟩)] w (Iy w s):=by
 subst hs
 exact (zi6 n a b c).mono λr w' ⟨y,d,e,f,g⟩=>⟨y,d,MF e,f,g⟩
end
def dH.new (n:dH):bE:=newS (n.cp:Int) n.aj n.gs
theorem AL {gs:List Gr} (h:dF gs=true):∀g∈gs,g.Ok:=λx b=>by
 obtain ⟨g,a,rfl⟩:=vY Gr.zero b
 have d:=pQ h a
 have e:=(qw h).2.1
 refine ⟨?_,by unfold aW;omega⟩
 rcases acr g with rfl|c
 ·rw [(qw h).2.2.1];unfold aW;decide
 ·have:=Mk ((qw h).2.2.2 g a) c
  unfold d9 at this
  unfold aW;omega
theorem dH.good {n:dH} (h:n.Ok):GoodS n.new/\lT n.new=true:=by
 have a:=dH.right h
 have b:=h.aj
 exact zdb (by unfold dH.cp;omega) om a.1 (AL a.1)
theorem dH.cfg {n:dH} {gA:Option Addr} {gc:Nat} (h:n.Ok):(⟨(n.cp:Int),n.aj,gA,gc,n.gs,none,0,[],none,0,[],none,0,[],none,0,[]⟩:aF).av.Ok/\abn n.gs<=1000000/\fU (⟨(n.cp:Int),n.aj,gA,gc,n.gs,none,0,[],none,0,[],none,0,[],none,0,[]⟩:aF).av=true:=by
 have a:=dH.right h
 have b:=h.aj
 exact zi5 (by unfold dH.cp;omega) om a.1 (AL a.1)
def q7o (l:List iY) (most:Nat):abn (mM l most)<=most:=by
 rw [qny,abv]
 omega
def q7p {n:dH} (h:n.Ok):n.cells.size=13:=by
 unfold dH.cells
 rw [List.size_toArray]
 simp [h.pl,h.wl]
def fq (m:Int) (l:List Tk):Prop:=∀t∈l,t.id<=m
section
variable {s:bE} {o:bK} {m:Int} {l:List Tk} {t':Tk} {i:Nat}
theorem EG (h:fq m l) (ht:t'.id=(l.getD i Tk.zero).id):fq m (l.set i t'):=λt hm=>by
 rcases ab5 i (abn l) with a|a
 ·rcases abZ hm with b|rfl
  ·exact h t b
  ·rw [ht];exact h _ (qf Tk.zero a)
 ·rw [List.set_eq_of_length_le a] at hm
  exact h t hm
def qy4 (h:fq m s.ts) (to:Int):fq m (jr s i to).ts:=by
 unfold jr
 dsimp only
 split
 ·rw [(CF _ _ _).ts];exact EG h rfl
 ·exact EG h rfl
theorem qs9 (h:fq m s.ts):fq m (rV s o).1.ts:=by grind [fq,Tk.zero,fidx,EG,rV,List.eraseIdx,List.mem_of_mem_eraseIdx]
def zd9 (b:o.task<=m) (h:fq m s.ts):fq m (dB s o).1.ts:=by
 unfold dB
 split
 ·unfold yL
  repeat' split
  all_goals first|exact h|skip
  show fq m (gN _ _ _).ts
  rw [(CF _ _ _).ts]
  intro t ht
  rcases ab6.1 ht with a|a
  ·exact h t ((List.takeWhile_sublist _).subset a)
  ·rcases abS.1 a with rfl|c
   ·exact b
   ·exact h t ((List.dropWhile_sublist _).subset c)
 ·unfold yM
  repeat' split
  all_goals first|exact h|skip
  show fq m (gN _ _ _).ts
  rw [(CF _ _ _).ts]
  exact EG h rfl
 ·exact qs9 h
 ·exact qs9 h
 ·unfold jE
  repeat' split
  all_goals first|exact h|skip
  show fq m (pU _ _ _ _ _).ts
  rw [(Rk _ _ _ _ _).ts]
  exact EG h rfl
 ·unfold kL
  split<;>exact h
 ·unfold yN
  repeat' split
  all_goals first|exact h|exact EG h rfl
 ·unfold yO
  repeat' split
  all_goals exact h
 ·unfold qc1
  repeat' split
  all_goals first|exact h|exact qy4 h _
 ·unfold vK
  repeat' split
  all_goals first|exact h|exact qy4 h _
 ·exact h
def zm7 (a:o.task<=m) (h:fq m s.ts):fq m (rW s o).1.ts:=by
 unfold rW
 split
 ·exact h
 ·exact zd9 a h
end
def qv9 {l:List iY} {most:Nat}:∀o∈mM l most,o.task<=12:=λo a=>by
 obtain ⟨x,b,rfl⟩:=ab0.1 a
 show ((1+x.task%12:Nat):Int)<=12
 omega
structure kT (a:dL):Prop where
 zL:dG a=0
 ok:a.st.av.Ok
 few:bY a.st
 cap:fD a.st
def zj6 {q:aF} {nx:Int} (c:q.av=s) (d:GoodS s) (e:lT s=true) (f:1<=nx/\nx<=281474976710657) (hc:fD q):kT ⟨nx,q⟩:=by
 subst c
 have h:=MW d.sh
 exact ⟨ZL (by show ¬(nx<1\/281474976710657<nx);omega) e,h.ok,h.few,hc⟩
def zgc (w:World) (x:Int) (r:Ending) (c:World):Prop:=∃a:dL,r= .returned (.tuple #[.agg a.cells,.bool true])/\kT a/\GoodS a.st.av/\fq 12 a.st.ts/\(0<=x/\x<281474976710657->a.next=1+x)/\Mem w c (jF a.st)
def zj7 {q:aF} {nx x:Int} (c:q.av=s) (d:GoodS s) (e:lT s=true) (f:fq 12 s.ts) (g:1<=nx/\nx<=281474976710657) (hc:fD q) (h:0<=x/\x<281474976710657->nx=1+x) (hm:Mem w W (jF q)):zgc w x (.returned (.tuple #[.agg (dL.cells ⟨nx,q⟩),.bool true])) W:=
 ⟨⟨nx,q⟩,rfl,zj6 c d e g hc,by subst c;exact d,by subst c;exact f,h,hm⟩
section
variable {a b:dL} {w:World} {B:Nat}
end
def KE (x:Int): -281474976710657<afu x 281474976710657/\afu x 281474976710657<281474976710657:=⟨Int.lt_tmod_of_pos x de,Int.tmod_lt_of_pos x de⟩
def znb (w:World) (x:Int) (r:Ending) (a:World):Prop:=(∃z:Int,r= .returned (vI z)/\0<=z/\z<281474976710657/\(0<=x/\x<281474976710657->z=x))/\Below w.heap.size w a
def zkf {n:dH}:fq 12 n.new.ts:=λt ht=>by cases ht
def q2g (x:Int) (c:aW x) (w:World):
    Calls abo 39 #[vI x,vI 281474976710657] w (znb w x):=by
 unfold aW at c
 have d:=KE x
 refine (jf Tryz.func39 16) ?_
 refine (cO 1∘JQ∘JP∘Jv 2 [(6,.bool false)]∘Jj∘aU∘aJ 4∘dY∘Jj∘bN 2∘aK∘Jj) (Ji (λa=>?_) λa=>?_)
 ·
  exact (JT∘JR∘Jp 3∘Jo (vI ((afu x 281474976710657)+281474976710657)) (by exact mF ⟨by omega,by omega⟩)∘Jp 1∘dY∘bA 2∘aK∘aP∘bC) λb=>by exact ⟨⟨_,rfl,by have:=KE x;omega,by have:=KE x;omega,λh=>by have:=agz h.1 h.2;omega⟩,b.below⟩
 exact (aU∘aJ 2∘aK∘aP∘bC) λb=>by exact ⟨⟨_,rfl,by have:=KE x;omega,by have:=KE x;omega,λh=>by have:=agz h.1 h.2;omega⟩,b.below⟩
abbrev ahC:=λa=>(.blk a #[vI 0,vI 0,vQ 0,vN,vN,vN,vN,vN] 50:Fact)
abbrev aiB:Array Go.Value:=#[vI 0,vI 0,vQ 0,vN,vN,vN,vN,vN]
def q2h (n:dH) (q:n.Ok) (A:Option Addr) (E:Nat) (l:List iY) (U:∀x∈l,x.Ok) (hc:abn l<=E) (F:abn l<=9223372036854775807) (nx:Int) (G:aW nx) (w:World) (hr:Rd w w.heap.size 8 A (abn l) (l.flatMap y5)):
    Calls abo 42 #[.agg n.cells,abk A l E,vI nx] w (zgc w nx):=by
 have hsl:=q7o l 60
 refine (uU Tryz.func42 50) ?_
 refine (JP∘JE) λw3 g3=>(JA aiB) λw6 r=>(Jp 1∘Jr∘dZ q7l O1 (hm:=by exact (q7p q))∘JK (h:=by exact λb=>q1x n q _)) λH I w16 V=>(JL (h:=by exact λb=>zi4 (dH.cfg q) (b.rd (i:=0) rfl))) ?_
 rintro b _ J ⟨d,x,rfl,D,hm⟩
 refine ⟨_,rfl,_,(show Mem w J (abm H n.gs I fC 198 2::ahC r::.blk g3 n.cells 100::(mU d x++([]))) from b.wB 3 hm rfl),?_⟩
 refine (Jp 1∘Jx∘Jx∘bM 2∘JQ∘JP∘Jv 4 [(23,vP d 0),(22,.bool false)]∘Jy (v:= .bool false) (h:=by exact aaF rfl rfl rfl)∘Jp 1∘gq∘Jj∘aU∘bN 1∘JK (h:=by exact λb=>q1y A E l 60 _ U (b.old hr) hc F de)) λe c FH W=>(Jl∘bM 1∘JB) λa Z b=>?_
 refine qg (λX aS wS=>∃(k:Nat) (x:aF) (s:bE),(k<=abn (mM l 60))/\(x.av=s)/\(GoodS s)/\(lT s=true)/\(fq 12 s.ts)/\X=abn (mM l 60)-k/\Fr aS 50 [] (ahK 30 k 29 (abn (mM l 60):Nat) [(28,abk e (mM l 60) c),(25,.bool false),(8,vP d 0),(7,.bool false),(6,vP r 0),(2,vI nx)])/\Mem w wS (abm e (mM l 60) c rF 214 8::ahC r::(mU d x++([])))) (m:=abn (mM l 60)-0) ⟨0,x,n.new,abA _,D,(dH.good q).1,(dH.good q).2,zkf,rfl,Z.sub kr,b.pt 4 [0,2]⟩ ?_
 clear Z b;rintro X a w_ ⟨k,x,s,hk,D,t,Y,hD,rfl,Z,b⟩
 refine Jb Z b ((cO 1∘JQ) (Ji (λu=>?_) λu=>?_))
 ·
  have B:k<abn (mM l 60):=by omega
  obtain ⟨o,ho⟩:∃z,(mM l 60).getD k bK.zero=z:=⟨_,rfl⟩
  have f:=qf bK.zero B
  rw [ho] at f
  have g:o.Ok:=q7k U _ f
  have K:o.task<=12:=qv9 _ f
  refine (eO∘JP) ?_
  repeat (first|clear Z|clear b)
  intro a Z b
  obtain ⟨C,rfl⟩:=b.rat 0 k
  refine Jb Z b ((nU k 8∘Jy (v:= .agg (((mM l 60).getD k bK.zero).cells)) (h:=by exact Pe rfl rfl mR rfl (λ_ h=>h.zV zi2 (i:=0) rfl ((getD_at bK.zero B))))∘Jo (.agg o.cells) (by rw [ho])∘JA #[vB 0,vI 0,vI 0,vI 0,vI 0,vI 0,vI 0,vQ 0]) λuV L=>(JV mR aO (h1:=by exact Z7 o)) λQe=>(bQ∘Jj∘JR∘Jp 1∘dZ mR O0∘JL (h:=by exact λb=>SA 3 b rfl D t g)) ?_)
  rintro b _ M ⟨y,rfl,hy,N⟩
  refine ⟨_,rfl,_,(show Mem w M (.blk L o.cells 214::.row (vS C (abn (mM l 60)) c) (abn (mM l 60)) ((mM l 60).flatMap rF) 214 8::ahC r::(mU d y++([]))) from N.back),?_⟩
  refine (nT∘Jj∘JR∘dx 1∘Jp 1∘aK∘Jq) λa Z b=>?_
  exact ⟨_,om,k+1,y,(rW s o).1,by omega,hy,zc9 g t,zda g t Y,zm7 K hD,rfl,Z.sub kr,b.pt 3 [1,2]⟩
 refine (JF∘JX∘JG∘aJ 1∘JL (h:=by exact λb=>zi7 2 b rfl D t)) ?_
 rintro b _ O ⟨p,rfl,hp,j,hm⟩
 refine ⟨_,rfl,_,(show Mem w O (abm e (mM l 60) c rF 214 8::ahC r::(jF p++(mU d x++([])))) from b.wB (T:=(mU d x++([]))) 2 hm rfl),?_⟩
 refine (Jp 1∘Jx∘Jx∘JA aiD) λyB g12=>(JV gG aO (h1:=by exact Y8 p)) λasj=>(bM 1) λa Z b=>?_
 refine wp_seq ?_
 refine Jb Z b ((Vs .n [7]) λrz=>(Vq [0,5,6] [(49,.bool true),(43,vI nx)]∘nH 3 gG O0) λa Z b P=>?_)
 refine s_on Z 1 rfl ?_
 refine lq Z [vI nx,vI 281474976710657] rfl rfl (q2g nx G _) ?_
 rintro _ PE ⟨⟨z,rfl,hz1,hz2,Q⟩,R⟩
 refine ⟨_,rfl,?_⟩
 replace b:=b.call R
 clear Z;intro a Z
 refine ay (b.pt 3 [0,1,2]) (λP=>?_)
 refine Vb Z b P ((Vp [2]∘Vo (vI (1+z)) (by exact mF ⟨by omega,by omega⟩)∘Vy 4 (v:= .agg #[vI (1+z),vI p.au,vQ p.aj,abk p.gA p.gs p.gc,abk p.lA p.cl p.lc,abk p.uA p.cu p.uc,abk p.tA p.ts p.tc,abk p.sA p.rs p.sc]) (h:=by exact Yl.build (vs:=[(0,vI (1+z)),(1,.agg p.cells)]) rfl kr kr)) λa Z b P=>?_)
 refine s_on Z 7 rfl (bT Z b 2 rfl rfl rfl rfl rfl zx rfl rfl (by simp [abR]) λS b=>?_)
 refine dN kr ?_
 refine ap Z (bU kr) [8] (bt 9 []) [(7,.bool true)] λa Z=>?_
 refine qe kr ?_
 refine Jb Z b ((JZ) λa Z b=>?_)
 exact dI rfl Z (.cellS (i:=2) Z b rfl rfl zx rfl) (.tmp Z rfl) (zj7 (nx:=1+z) hp t Y hD ⟨by omega,by omega⟩ j (λh=>by rw [Q h]) ((b.iP 3 rfl).mQ (List.sublist_append_left ..)))
section
variable {W w:World} {fs:List Fact}
end
section
variable {b bk:Bs} {l:List Ev} {k:Nat} {e:Ev}
end
section
variable {b bk:Bs} {cpu m u L er:Nat} {l:List Nat} {es:List Ev} {e:Ev}
end
def fZ {α:Type} (f:α->α) (l:List α) (k:Nat):List α:=(l.take k).map f++l.drop k
def Un {α:Type} (f:α->α) (l:List α) (k:Nat):abn (fZ f l k)=abn l:=by
 unfold fZ
 rw [abp,abx,abv,abC]
 omega
def q2b {α:Type} (f:α->α) (l:List α):fZ f l 0=l:=by simp [fZ]
def EC {α:Type} (f:α->α) (l:List α) {k:Nat} (d:α) (h:k<abn l):(fZ f l k)[k]?=some (l.getD k d):=by
 unfold fZ
 rw [adK (by rw [abx,abv];omega),abx,abv,ac4 om,aeb,List.getElem?_drop,abt,Nat.add_zero,abq h]
 rfl
def q2c {α:Type} (f:α->α) (l:List α) {k:Nat} (d:α) (h:k<abn l):(fZ f l k).set k (f (l.getD k d))=fZ f l (k+1):=by
 unfold fZ
 have a:abn (l.take k)=k:=by rw [abv];omega
 have b:l.drop k=l.getD k d::l.drop (k+1):=by
  rw [abt,abq h]
  exact ace h
 have ht:l.take (k+1)=l.take k++[l.getD k d]:=by
  rw [List.take_succ_eq_append_getElem h,abt,abq h]
  rfl
 rw [aeJ,if_neg (by rw [abx];omega),abx,a,aeb,b,aff,ht,abU,abu]
 rfl
structure It where
 e:Ev
 before:Int
section
variable {cpu:Nat} {l:List It} {opn limit:Int}
end
def yG:EI abo 51 85 (.agg #[.int .u8 0,.int .u8 0,.int .i64 0,.int .i64 0,.slice none 0 0]) 5 48:=⟨by kernel_rfl,by kernel_rfl,rfl,by omega⟩
theorem Qb {α:Type} {l:List α} (d:α) (h:k<abn l):l.drop k=l.getD k d::l.drop (k+1):=by
 rw [ace h,abt,abq h]
 rfl
section
open Go.ChangeShapes Go.WideShapes Go.ChangeAt
section
variable {H:Type} {enc:TypeId×Value->H} {P:Program} {W:World} {sp:Nat->Bool} {held:Bool}
def flat_get {sz:Nat}:∀(a:List (List Value)),(∀l∈a,abn l=sz)->∀p u,(a.flatMap id)[p]?=some u->∃i j,∃hi:i<abn a,j<sz/\p=i*sz+j/\a[i][j]?=some u:=by
 intro a
 induction a with
 |nil=>intro _ p u h;simp at h
 | cons l r f =>
  intro h p u b
  have c:=h l (by simp)
  rw [abK] at b
  by_cases g:p<sz
  ·rw [adO (by simp only [id];omega)] at b
   exact ⟨0,p,by simp,g,by omega,b⟩
  ·rw [adK (by simp only [id];omega)] at b
   simp only [id] at b
   rw [c] at b
   obtain ⟨i,j,hi,k,m,e⟩:=f (λy n=>h y (by simp [n])) _ u b
   exact ⟨i+1,j,by simp;omega,k,by rw [adD];omega,by simpa using e⟩
def q4w {sz:Nat}:∀(a:List (List Value)),(∀l∈a,abn l=sz)->abn (a.flatMap id)=abn a*sz:=by
 intro a
 induction a with
 |nil=>simp
 |cons l r b=>intro h;rw [abK,abp,b (λy c=>h y (by simp [c])),abT,adD];have:=h l (by simp);simp only [id];omega
def Me {α:Type} (f:α->List Value) (Ok:α->Prop) {t e:TypeId} {sz:Nat} (ht:P.underlying t=some (.slice e)) (D:P.cellsOf e=sz) (Q:0<sz) (K:∀x,abn (f x)=sz)
  (R:∀m l y,adI enc P W 0 sp held m e l=some y->∃x,f x=l/\Ok x) {g:Nat} {B:List Value} {x:DataW H×List MemPlace} (h:adI enc P W 0 sp held g t B=some x):
  ∃(A:Option Addr) (c:Nat) (l:List α),B=[.slice A (abn l) c]/\abn l<=c/\c<=maxLen/\(∀x∈l,Ok x)/\Rd W W.heap.size sz A (abn l) (l.flatMap f):=by
 rcases DataW.trod_slice ht h with ⟨hc,_⟩|⟨a,len,cap,b,L,m,_,hc,_,_,U,hm,M,E,_⟩
 ·exact ⟨none,0,[],hc,abr _,by unfold maxLen;omega,by simp,Rd.nil⟩
 ·have r:∀i,i<len->∃x:α,W.cells? 0 (a.add (i*sz)) sz=some (f x)/\Ok x:=by
   intro i hi
   have n:=E i hi
   rw [D,abq (by omega:i<abn b)] at n
   obtain ⟨l,o,q⟩:=Option.bind_eq_some_iff.1 n
   obtain ⟨x,rfl,F⟩:=R _ _ _ q
   exact ⟨x,o,F⟩
  have key:∀k,k<=len->∃xs:List α,abn xs=k/\∀i (hi:i<abn xs),W.cells? 0 (a.add (i*sz)) sz=some (f xs[i])/\Ok xs[i]:=by
   intro k
   induction k with
   |zero=>intro _;exact ⟨[],rfl,λi hi=>by simp at hi⟩
   | succ k S =>
    intro V
    obtain ⟨xs,n,o⟩:=S om
    obtain ⟨x,q,N⟩:=r k om
    refine ⟨xs++[x],by simp [n],λi hi=>?_⟩
    by_cases s:i<abn xs
    ·rw [List.getElem_append_left s];exact o i s
    ·obtain rfl:i=abn xs:=by simp at hi;omega
     rw [List.getElem_append_right (abr _)]
     simp only [aeb,List.getElem_cons_zero,n]
     exact ⟨q,N⟩
  obtain ⟨xs,n,o⟩:=key len (abr _)
  have w:xs.flatMap f=(xs.map f).flatMap id:=by rw [List.flatMap_map];rfl
  have z:∀l∈xs.map f,abn l=sz:=λl G=>by obtain ⟨x,_,rfl⟩:=ab0.1 G;exact K x
  have C:∀i (hi:i<abn xs) j,j<sz->W.cell? (a.add (i*sz+j))=(f xs[i])[j]?:=by
   intro i hi j I
   have:=(World.cells?_some (o i hi).1).2.2 j I
   rwa [Vi] at this
  refine ⟨some a,cap,xs,by rw [hc,n],by omega,hm,λx F=>by obtain ⟨i,hi,rfl⟩:=aco F;exact (o i hi).2,⟨by rw [w,q4w _ z,abx],λT=>⟨a,rfl,?_,?_⟩⟩⟩
  ·have q:=C 0 T 0 Q
   have N:=K xs[0]
   rw [abq om] at q
   have:=World.block_lt_of_cell? W _ q
   simpa [Addr.add] using this
  ·intro p u O
   rw [w] at O
   obtain ⟨i,j,hi,I,rfl,J⟩:=flat_get _ z p u O
   rw [abx] at hi
   rw [C i hi j I,<-J,List.getElem_map]
end
section
variable {H:Type} {enc:TypeId×Value->H} {W:World} {b0:Nat} {v:Value} {d:DataW H} {p:List MemPlace}
end
end
section
open Go.ChangeShapes Go.WideShapes Go.ChangeAt
section
variable {H:Type} {enc:TypeId×Value->H} {P:Program} {W:World} {sp:Nat->Bool} {held:Bool}
def SB:Value->Int
 | .int _ z=>z
 |_=>0
def qyd {t e:TypeId} {k:acj} (ht:P.underlying t=some (.array n e)) (j:P.underlying e=some (.int k)) (hc:P.cellsOf e=1) (l:P.cellsOf t=n) {c:Nat} {L:List Value} {d:DataW H} {p:List MemPlace} (o:adI enc P W 0 sp held c t L=some (d,p)):
  ∃b:List Int,abn b=n/\L=b.map (abO k)/\∀z∈b,(aeM k z).wf=true:=by
 obtain ⟨xs,m,_,_,f,x,q⟩:=DataW.trod_array ht o
 rw [l] at f
 have h:∀i,i<n->∃z:Int,L[i]?=some (.int k z)/\(aeM k z).wf=true:=λi hi=>by
  have g:=q i hi
  rw [hc,acX,abq om] at g
  obtain ⟨z,r,_,s⟩:=ad4 j g
  exact ⟨z,uJ r,s⟩
 refine ⟨L.map SB,by rw [abx,f],ET (by rw [abx,abx]) λi hi=>?_,λz hz=>?_⟩
 ·rw [abx,abx] at hi
  obtain ⟨z,a,_⟩:=h i om
  rw [List.map_map,ac0,a]
  rfl
 ·obtain ⟨v,u,rfl⟩:=ab0.1 hz
  obtain ⟨i,hi,rfl⟩:=aco u
  obtain ⟨z,a,w⟩:=h i om
  rw [abq hi] at a
  injection a with a
  rw [a]
  exact w
end
def SC:List acj:=[.u8,.u8,.u8,.u8,.u8,.u16,.u32,.u8]
def q1z:ES abo 275 SC=true:=by kernel_rfl
def zdc:Tryz.prog.underlying 101=some (.slice 275):=by kernel_rfl
def q10:Tryz.prog.cellsOf 275=8:=by kernel_rfl
def q11 (w:abn B=abn SC) (h:∀(i:Nat) (k:acj),SC[i]?=some k->∃z:Int,B[i]?=some (abO k z)/\(aeM k z).wf=true):∃x:iY,y5 x=B/\x.Ok:=by
 obtain ⟨a,y,b⟩:=h 0 .u8 rfl
 have b:=jc b
 obtain ⟨c,A,e⟩:=h 1 .u8 rfl
 have e:=jc e
 obtain ⟨f,C,g⟩:=h 2 .u8 rfl
 have g:=jc g
 obtain ⟨j,D,l⟩:=h 3 .u8 rfl
 have l:=jc l
 obtain ⟨m,E,n⟩:=h 4 .u8 rfl
 have n:=jc n
 obtain ⟨o,F,q⟩:=h 5 .u16 rfl
 have q:=Oh q
 obtain ⟨r,G,s⟩:=h 6 .u32 rfl
 have s:=uI s
 obtain ⟨t,I,u⟩:=h 7 .u8 rfl
 have u:=jc u
 refine ⟨⟨a.toNat,c.toNat,f.toNat,j.toNat,m.toNat,o.toNat,r.toNat,t.toNat⟩,?_,⟨by show a.toNat<_;omega,by show c.toNat<_;omega,by show f.toNat<_;omega,by show j.toNat<_;omega,by show m.toNat<_;omega,by show o.toNat<_;omega,by show r.toNat<_;omega,by show t.toNat<_;omega⟩⟩
 refine ET (by rw [w];rfl) λi hi=>?_
 have J:i<8:=by rw [w] at hi;exact hi
 have hc:i=0\/i=1\/i=2\/i=3\/i=4\/i=5\/i=6\/i=7:=by omega
 rcases hc with rfl|rfl|rfl|rfl|rfl|rfl|rfl|rfl
 ·rw [y];show some (abO .u8 ((a.toNat:Nat):Int))=_;rw [abQ b.1]
 ·rw [A];show some (abO .u8 ((c.toNat:Nat):Int))=_;rw [abQ e.1]
 ·rw [C];show some (abO .u8 ((f.toNat:Nat):Int))=_;rw [abQ g.1]
 ·rw [D];show some (abO .u8 ((j.toNat:Nat):Int))=_;rw [abQ l.1]
 ·rw [E];show some (abO .u8 ((m.toNat:Nat):Int))=_;rw [abQ n.1]
 ·rw [F];show some (abO .u16 ((o.toNat:Nat):Int))=_;rw [abQ q.1]
 ·rw [G];show some (abO .u32 ((r.toNat:Nat):Int))=_;rw [abQ s.1]
 ·rw [I];show some (abO .u8 ((t.toNat:Nat):Int))=_;rw [abQ u.1]
section
variable {H:Type} {enc:TypeId×Value->H} {W:World} {b0:Nat} {v:Value} {d:DataW H} {p:List MemPlace}
def zdd {x:DataW H×List MemPlace} (a:adI enc abo W 0 (λ_=>true) true c 275 B=some x):∃e:iY,y5 e=B/\e.Ok:=by
 obtain ⟨b,f⟩:=Og q1z a
 exact q11 b f
def nf0:fieldAt abo 100 0 0 5=true:=by kernel_rfl
def nf1:fieldAt abo 100 1 1 5=true:=by kernel_rfl
def nf2:fieldAt abo 100 2 2 61=true:=by kernel_rfl
def nf3:fieldAt abo 100 3 3 97=true:=by kernel_rfl
def nf4:fieldAt abo 100 4 8 98=true:=by kernel_rfl
def qnz:Tryz.prog.cellsOf 100=13:=by kernel_rfl
def zi8:Tryz.prog.underlying 61=some (.int .u32):=by kernel_rfl
def zi9:Tryz.prog.underlying 60=some (.int .u16):=by kernel_rfl
def zmm:Tryz.prog.underlying 97=some (.array 5 5):=by kernel_rfl
def zmn:Tryz.prog.underlying 98=some (.array 5 60):=by kernel_rfl
def qye:Tryz.prog.cellsOf 5=1:=by kernel_rfl
def q7q:Tryz.prog.cellsOf 60=1:=by kernel_rfl
def q7r:Tryz.prog.cellsOf 61=1:=by kernel_rfl
def qyf:Tryz.prog.cellsOf 97=5:=by kernel_rfl
def qyg:Tryz.prog.cellsOf 98=5:=by kernel_rfl
def SE (k:acj):∀{a:List Int},(∀z∈a,0<=z)->a.map (abO k)=(a.map afg).map (λz:Nat=>abO k (z:Int))
 |[],_=>rfl
 |z::r,h=>by
  rw [acu,acu,acu,SE k (λy b=>h y (acd _ b)),abQ (h z (acB ..))]
def zde {D A:List Value} {a b c:Value} (g:abn D=13) (e:D[0]?=some a) (h1:D[1]?=some b) (f:D[2]?=some c) (h:(D.drop 3).take 5=A) (i:(D.drop 8).take 5=B):D=a::b::c::(A++B):=by
 match D,g with
 |[c0,m,n,o,q,r,s,t,u,w,j,k,l],_=>
  injection e with e
  injection h1 with h1
  injection f with f
  rw [<-h,<-i,<-e,<-h1,<-f]
  rfl
def q7s {y:DataW H×List MemPlace} (a:adI enc abo W 0 (λ_=>true) true c 100 B=some y):∃n:dH,n.cells.toList=B/\n.Ok:=by
 obtain ⟨e,_,F,l⟩:=q6 nf0 a
 obtain ⟨_,_,G,m⟩:=q6 nf1 a
 obtain ⟨_,_,I,o⟩:=q6 nf2 a
 obtain ⟨_,_,J,q⟩:=q6 nf3 a
 obtain ⟨_,_,K,r⟩:=q6 nf4 a
 rw [qnz] at e
 obtain ⟨f,g,_,s⟩:=ad4 EN l
 obtain ⟨h,e1,_,t⟩:=ad4 EN m
 obtain ⟨i,e2,_,u⟩:=ad4 zi8 o
 obtain ⟨ps,w,e3,j⟩:=qyd zmm EN qye qyf q
 obtain ⟨ws,A,e4,k⟩:=qyd zmn zi9 q7q qyg r
 rw [qye] at g e1
 rw [q7r] at e2
 rw [qyf] at e3
 rw [qyg] at e4
 have C:=jc s
 have D:=jc t
 have E:=uI u
 rw [SE _ λz hz=>(jc (j z hz)).1] at e3
 rw [SE _ λz hz=>(Oh (k z hz)).1] at e4
 refine ⟨⟨f.toNat,h.toNat,i.toNat,ps.map afg,ws.map afg⟩,?_,⟨by show f.toNat<_;omega,by show h.toNat<_;omega,by show i.toNat<_;omega,by show abn (ps.map afg)=5;rw [abx,w],by show abn (ws.map afg)=5;rw [abx,A],λz hz=>?_,λz hz=>?_⟩⟩
 ·rw [zde e (uJ g) (uJ e1) (uJ e2) e3 e4]
  unfold dH.cells
  dsimp only
  rw [abQ C.1,abQ D.1,abQ E.1]
 ·obtain ⟨x,b,rfl⟩:=ab0.1 hz
  have:=jc (j x b)
  omega
 ·obtain ⟨x,b,rfl⟩:=ab0.1 hz
  have:=Oh (k x b)
  omega
end
end
section
open Go.ChangeShapes Go.WideShapes Go.ChangeAt
def Qh:List acj:=[.u8,.u8,.u32,.u32,.u32,.u32,.u32,.u32,.u32,.u32,.u64]
def q42:ES abo 280 Qh=true:=by kernel_rfl
def q0e:Tryz.prog.underlying 111=some (.slice 280):=by kernel_rfl
def q43 (G:abn B=abn Qh) (h:∀(i:Nat) (k:acj),Qh[i]?=some k->∃z:Int,B[i]?=some (abO k z)/\(aeM k z).wf=true):∃x:Sm,rU x=B/\x.Ok:=by
 obtain ⟨c,I,e⟩:=h 0 .u8 rfl
 have e:=jc e
 obtain ⟨f,J,g⟩:=h 1 .u8 rfl
 have g:=jc g
 obtain ⟨j,K,l⟩:=h 2 .u32 rfl
 have l:=uI l
 obtain ⟨m,L,n⟩:=h 3 .u32 rfl
 have n:=uI n
 obtain ⟨o,M,q⟩:=h 4 .u32 rfl
 have q:=uI q
 obtain ⟨r,N,s⟩:=h 5 .u32 rfl
 have s:=uI s
 obtain ⟨t,O,u⟩:=h 6 .u32 rfl
 have u:=uI u
 obtain ⟨w,P,y⟩:=h 7 .u32 rfl
 have y:=uI y
 obtain ⟨A,Q,C⟩:=h 8 .u32 rfl
 have C:=uI C
 obtain ⟨D,R,E⟩:=h 9 .u32 rfl
 have E:=uI E
 obtain ⟨a,F,b⟩:=h 10 .u64 rfl
 have b:=zk7 b
 refine ⟨⟨c.toNat,f.toNat,j.toNat,m.toNat,o.toNat,r.toNat,t.toNat,w.toNat,A.toNat,D.toNat,a.toNat⟩,?_,⟨by show c.toNat<_;omega,by show f.toNat<_;omega,by show j.toNat<_;omega,by show m.toNat<_;omega,by show o.toNat<_;omega,by show r.toNat<_;omega,by show t.toNat<_;omega,by show w.toNat<_;omega,by show A.toNat<_;omega,by show D.toNat<_;omega,by show a.toNat<_;omega⟩⟩
 refine ET (by rw [G];rfl) λi hi=>?_
 have S:i<11:=by rw [G] at hi;exact hi
 have hc:i=0\/i=1\/i=2\/i=3\/i=4\/i=5\/i=6\/i=7\/i=8\/i=9\/i=10:=by omega
 rcases hc with rfl|rfl|rfl|rfl|rfl|rfl|rfl|rfl|rfl|rfl|rfl
 ·rw [I];show some (abO .u8 ((c.toNat:Nat):Int))=_;rw [abQ e.1]
 ·rw [J];show some (abO .u8 ((f.toNat:Nat):Int))=_;rw [abQ g.1]
 ·rw [K];show some (abO .u32 ((j.toNat:Nat):Int))=_;rw [abQ l.1]
 ·rw [L];show some (abO .u32 ((m.toNat:Nat):Int))=_;rw [abQ n.1]
 ·rw [M];show some (abO .u32 ((o.toNat:Nat):Int))=_;rw [abQ q.1]
 ·rw [N];show some (abO .u32 ((r.toNat:Nat):Int))=_;rw [abQ s.1]
 ·rw [O];show some (abO .u32 ((t.toNat:Nat):Int))=_;rw [abQ u.1]
 ·rw [P];show some (abO .u32 ((w.toNat:Nat):Int))=_;rw [abQ y.1]
 ·rw [Q];show some (abO .u32 ((A.toNat:Nat):Int))=_;rw [abQ C.1]
 ·rw [R];show some (abO .u32 ((D.toNat:Nat):Int))=_;rw [abQ E.1]
 ·rw [F];show some (abO .u64 ((a.toNat:Nat):Int))=_;rw [abQ b.1]
section
variable {H:Type} {enc:TypeId×Value->H} {W:World} {b0:Nat} {v:Value} {d:DataW H} {p:List MemPlace}
def zbm:Tryz.prog.cellsOf 280=11:=by kernel_rfl
def zhn {x:DataW H×List MemPlace} (a:adI enc abo W 0 (λ_=>true) true c 280 B=some x):∃e:Sm,rU e=B/\e.Ok:=by
 obtain ⟨b,f⟩:=Og q42 a
 exact q43 b f
def zbn {x:DataW H×List MemPlace} (a:adI enc abo W 0 (λ_=>true) true m 111 B=some x):
  ∃(A:Option Addr) (c:Nat) (l:List Sm),B=[.slice A (abn l) c]/\abn l<=c/\c<=maxLen/\(∀x∈l,x.Ok)/\Rd W W.heap.size 11 A (abn l) (l.flatMap rU):=
 Me rU Sm.Ok q0e zbm de D6 (λ_ _ _ h=>zhn h) a
def YH:Tryz.prog.cellsOf 61=1:=by kernel_rfl
def q44:Tryz.prog.cellsOf 111=1:=by kernel_rfl
def W32 (x:Nat):Value:= .int .u32 (x:Int)
def YI {x:DataW H×List MemPlace} (a:adI enc abo W 0 (λ_=>true) true c 61 B=some x):∃e:Nat,[W32 e]=B/\e<4294967296:=by
 obtain ⟨z,e1,_,b⟩:=ad4 X4 a
 have:=uI b
 exact ⟨z.toNat,by rw [e1];show [abO .u32 ((z.toNat:Nat):Int)]=_;rw [abQ this.1],by omega⟩
theorem zho {a b c d e f:Value} (g:abn B=6) (j:B[0]?=some a) (h1:B[1]?=some b) (k:B[2]?=some c) (l:B[3]?=some d) (m:B[4]?=some e) (n:B[5]?=some f):B=[a,b,c,d,e,f]:=by
 refine ET g λi hi=>?_
 have h:i<6:=hi
 have hc:i=0\/i=1\/i=2\/i=3\/i=4\/i=5:=by omega
 rcases hc with rfl|rfl|rfl|rfl|rfl|rfl<;>assumption
end
end
def qv:Nat->List Nat->List Bk×Nat×Nat
 |0,_=>([],0,0)
 | f + 1, l => if abn l = 0 then ([], 0, 0) else
  if (dz l).2.2≠0 then ([],0,(dz l).2.2) else
   ((dz l).1::(qv f (l.drop (dz l).2.1)).1,(dz l).2.1+(qv f (l.drop (dz l).2.1)).2.1,(qv f (l.drop (dz l).2.1)).2.2)
def yH (l:List Nat):List Bk×Nat×Nat:=if 524288<abn l then ([],0,3) else qv (abn l) l
def YJ {f:Nat} (h:abn l=0):qv f l=([],0,0):=by
 cases f with
 |zero=>rfl
 |succ f=>rw [qv,if_pos h]
def qum {b:Bk} (d:0<f) (h:0<abn l) (a:dz l=(b,m,er)) (c:er≠0):qv f l=([],0,er):=by
 cases f with
 |zero=>omega
 |succ f=>rw [qv,if_neg om,if_pos (by rw [a];exact c),a]
def YK {b:Bk} (c:0<f) (h:0<abn l) (a:dz l=(b,m,0)):qv f l=(b::(qv (f-1) (l.drop m)).1,m+(qv (f-1) (l.drop m)).2.1,(qv (f-1) (l.drop m)).2.2):=by
 cases f with
 |zero=>omega
 |succ f=>rw [qv,if_neg om,if_neg (by rw [a];exact λh=>h rfl),a];rfl
def YL (W:World) (g:Nat) (Inv:List Nat->List Fact->Prop) (Stop:List Fact->Prop):Prop:=
 ∀(a:List Nat) (F fr:List Fact) (w:World) (A:Option Addr) (c:Nat) (b:Bk) (m d:Nat),Inv a F->dz a=(b,m,d)->0<abn a->(∀x∈a,x<256)->abn b.evs<=c->Mem W w (.row (.slice A (abn b.evs) c) (abn b.evs) (b.evs.flatMap eD) 73 11::(F++fr))->
  YieldAt Fence.wide 0 abo g #[.agg #[.int .u8 (b.kind:Int),.int .u8 (b.cpu:Int),.int .i64 b.lost,.int .i64 b.next,.slice A (abn b.evs) c,.int .i64 (m:Int)],.int .i64 (d:Int)] w λe h=>∃f,Mem W h (f++fr)/\((d=0/\e= .returned (.bool true)/\Inv (a.drop m) f)\/(d≠0/\e= .returned (.bool false)/\Stop f))
def q45 (W:World) (Inv:List Nat->List Fact->Prop) (Stop:List Fact->Prop) (r:Ending) (b:World):Prop:=∃v,r= .returned v/\∃a,Mem W b a/\(Inv [] a\/Stop a)
theorem qmm {W:World} {fr:List Fact} {er:Nat} {I S:List Fact->Prop}:∀(e:Ending) (b:World),(∃a,Mem W b (a++fr)/\((er=0/\e= .returned (.bool true)/\I a)\/(er≠0/\e= .returned (.bool false)/\S a)))->∃v,e= .returned v:=by intros;grind
def aa2 {B:Nat} (h:Rd w B 1 A (abn l) (l.map B8)) (hk:k<=abn l) (hc:abn l<=c):Rd w B 1 (if c=k then A else A.map (·.add (k*1))) (abn (l.drop k)) ((l.drop k).map B8):=by
 rw [abC]
 exact h.E9 hk hc
def zef:SI abo 255 6:=⟨by kernel_rfl,by kernel_rfl⟩
def qwc (W w:World) (n q B:Nat) (A:Option Addr) (c:Nat) (l:List Nat) (Inv:List Nat->List Fact->Prop) (Stop:List Fact->Prop) (C:List Fact) (V:aT B W) (O:B<=W.heap.size) (hr:Rd W W.heap.size 1 A (abn l) (l.map B8)) (hc:abn l<=c) (Y:∀b∈l,b<256) (hn:abn l<=100000000)
    (hy:YL W q Inv Stop) (D:Inv l C) (e:Mem W w (.blk n #[abk A l c] 30::C)):
    Calls abo 178 (.func (.yield q) #[] #[]:: [vP n 0]).toArray w (q45 W Inv Stop):=by
 refine oD Tryz.func178 [.func (.yield q) #[] #[],vP n 0] [ahS q,(1,vP n 0)] λa Z=>?_
 refine Jb Z e ((JB) λa Z e=>?_)
 refine qg (λP aS wS=>∃(d:List Nat) (X:Option Addr) (k:Nat) (F:List Fact),(Inv d F)/\(Rd W W.heap.size 1 X (abn d) (d.map B8))/\(abn d<=k)/\(∀b∈d,b<256)/\(abn d<=abn l)/\P=abn d/\Fr aS 29 [] [ahS q,(1,vP n 0)]/\Mem W wS (.blk n #[abk X d k] 30::F)) (m:=abn l) ⟨l,A,c,C,D,hr,hc,Y,abr _,rfl,Z.sub kr,e.pt 1 [0]⟩ ?_
 clear Z e;rintro P a w_ ⟨d,X,k,F,Q,R,r,o,hrn,rfl,Z,e⟩
 refine Jb Z e ((JQ∘JP∘Jc O0∘Jl∘Jp 1∘bQ∘Jj) (Ji (λE=>?_) λE=>?_))
 ·
  have G:0<abn d:=by omega
  obtain ⟨b,m,x,H⟩:∃b m x,dz d=(b,m,x):=⟨_,_,_,rfl⟩
  refine (JT∘DU∘JB∘JP∘Jc O0∘JK (h:=by exact λe=>zbk X (abn d) k d B _ (V.mem e O) (e.le O) (e.old R) r rfl om o H)) λf g uV s=>(Jp 1∘Jx∘Jx∘Jx∘JA #[vB 0,vB 0,vI 0,vI 0,vN]) λw3 p=>(JV aG aO (h1:=by exact tC _ _ _)) λS=>(bM 2∘JQ) λa Z e=>?_
  refine wp_seq ?_
  refine Lm (i:=5) ?_
  refine Jb Z e ((Jp 1∘dZ aG O0∘Jp 1∘eH #[vB b.kind,vB b.cpu,vI b.lost,vI b.next,abk f b.evs g,vI m]∘Jp 1∘Jq) λa Z e=>?_)
  refine uN Z (i:=5) (vs:=[.agg #[vB b.kind,vB b.cpu,vI b.lost,vI b.next,abk f b.evs g,vI m],vI x]) rfl rfl rfl rfl rfl rfl de (hy d F _ _ f g b m x Q H G o s (aam (es:=[.blk p (b.cells f g) 85,.blk n #[abk X d k] 30]) (e.pt (fs':=(abm f b.evs g eD 73 11:: .blk p (b.cells f g) 85:: .blk n #[abk X d k] 30::F)) 3 [1,0,2]))) qmm ?_
  clear Z e;rintro v t a ⟨y,e,(⟨I,z,J⟩|⟨I,z,K⟩)⟩ Z<;>injection z with z<;>subst z
  ·
   replace e:Mem W t (.blk p (b.cells f g) 85:: .blk n #[abk X d k] 30::y):=aah (es:=[.blk p (b.cells f g) 85,.blk n #[abk X d k] 30]) e
   have u:=H;rw [I] at u;obtain ⟨T,L,_⟩:=PV u;have M:abn (d.drop m)<abn d:=by rw [abC];omega
   refine Jb Z e ((Jp 4∘Jo (.bool false) (by rw [I];simp)∘Jp 1∘aH∘Jq∘aU∘JR∘Jc O1∘Jp 1∘Jy (v:= .slice (if k=m then X else X.map (·.add (m*1))) (abn d-m) (k-m)) (h:=by exact aae bn (j:=m) rfl rfl rfl om)∘Jo (.slice (if k=m then X else X.map (·.add (m*1))) (abn (d.drop m)) (k-m)) (by rw [abC])∘JW fJ aO) λU=>(nT∘Jq) λa Z e=>?_)
   exact ⟨_,M,(d.drop m),if k=m then X else X.map (·.add (m*1)),k-m,y,J,aa2 R L r,by rw [abC];omega,xD o m,by omega,rfl,Z.sub kr,e.pt 2 [1]⟩
  ·
   replace e:Mem W t (.blk p (b.cells f g) 85:: .blk n #[abk X d k] 30::y):=aah (es:=[.blk p (b.cells f g) 85,.blk n #[abk X d k] 30]) e
   refine Jb Z e ((Jp 5∘aH∘Jq∘JT∘JZ) λa Z e=>?_)
   exact BA rfl Z (⟨_,rfl,y,aap [.blk p (b.cells f g) 85,.blk n #[abk X d k] 30] e,.inr K⟩)
 have N:d=[]:=afJ.1 om
 refine (JF∘JX) ?_
 subst N
 intro a Z e
 exact iF rfl Z (⟨_,rfl,F,aap [.blk n #[.slice X (abn ([]:List Nat)) k] 30] e,.inl Q⟩)
def q2j (A:Option Addr) (n c:Nat) (w:World):
    Calls abo 132 #[.slice A n c] w λr a=>∃g,r= .returned (.func (.func 178) #[] #[vP g 0])/\Mem w a [ahF g A n c]:=by
 refine (eF Tryz.func132 4) ?_
 exact (JP∘uT) λe b=>(Jp 1∘Jr∘Jy (h:=by exact Yl.makeFunc (fst:=[]) (caps:=[vP b 0]) rfl rfl rfl)∘Jp 1∘aK∘aP∘bC) λd=>by exact ⟨_,rfl,d⟩
def bP (bs:List Bk):List Nat:=bs.flatMap Bk.out
def fA:List Bk->Nat
 |[]=>0
 |b::t=>if b.err=0 then fA t else b.err
def q8 (bs:List Bk):List Nat×Nat:=if fA bs≠0 then ([],fA bs) else if 524288<abn (bP bs) then ([],3) else (bP bs,0)
def q0f (h:fA bs≠0):q8 bs=([],fA bs):=by unfold q8;rw [if_pos h]
def YM (h:fA bs=0) (a:524288<abn (bP bs)):q8 bs=([],3):=by unfold q8;rw [if_neg om,if_pos a]
def Qi (h:fA bs=0) (a:¬524288<abn (bP bs)):q8 bs=(bP bs,0):=by unfold q8;rw [if_neg om,if_neg a]
theorem Mg (bs:List Bk):(q8 bs).1.length<=524288:=by grind [q8]
def YN (h:k<abn q):fA ((q.drop k).map Hb.b)=if (q.getD k Hb.zero).b.err=0 then fA ((q.drop (k+1)).map Hb.b) else (q.getD k Hb.zero).b.err:=by
 rw [Qb Hb.zero h,acu,fA]
theorem YO (h:k<abn q):bP ((q.take (k+1)).map Hb.b)=bP ((q.take k).map Hb.b)++(q.getD k Hb.zero).b.out:=by grind [Hb.zero,bP,yF]
theorem zbo (bs:List Bk):abn (bP bs)<=4096*abn bs:=by induction bs<;>grind [PI,bP]
theorem q46 {q:List Hb} (k:Nat):abn (bP ((q.take k).map Hb.b))<=4096*abn q:=by grind [zbo]
def zhp (h:∀b∈bs,b.Ok):∀x∈bP bs,x<256:=by
 intro x a
 unfold bP at a
 obtain ⟨b,c,a⟩:=acw.1 a
 exact zlo (h b c) x a
def q47 (h:∀b∈bs,b.Ok):∀x∈(q8 bs).1,x<256:=by
 unfold q8
 split
 ·intro x a;cases a
 ·split
  ·intro x a;cases a
  ·exact zhp h
def kJ (next:Int):Bk:=⟨2,0,0,next,[]⟩
def zhq {next:Int} (h:aW next):(kJ next).Ok:=⟨by show 2<256;decide,by show 0<256;decide,by show aW 0;unfold aW;decide,h,by intro e a;cases a⟩
def readAll (l:List Nat):List Bk×Nat:=if (yH l).2.2≠0 then ([],(yH l).2.2) else ((yH l).1,0)
def Qj (h:524288<abn l):readAll l=([],3):=by unfold readAll yH;rw [if_pos h];rfl
def Qk (h:¬524288<abn l) (a:(qv (abn l) l).2.2=e) (b:e≠0):readAll l=([],e):=by unfold readAll yH;rw [if_neg h,if_pos om,a]
def Ql (h:¬524288<abn l) (a:(qv (abn l) l).2.2=0):readAll l=((qv (abn l) l).1,0):=by unfold readAll yH;rw [if_neg h,if_neg om]
section
variable {W w:World} {fs:List Fact} {t bt:TypeId}
def Gj {w w':World} {p:List Nat×Nat} {n:Int} (hb:Below w.heap.size w w') (a:p=([],er)) (b:n=er):zr w p.2 p.1 (.returned (.tuple #[vN,vI n])) w':=by
 subst a;subst b
 exact ⟨⟨none,0,rfl,acA _ _ _ _,abr _⟩,hb⟩
def YP {p:List Bk×Nat} {n:Int} (h:Mem W w fs) (a:p=([],er)) (b:n=er):Cb t bt W p.2 p.1 (.returned (.tuple #[vN,vI n])) w:=by
 subst a;exact zba h b
end
section
variable {W w w':World} {fs gs:List Fact} {f g1 g2:Fact}
end
section
variable {W w w':World} {fs gs:List Fact} {f1 f2:Fact}
end
def aa0 {a b:List Fact} {t:TypeId} (h:Mem W w (a++(eX t q++b))):lC w q:=h.F8 λ_ c=>acW _ (adh _ c)
def zhr {b:Bk} (h:b.err=0):13<=abn b.out:=by rw [L6 h];have:=Yo b;omega
def YQ:∀(bs:List Bk) (a:List Nat) (f:Nat),(∀b∈bs,b.Ok/\b.err=0)->abn (bP bs++a)<=f->
  abn a<=f-abn bs/\qv f (bP bs++a)=(bs++(qv (f-abn bs) a).1,abn (bP bs)+(qv (f-abn bs) a).2.1,(qv (f-abn bs) a).2.2)
 |[],a,f,_,c=>by
  refine ⟨c,?_⟩
  show qv f a=_
  simp [bP]
 |b::t,a,f,h,c=>by
  obtain ⟨g,d⟩:=h b acB
  have k:=zhr d
  have e:bP (b::t)++a=b.out++(bP t++a):=by unfold bP;rw [abK,abu]
  rw [e] at c⊢
  rw [abp] at c
  obtain ⟨l,i⟩:=YQ t a (f-1) (λx j=>h x (acd _ j)) om
  refine ⟨by rw [abT];omega,?_⟩
  rw [YK om (by rw [abp];omega) (zbf g d _),afj,i]
  have e2:f-1-abn t=f- (abn t+1):=by omega
  have e3:bP (b::t)=b.out++bP t:=by unfold bP;rw [abK]
  rw [abT,e2,e3,abp,Nat.add_assoc]
  rfl
def q48 (h:∀b∈bs,b.Ok/\b.err=0) (c:abn (bP bs)<=524288):yH (bP bs)=(bs,abn (bP bs),0):=by
 have a:=(YQ bs [] (abn (bP bs)) h (by simp)).2
 rw [abP,YJ (l:=[]) rfl] at a
 unfold yH
 rw [if_neg om,a,abP]
 rfl
def q0g {p:Nat} (h:yH l=(bs,p,0)):readAll l=(bs,0):=by unfold readAll;rw [h];rfl
theorem YR:∀{bs:List Bk},(∀b∈bs,b.err=0)->fA bs=0:=by intro x;induction x<;>grind [fA]
def q0h (h:∀b∈bs,b.err=0) (a:abn (bP bs)<=524288):q8 bs=(bP bs,0):=Qi (YR h) om
section
variable {W w:World} {a b c:List Fact} {t:TypeId} {q:List Hb}
end
instance YS:DecidableEq It:=λ⟨a,b⟩ ⟨c,d⟩=>decidable_of_iff (a=c/\b=d) (by rw [It.mk.injEq])
structure fP where
 x:Sb
 A:Option Addr
 c:Nat
def fP.zero:fP:=⟨⟨false,0,0,⟨0,0⟩,[]⟩,none,0⟩
def yI (h:fP):List Value:=(h.x.cells h.A h.c).toList
def YZ (h:fP):abn (yI h)=6:=rfl
structure pK (W:World) (h:fP):Prop where
 ok:h.x.Ok
 hc:abn h.x.l<=h.c
 hm:abn h.x.l<=9223372036854775807
 rd:Rd W W.heap.size 11 h.A (abn h.x.l) (h.x.l.flatMap rU)
def zlu:EI abo 102 113 (.agg (fP.zero.x.cells none 0)) 6 48:=⟨by kernel_rfl,by kernel_rfl,rfl,by omega⟩
def rA (l:List fP):List Bk:=l.map λh=>h.x.made
def q0i {l:List fP} (h:k<abn l):rA (l.take (k+1))=rA (l.take k)++[(l.getD k fP.zero).x.made]:=by
 unfold rA
 rw [yF fP.zero h,abU]
 rfl
def Y0 {l:List fP} (h:∀x∈l,pK W x):∀b∈rA l,b.Ok/\b.err=0:=λb a=>by
 unfold rA at a
 obtain ⟨x,c,rfl⟩:=ab0.1 a
 have:=YW (h x c).ok
 exact ⟨this.1,this.2.1⟩
def q5a {l:List fP} (h:∀x∈l,pK W x):∀b∈rA l,abn b.evs<=1000000:=λb a=>by
 unfold rA at a
 obtain ⟨x,c,rfl⟩:=ab0.1 a
 have:=(YW (h x c).ok).2.2
 omega
def Y1 (l:List fP):abn (rA l)=abn l:=by unfold rA;rw [abx]
theorem Aj (a:q.map Hb.b=bs) {p:Bk->Prop} (h:∀b∈bs,p b):∀x∈q,p x.b:=λx c=>h x.b (by rw [<-a];exact List.mem_map_of_mem c)
def Qn (q:List Hb):∀v∈q.flatMap hbL,v.oneCell'=true:=by
 intro v a
 obtain ⟨x,_,b⟩:=acw.1 a
 exact tC _ _ _ v b
section
open Go.ChangeShapes Go.WideShapes Go.ChangeAt
section
variable {H:Type} {enc:TypeId×Value->H} {W:World} {b0:Nat} {v:Value} {d:DataW H} {p:List MemPlace}
def zbq:Tryz.prog.underlying 4=some .bool:=by kernel_rfl
def q0j:Tryz.prog.cellsOf 4=1:=by kernel_rfl
def Gm:fieldAt abo 113 0 0 4=true:=by kernel_rfl
def Gn:fieldAt abo 113 1 1 5=true:=by kernel_rfl
def Gp:fieldAt abo 113 2 2 61=true:=by kernel_rfl
def Gq:fieldAt abo 113 3 3 110=true:=by kernel_rfl
def Gs:fieldAt abo 113 4 5 111=true:=by kernel_rfl
def Y2:Tryz.prog.cellsOf 113=6:=by kernel_rfl
def zhs:Tryz.prog.underlying 102=some (.slice 113):=by kernel_rfl
set_option maxRecDepth 100000 in
theorem zbr {y:DataW H×List MemPlace} (f:DataW.trod enc Tryz.prog W 0 (λ_=>true) true m 113 B=some y):∃x:fP,yI x=B/\pK W x:=by
 obtain ⟨g,_,M,k⟩:=q6 Gm f
 obtain ⟨_,_,N,n⟩:=q6 Gn f
 obtain ⟨_,_,O,o⟩:=q6 Gp f
 obtain ⟨_,_,P,q⟩:=q6 Gq f
 obtain ⟨_,_,Q,r⟩:=q6 Gs f
 rw [Y2] at g
 obtain ⟨e,h,_⟩:=DataW.trod_bool zbq k
 obtain ⟨cpu,e1,_,u⟩:=DataW.trod_int EN n
 obtain ⟨i,e2,w⟩:=YI o
 obtain ⟨_,j⟩:=Og q29 q
 obtain ⟨s,a,ws⟩:=j 0 .i64 rfl
 obtain ⟨t,b,z⟩:=j 1 .i64 rfl
 obtain ⟨A,c,l,e4,C,D,E,F⟩:=zbn r
 rw [q0j] at h
 rw [q9z] at e1
 rw [YH] at e2
 rw [q44] at e4
 have G:=uJ h
 have I:=uJ e1
 have J:=uJ e2.symm
 have K:=uJ e4
 rw [qzo,List.getElem?_take,List.getElem?_drop] at a b
 simp only [Nat.reduceLT,if_true] at a b
 have L:=jc u
 refine ⟨⟨⟨e,cpu.toNat,i,⟨s,t⟩,l⟩,A,c⟩,?_,⟨⟨by show cpu.toNat<256;omega,w,⟨VW ws,VW z⟩,E⟩,C,by unfold maxLen at D;show l.length<=_;omega,F⟩⟩
 refine ((zho g G I J a b K).trans ?_).symm
 show _=[Value.bool e,.int .u8 ((cpu.toNat:Nat):Int),.int .u32 (i:Int),.int .i64 s,.int .i64 t,.slice A l.length c]
 rw [Int.toNat_of_nonneg L.1]
 rfl
end
end
end Go.Proofs.YtekiimhdnigmcaaGreatDoor
