/- Parts. -/
import Derived.Test.YtekiimhdnigmcaaGreatDoorQwCrcP
import Derived.Test.YtekiimhdnigmcaaGreatDoorQwCheck
import Derived.Test.YtekiimhdnigmcaaGreatDoorQwVarint
import Derived.Test.YtekiimhdnigmcaaGreatDoorQwRef06f
import Derived.Test.YtekiimhdnigmcaaGreatDoorQwRWith
import Derived.Test.YtekiimhdnigmcaaGreatDoorQwCodV
import Derived.Test.YtekiimhdnigmcaaGreatDoorQwRef01
import Derived.Test.YtekiimhdnigmcaaGreatDoorQwDoorE
import Derived.Test.YtekiimhdnigmcaaGreatDoorQwZ3
set_option linter.all false
set_option maxRecDepth 100000
set_option maxHeartbeats 1000000
namespace Go.Proofs.YtekiimhdnigmcaaGreatDoor
open Go.RowKit
open List renaming length→abk
open _root_.Go.Proofs.Tryz renaming prog→abl,func278→agQ
open _root_.List renaming length_append→abm,getD_eq_getElem?_getD→abn,getElem?_eq_getElem→abt,length_take→abu,length_map→abv,getElem?_eq_some_iff→aby,append_assoc→abz,replicate→abB,mem_of_getElem?→abF,length_set→abG,length_drop→abH,take_of_length_le→abI,flatMap_cons→abL,append_nil→abN,flatMap_append→abO,map_append→abP,mem_cons→abQ,mem_of_mem_drop→abU,mem_append→abV,length_cons→abX,mem_cons_of_mem→ab2,length_replicate→ab4,take_append_drop→ab5,mem_map→acd,mem_of_mem_take→ach,drop_eq_getElem_cons→acu,not_mem_nil→acy,getElem_of_mem→acz,mem_append_right→acA,mem_cons_self→acB,mem_flatMap→acK,getElem?_drop→acO,eq_of_mem_replicate→acU,map_cons→acY,mem_append_left→acZ,drop_drop→ac3,range→ac4,mem_map_of_mem→ac8,getElem?_append_right→ac9,getElem?_map→adb,mem_singleton→adf,getElem?_eq_none→adg,perm_middle→adj,take_length→adn,drop_eq_nil_of_le→adq,append_inj→adr,length→adw,length_eq_zero_iff→adF,getElem?_cons_succ→adK,take_add_one→adX,getElem?_append_left→aeh,ext_getElem→aew,map_map→aey,map_drop→aeW,flatMap_map→aeY,set_cons_zero→ae2,getElem_map→afi,getElem?_take_of_lt→afl,set_append→afs,append_cancel_left→aft,getElem?_replicate→afu,head?_eq_getElem?→afA,mem_range→afF,map_congr_left→afX,map_take→afZ,range_succ→agw
open Nat renaming le_refl→abo,zero_le→abx,lt_or_ge→acj,eq_zero_or_pos→acn,zero_add→aco,add_zero→acL,add_sub_cancel_left→acN,le_trans→acS,mul_one→ac5,min_eq_left→ado,succ_mul→ads,mod_lt→adA,sub_self→adN,le_add_right→adZ,pow_le_pow_right→ad3,add_sub_cancel→aej,mul_succ→aeC,mul_le_mul_left→af7,mul_comm→agT
open Bool renaming and_eq_true→abC,true_and→acF,or_eq_true→adE,and_assoc→ad2
open Int renaming toNat_natCast→abD,toNat_of_nonneg→abM,toNat→ae4,le_refl→afd,tmod→afe,tmod_eq_of_lt→ags
open Value renaming int→abJ,bool→abS,oneCell'→acf,pointer→agG
open Go renaming IntKind→aci
open World renaming ownsRow_nil→acQ
open Addr renaming add_mid→acT
open Hb renaming b→ac0
open DataW renaming trod→adB,trod_int→adY
open Go.IntKind renaming wrap_i64→aen
open Rw renaming l→aeI
open Classical renaming byContradiction→aeX
open Lit renaming int→afc
open Decidable renaming of_not_not→afj
open List.Perm renaming cons→af0
open Eq renaming trans→af8
open Fact renaming blk→agF
open List.Sublist renaming refl→agK,append→ag0
variable {W w w':World} {l b xs q:List Nat} {F fs:List Fact} {α:Type} {A gA E:Option Addr} {k g c n x m e i cr most cpu f er p hi:Nat} {o:bC} {s:aY} {z:Value} {B:List Value} {bs:List Bk} {r:Ending}
def q47 {g n c i:Nat} {l:List Tk} {L:List Fact} (O:lq (fT (some ⟨g,0,none⟩) n c l) (fT (some ⟨g,0,none⟩) (n-1) c (l.eraseIdx i)) F L) (d:Mem W w F) (e:abk l=n) (a:n≤1000000) (hi:i<n):
  Calls abl 209 #[.slice (some ⟨g,0,none⟩) n c,vI i,vI ((i+1:Nat):Int)] w (λr b=>r= .returned (.slice (some ⟨g,0,none⟩) (n-1) c)∧Mem W b L):=by
 obtain ⟨p,q,rfl,rfl⟩:=O.split
 have h2:=d.perm adj
 obtain ⟨f,j,h3,h4⟩:=Dg (h2.own (i:=0) rfl)
 injection h3 with _ _ h5
 subst h5
 exact (qrs W w g n c i l (p++q) e a hi h4 h2).mono λr b h=>⟨h.1,h.2.perm List.perm_middle.symm⟩
theorem At.mem {a:α} {l:List α} (h:At l a):a∈l:=by
 induction h with
 |z=>exact acB ..
 |s _ b=>exact ab2 _ b
def ZC {n c i m:Nat} {l:List Tk} {k:Option Addr→Nat→List Fact} (t:Tk) (j:Nat) (O:∀e d,lq (fT A n c l) (fT e (n+1) d (iK l i t)) F (k e d)) (V:At F (.blk m t.cells 232)) (C:Mem W w F) (D:l.length=n) (o:n≤1000000) (hi:i≤n) (x:F[j]?=some (fT A n c l):=by exact rfl) (E:(λe d=>F.set j (fT e (n+1) d (iK l i t)))=k:=by kernel_rfl):
  Calls abl 205 #[.slice A n c,vI i,.slice (some ⟨m,0,none⟩) 1 1] w (λr y=>∃e d,r= .returned (.slice e (n+1) d)∧n+1≤d∧Mem W y (k e d)):=by
 have f:=(aby.1 x).1
 obtain ⟨p,q,z,g⟩:∃p q,F=p++fT A n c l::q∧∀b,F.set j b=p++b::q:=⟨F.take j,F.drop (j+1),by rw [←(aby.1 x).2,←acu f,ab5],λb=>by rw [List.set_eq_take_append_cons_drop,if_pos f]⟩
 have h2:=(z▸C).perm (adj (l₁:=p) (a:=fT A n c l) (l₂:=q))
 obtain ⟨e,d,h3,h4⟩:=Dg (h2.own (i:=0) rfl)
 injection h3 with _ _ h5
 subst h5
 have B:=V.mem
 rw [z] at B
 have v:agF m t.cells 232∈p++q:=by
  rcases abV.1 B with h|h
  ·exact acZ _ h
  ·rcases abQ.1 h with h|h
   ·cases h
   ·exact acA _ h
 obtain ⟨s,u,hs⟩:=List.append_of_mem v
 rw [hs] at h2
 have h6:=h2.perm (af0 _ (adj (l₁:=s) (a:=agF m t.cells 232) (l₂:=u)))
 refine (qrr W w A n c i l t m (s++u) D o hi h4 h6).mono λr y ⟨e,d,e1,e2,e3⟩=>⟨e,d,e1,e2,?_⟩
 have h7:=e3.perm (af0 _ (adj (l₁:=s) (a:=agF m t.cells 232) (l₂:=u)).symm)
 rw [←hs] at h7
 have h8:=h7.perm (adj (l₁:=p) (l₂:=q)).symm
 rw [←g] at h8
 have h9:=congrFun (congrFun E e) d
 rw [←h9]
 exact h8
def zf3 {L:List Fact} (t t1:Tk) (x:En) (h1:t.put x=t1) (O:lq (.blk g t.cells 232) (.blk g t1.cells 232) F L) (a:Mem W w F) (b:x.Ok):
  Calls abl 202 #[vP g 0,.agg x.cells] w (λr c=>r= .returned (.tuple #[])∧Mem W c L):=by
 subst h1
 exact zfq t x O a b
def q48 {l:List Tk} {t:Tk} (a:abk l=n) (hr:Rd w w.heap.size 8 A n (l.flatMap bI)) (b:abk l≤1000000) (d:w.heap[g]?=some (.cells t.cells 232 (0,0))):Calls abl 203 #[.slice A n c,.func (.func 204) #[] #[vP g 0]] w (rH w l t.id):=by
 subst a
 exact qz4 A c l t g w hr b d
theorem LX {x:aC} {b a yB GA:Nat} {GD:Option Addr} {ts':List Tk} (h:rF x c m n b a) (ht:abk ts'=yB):rF {x with tA:=GD,tc:=GA,ts:=ts'} c m n yB a:=⟨h.g,h.l,h.u,ht,h.s⟩
theorem LY {cp:Int} (hc:cp=(c:Int)) (h:1≤o.weight∧o.weight≤65536∧o.mask≠0∧¬2^c≤o.mask):¬(lV o.weight=false∨o.mask=0∨wX o.mask cp=true):=by
 subst hc
 rintro (h1|h1|h1)
 ·exact of_decide_eq_false h1 ⟨h.1,h.2.1⟩
 ·exact h.2.2.1 h1
 ·exact h.2.2.2 (of_decide_eq_true h1)
theorem zai {cp:Int} (hc:cp=(c:Int)) (h:¬(1≤o.weight∧o.weight≤65536∧o.mask≠0∧¬2^c≤o.mask)):lV o.weight=false∨o.mask=0∨wX o.mask cp=true:=by
 subst hc
 by_cases h1:1≤o.weight∧o.weight≤65536
 ·by_cases h2:o.mask=0
  ·exact .inr (.inl h2)
  ·exact .inr (.inr (decide_eq_true (aeX λh3=>h ⟨h1.1,h1.2,h2,h3⟩)))
 ·exact .inl (decide_eq_false h1)
def ZE (W w:World) (x:aC) (gm:Nat) (J K I D L:Nat) (p:dB x J K I D L) (o:bC) (E:o.Ok) (T:List Fact) (b:Mem W w (jq gm x J K I D L++T)) (M:∀c,c<abk x.cu→dV x.av c=true):
    Calls abl 150 #[vP gm 0,.agg o.cells] w (j5 W gm T (rD x.av o)):=by
 obtain ⟨cp,cr,gA,gc,gs,lA,lc,cl,uA,uc,cu,tA,tc,ts,sA,sc,rs⟩:=x
 replace b:Mem W w (fM gm cp cr gA J gc lA K lc uA I uc tA D tc sA L sc::fG gA J gc gs::fI lA K lc cl::fI uA I uc cu::fT tA D tc ts::fS sA L sc rs::(fR rs++(T))):=b
 obtain ⟨N,O,A,B,P⟩:=p.ln
 replace N:abk gs=J:=N;replace O:abk cl=K:=O;replace A:abk cu=I:=A;replace B:abk ts=D:=B;replace P:abk rs=L:=P
 have d:=p.ln
 have hsp:eu gs cp rs:=p.spots
 have hrg:abk rs=abk gs:=p.sh.rs
 have hcr:cr<18446744073709551616:=p.ok.aj
 obtain ⟨F,G,_,C⟩:=lW p.sh.cfg
 replace F:1≤cp:=F;replace G:cp≤64:=G;replace C:bV gs=true:=C
 have nE:=(qp C).1;have nG:=(qp C).2.1
 have pF:(abk cl:Int)=cp:=p.sh.cl;have oh:(abk cu:Int)=cp:=p.sh.cu
 have nH:abk ts≤1000000:=p.few.t
 have hoc:=E.cpu;have hot:=E.task;have hog:=E.group;have how:=E.weight;have Q:=E.to;have R:=E.ticks;have yF:=E.mask;have pG:=E.kind;unfold aQ at hoc hot hog how Q R
 have S:=p.ok.cu
 obtain ⟨j,rfl⟩:=zl (b.own (i:=3) rfl) om
 refine (lX b Tryz.func150 60) ?_
 refine (JP∘JE) λw3 g3=>(Jp 2∘Jj∘JQ∘JP∘Jp 1∘Jg 1 O0∘JI (h:=by exact λb=>DL 1 b rfl p o.cpu)) λwW hbw=>(Jp 1∘dU∘Jj) (oJ (λe=>?_) λe=>?_)
 ·
  exact (JT∘JP∘Jp 2∘Jj∘JZ∘bH) λb=>by exact qq (y:=(⟨cp,cr,gA,gc,gs,lA,lc,cl,some ⟨j,0,none⟩,uc,cu,tA,tc,ts,sA,sc,rs⟩:aC)) 1 b rfl d (if_pos (decide_eq_false e))
 replace e:0≤o.cpu∧o.cpu<cp:=e
 obtain ⟨c,q⟩:∃n:Nat,o.cpu=(n:Int):=⟨o.cpu.toNat,by omega⟩
 have qR:((c:Nat):Int)<cp:=by omega
 obtain ⟨id,m⟩:∃z,cu.getD c 0=z:=⟨_,rfl⟩
 have U:aQ id:=by rw [←m];exact S _ (qe 0 (by show c<abk cu;omega))
 intro a Z b
 unfold aQ at U
 refine Jb Z b ((JF∘aD) λa Z b=>?_)
 refine wp_seq ?_
 refine Jb Z b ((Vs .n []) λwd3=>(Vp [0]∘Vf 5 1∘Vn 1∘Vf 2 0∘Vf 3 4∘Vc 4 O1∘Vc 6 O0∘Vo (vI c) (by rw [q])∘Vy 7 (h:=by exact Yl.iH j c 1 rfl rfl rfl)∘Vy 8 (v:=vI (cu.getD c 0)) (h:=by exact aae 4 c 0 om rfl rfl rfl)∘Vo (vI id) (by rw [m])∘Vp [9]∘Vd∘aF∘JQ∘JP∘Jp 2∘aK∘Jj) (Je (λV=>?_) λV=>?_))
 ·
  exact (JT∘JP∘Jp 2∘Jj∘JZ∘bH) λb=>by exact qq (y:=(⟨cp,cr,gA,gc,gs,lA,lc,cl,some ⟨j,0,none⟩,uc,cu,tA,tc,ts,sA,sc,rs⟩:aC)) 1 b rfl d ((if_neg (nf (decide_eq_true e))).trans (if_pos (by show cu.getD o.cpu.toNat 0=0;rw [q,abD,m];omega)))
 have r:id≠0:=by omega
 have H:=Zt (x:=(⟨cp,cr,gA,gc,gs,lA,lc,cl,some ⟨j,0,none⟩,uc,cu,tA,tc,ts,sA,sc,rs⟩:aC)) (M c (by show c<abk cu;omega)) (by show cu.getD c 0≠0;rw [m];exact r)
 rw [show (aC.cu (⟨cp,cr,gA,gc,gs,lA,lc,cl,some ⟨j,0,none⟩,uc,cu,tA,tc,ts,sA,sc,rs⟩:aC)).getD c 0=id from m] at H
 obtain ⟨k,t,X,ht,Y,yG⟩:=H
 replace X:fidx ts id=(k:Int):=X;replace ht:ts[k]?=some t:=ht;replace Y:k<abk ts:=Y
 repeat (first|clear Z|clear b)
 intro a Z b
 obtain ⟨u,rfl⟩:=b.rat 5 k (hk:=(by omega:k<D))
 refine Jb Z b ((JF∘aD∘JP∘Jp 2∘JI (h:=by exact λb=>Zr 1 b rfl p id k X)) λLJ hbw=>(Jp 1∘dU∘Jj) λa Z b=>?_)
 refine wp_seq ?_
 refine Jb Z b ((Vs (.t (.t (.t (.t (.f .n))))) [17]) λWi=>(Vp [0]∘Vf 5 1∘Vp [7,12]∘Vn 1∘Vf 2 0∘Vf 3 4∘Vc 4 O1∘Vc 6 O0∘Vo (vI c) (by rw [q])∘Vn 8∘Vf 9 0∘Vf 10 5∘Vc 11 O1∘Vy 13 (h:=by exact Yl.iH j c 1 rfl rfl rfl)) λa Z b HS=>?_)
 refine s_on Z 14 rfl ?_
 refine qw Z b (i:=4) rfl rfl rfl rfl kr rfl rfl (by rw [abv];omega) λZF b=>?_
 replace b:=b.bM (i:=4) (ys:=(cu.set c 0).map aP) rfl (Ku aP cu c 0 om)
 refine ay (b.pt 7 [0,1,2,3,5,6]) (λHS=>?_)
 refine Vb Z b HS ((Vu 15 (h:=by exact λ_=>Yl.iH u k 8 rfl rfl rfl)∘Vf 16 5) λa Z b HS=>?_)
 refine s_on Z 17 rfl ?_
 refine qw Z b (i:=5) rfl rfl rfl rfl kr rfl rfl (by rw [zk bI 8 qk];omega) λZG b=>?_
 replace b:=b.bM (i:=5) (ys:=(ts.set k {t with ready:=false}).flatMap bI) rfl (ze bI 8 qk ts k t {t with ready:=false} ht 5 de _ rfl)
 refine dM kr ?_
 refine qd kr ?_
 refine Jb Z b ((JQ∘JP∘Jg 0 O0∘Jp 1∘aF∘Jj) (Je (λuF=>?_) λuF=>?_))
 ·
  exact (JT∘JR∘Jp 2∘Jn∘Jf 0∘Jg 5 O1∘Jp 2∘cK 1∘JO (h:=by exact λb=>q47 uw b (by rw [abG];exact B) om om)) λw55=>(Jn∘Jf 0∘Jf 5∘JW fO uw) λZH=>(iA∘Jr∘Jp 3∘Jj∘JZ∘bH) λb=>by exact qq (y:=(⟨cp,cr,gA,gc,gs,lA,lc,cl,some ⟨j,0,none⟩,uc,(cu.set c 0),some ⟨u,0,none⟩,tc,((ts.set k {t with ready:=false}).eraseIdx k),sA,sc,rs⟩:aC)) 1 b rfl ⟨d.g,d.l,by show abk (cu.set _ _)=I;rw [abG];exact A,by show abk ((ts.set k _).eraseIdx k)=D-1;rw [List.length_eraseIdx,abG,if_pos om];omega,d.s⟩ (q91 (x:=(⟨cp,cr,gA,gc,gs,lA,lc,cl,some ⟨j,0,none⟩,uc,cu,some ⟨u,0,none⟩,tc,ts,sA,sc,rs⟩:aC)) (decide_eq_true e) q m r X ht om)
 exact (JF∘aD∘JP∘Jp 3∘Jj∘JZ∘bH) λb=>by exact qq (y:=(⟨cp,cr,gA,gc,gs,lA,lc,cl,some ⟨j,0,none⟩,uc,(cu.set c 0),some ⟨u,0,none⟩,tc,(ts.set k {t with ready:=false}),sA,sc,rs⟩:aC)) 1 b rfl ⟨d.g,d.l,by show abk (cu.set _ _)=I;rw [abG];exact A,by show abk (ts.set k _)=D;rw [abG];exact B,d.s⟩ (qzq (x:=(⟨cp,cr,gA,gc,gs,lA,lc,cl,some ⟨j,0,none⟩,uc,cu,some ⟨u,0,none⟩,tc,ts,sA,sc,rs⟩:aC)) (decide_eq_true e) q m r X ht om)
def quc (W w:World) (x:aC) (H:Nat) (M N O E J:Nat) (R:dB x M N O E J) (o:bC) (ho:o.Ok) (T:List Fact) (b:Mem W w (jq H x M N O E J++T)):
    Calls abl 148 #[vP H 0,.agg o.cells] w (j5 W H T (xY x.av o)):=by
 obtain ⟨cp,cr,gA,gc,gs,lA,lc,cl,uA,uc,cu,tA,tc,ts,sA,sc,rs⟩:=x
 replace b:Mem W w (fM H cp cr gA M gc lA N lc uA O uc tA E tc sA J sc::fG gA M gc gs::fI lA N lc cl::fI uA O uc cu::fT tA E tc ts::fS sA J sc rs::(fR rs++(T))):=b
 obtain ⟨mg,hll,nD,hlt,hls⟩:=R.ln
 replace mg:abk gs=M:=mg;replace hll:abk cl=N:=hll;replace nD:abk cu=O:=nD;replace hlt:abk ts=E:=hlt;replace hls:abk rs=J:=hls
 have u:=R.ln
 have hsp:eu gs cp rs:=R.spots
 have hrg:abk rs=abk gs:=R.sh.rs
 have hcr:cr<18446744073709551616:=R.ok.aj
 obtain ⟨hcp1,S,_,V⟩:=lW R.sh.cfg
 replace hcp1:1≤cp:=hcp1;replace S:cp≤64:=S;replace V:bV gs=true:=V
 have nE:=(qp V).1;have nG:=(qp V).2.1
 have pF:(abk cl:Int)=cp:=R.sh.cl;have oh:(abk cu:Int)=cp:=R.sh.cu
 have nH:abk ts≤1000000:=R.few.t
 have hoc:=ho.cpu;have hot:=ho.task;have hog:=ho.group;have how:=ho.weight;have oo:=ho.to;have oq:=ho.ticks;have yF:=ho.mask;have pG:=ho.kind;unfold aQ at hoc hot hog how oo oq
 obtain ⟨cn,X⟩:∃n:Nat,cp=(n:Int):=⟨cp.toNat,by omega⟩
 obtain ⟨d,rfl⟩:=zl (b.own (i:=5) rfl) om
 refine (lX b Tryz.func148 139) ?_
 refine (JP∘JE) λw3 g3=>(Jp 2∘Jr∘Jp 1∘Jn∘Jf 0∘Jp 1∘dU∘Jj∘JQ∘JB∘JP∘Jp 1∘Jg 1 O0∘JI (h:=by exact λb=>DL 1 b rfl R o.cpu)) λQS I=>(Jp 2∘gG∘Jj) (oJ (λk=>?_) λk=>?_)
 ·
  exact (JT∘JP∘Jp 2∘Jj∘JZ∘bH) λb=>by exact qq (y:=(⟨cp,cr,gA,gc,gs,lA,lc,cl,uA,uc,cu,tA,tc,ts,some ⟨d,0,none⟩,sc,rs⟩:aC)) 1 b rfl u (if_pos (decide_eq_false k))
 replace k:0≤o.cpu∧o.cpu<cp:=k
 obtain ⟨c,F⟩:∃n:Nat,o.cpu=(n:Int):=⟨o.cpu.toNat,by omega⟩
 have qR:((c:Nat):Int)<cp:=by omega
 refine (JF∘JP∘Jg 2 O0∘JI (h:=by exact λb=>Lu o.task _)) λw24 I=>(Jp 2∘dU∘Jj) (oJ (λB=>?_) λB=>?_)
 ·
  exact (JT∘JP∘Jp 2∘Jj∘JZ∘bH) λb=>by exact qq (y:=(⟨cp,cr,gA,gc,gs,lA,lc,cl,uA,uc,cu,tA,tc,ts,some ⟨d,0,none⟩,sc,rs⟩:aC)) 1 b rfl u ((if_neg (nf (decide_eq_true k))).trans (if_pos (decide_eq_false B)))
 refine (JF) λa Z b=>?_
 refine zb (λaS wS=>Fr aS 139 [] [(26,.bool (!(decide (0≤o.group∧o.group<abk rs)))),(21,.bool false),(15,.bool false),(6,vP H 0),(5,vI 0),(4,vI 0),(3,vP g3 0),(0,vP H 0)]∧Mem W wS (.blk g3 o.cells 214::fM H cp cr gA M gc lA N lc uA O uc tA E tc (some ⟨d,0,none⟩) J sc::fG gA M gc gs::fI lA N lc cl::fI uA O uc cu::fT tA E tc ts::fS (some ⟨d,0,none⟩) J sc rs::(fR rs++(T)))) ?_ ?_
 ·
  refine Jb Z b ((Vs .n []) λLV=>(Vf 0 3∘Vc 1 O0∘Vp [2,3]) λa Z b e=>?_)
  rcases Z.tf 30 rfl with ⟨Ci,Z⟩|⟨Ci,Z⟩
  ·
   have Rh:=of_decide_eq_true Ci
   refine Vb Z b e ((Vq [4,5,6,7,8,9,10,11,12,13] [(26,.bool true)]∘Vd∘lT) λa Z b=>?_)
   have Z:=Z.sp 26 (.bool (!(decide (0≤o.group∧o.group<abk rs)))) rfl (congrArg abS (by rw [decide_eq_false om];rfl))
   exact ⟨Z.sub kr,b.pt 7 [0,1,2,3,4,5,6]⟩
  have Rh:=of_decide_eq_false Ci
  refine ap Z (λ_=>e) [4,6] (bf 14 [0,1,2,3,4,6]) [(33,vP H 0),(31,vP g3 3)] λa Z=>?_
  refine dR Z e 5 0 (v:=vI o.group) λa Z=>?_
  refine nV Z e 7 λa Z=>?_
  refine ap Z (λ_=>e) [8] (bt 14 [9,10,11,12,13]) [(35,vP H 6)] λa Z=>?_
  refine dR Z e 9 1 λa Z=>?_
  refine xM Z e 10 λa Z=>?_
  refine ap Z (λ_=>e) [11,12,13] (bt 14 []) [(26,.bool (decide ((o.group:Int)≥(J:Int))))] λa Z=>?_
  refine qd kr ?_
  have Z:=Z.sp 26 (.bool (!(decide (0≤o.group∧o.group<abk rs)))) rfl (congrArg abS (by rw [←decide_not];exact decide_eq_decide.2 om))
  exact ⟨Z.sub kr,b.pt 7 [0,1,2,3,4,5,6]⟩
 clear Z b;rintro a w6 ⟨Z,b⟩
 refine Jb Z b (oJ (λD=>?_) λD=>?_)
 ·
  exact (JT∘JP∘Jp 2∘Jj∘JZ∘bH) λb=>by exact qq (y:=(⟨cp,cr,gA,gc,gs,lA,lc,cl,uA,uc,cu,tA,tc,ts,some ⟨d,0,none⟩,sc,rs⟩:aC)) 1 b rfl u ((if_neg (nf (decide_eq_true k))).trans ((if_neg (nf (decide_eq_true B))).trans (if_pos (by show ¬(0≤o.group∧o.group<(abk (rs.map aeI):Nat));rw [abv];exact D))))
 obtain ⟨g,hgg⟩:∃n:Nat,o.group=(n:Int):=⟨o.group.toNat,by omega⟩
 refine (JF) λa Z b=>?_
 refine zb (λaS wS=>Fr aS 139 [] [(40,.bool (!(decide (1≤o.weight∧o.weight≤65536∧o.mask≠0∧¬2^cn≤o.mask)))),(26,.bool false),(21,.bool false),(15,.bool false),(6,vP H 0),(5,vI 0),(4,vI 0),(3,vP g3 0),(0,vP H 0)]∧Mem W wS (.blk g3 o.cells 214::fM H cp cr gA M gc lA N lc uA O uc tA E tc (some ⟨d,0,none⟩) J sc::fG gA M gc gs::fI lA N lc cl::fI uA O uc cu::fT tA E tc ts::fS (some ⟨d,0,none⟩) J sc rs::(fR rs++(T)))) ?_ ?_
 ·
  refine Jb Z b ((Vs .n []) λLM=>(Vf 0 4∘Vc 1 O0) λa Z b e=>?_)
  refine s_on Z 2 rfl ?_
  refine kQ Z [vI o.weight] rfl rfl (Lb o.weight _) ?_
  rintro _ PG ⟨rfl,I⟩
  refine ⟨_,rfl,?_⟩
  replace b:=b.call I
  clear Z;intro a Z
  refine ay (b.pt 7 [0,1,2,3,4,5,6]) (λe=>?_)
  refine Vb Z b e ((Vp [3,4]) λa Z b e=>?_)
  rcases Z.tf 45 rfl with ⟨Cj,Z⟩|⟨Cj,Z⟩
  ·
   have uF:=of_decide_eq_false ((Bool.not_eq_true' _).mp Cj)
   refine Vb Z b e ((Vq [5,6,7,8,9,10,11,12,13,14,15,16,17,18,19] [(40,.bool true)]∘Vd∘aF) λa Z b=>?_)
   have Z:=Z.sp 40 (.bool (!(decide (1≤o.weight∧o.weight≤65536∧o.mask≠0∧¬2^cn≤o.mask)))) rfl (congrArg abS (by rw [decide_eq_false (λh=>by omega)];rfl))
   exact ⟨Z.sub kr,b.pt 7 [0,1,2,3,4,5,6]⟩
  have uF:=of_decide_eq_true ((Bool.not_eq_false' _).mp Cj)
  refine ap Z (λ_=>e) [5] (bf 20 [0,1,2,3,4,5]) [(46,vP g3 7)] λa Z=>?_
  refine dR Z e 6 0 (v:=vQ o.mask) λa Z=>?_
  refine ap Z (λ_=>e) [7,8,9] (bf 20 [0,1,2,3,4,5,6,7,8,9]) [(50,.bool ((o.mask:Int)==(0:Int)))] λa Z=>?_
  refine Jb Z b (Je (λRi=>?_) λRi=>?_)
  ·
   intro a Z b
   refine ap Z (λ_=>e) [10,11,12,13,14,15,16,17,18,19] (bt 20 []) [(40,.bool true)] λa Z=>?_
   refine qd kr ?_
   have Z:=Z.sp 40 (.bool (!(decide (1≤o.weight∧o.weight≤65536∧o.mask≠0∧¬2^cn≤o.mask)))) rfl (congrArg abS (by rw [decide_eq_false (λh=>by omega)];rfl))
   exact ⟨Z.sub kr,b.pt 7 [0,1,2,3,4,5,6]⟩
  intro a Z b
  refine ap Z (λ_=>e) [10,12] (bt 20 [11,13,14,15,16,17,18,19]) [(53,vP H 0),(51,vP g3 7)] λa Z=>?_
  refine dR Z e 11 0 (v:=vQ o.mask) λa Z=>?_
  refine nV Z e 13 λa Z=>?_
  refine ap Z (λ_=>e) [14,15] (bt 20 [16,17,18,19]) [(56,vP H 0)] λa Z=>?_
  refine dR Z e 16 1 λa Z=>?_
  replace Z:=Z.sp 57 (vI cn) rfl (by rw [X];try rfl)
  refine s_on Z 17 rfl (iV Z b [vQ o.mask,vI cn] (.bool (decide (2^cn≤o.mask))) rfl rfl (Yb o.mask cn yF ⟨by omega,by omega⟩ _) λLZ I b a Z=>?_)
  refine ay (b.pt 7 [0,1,2,3,4,5,6]) (λe=>?_)
  refine ap Z (λ_=>e) [18,19] (bt 20 []) [(40,.bool (decide (2^cn≤o.mask)))] λa Z=>?_
  refine qd kr ?_
  have Z:=Z.sp 40 (.bool (!(decide (1≤o.weight∧o.weight≤65536∧o.mask≠0∧¬2^cn≤o.mask)))) rfl (congrArg abS (by rw [←decide_not];exact decide_eq_decide.2 ⟨λh1 h2=>h2.2.2.2 h1,λh1=>aeX λh2=>h1 ⟨by omega,by omega,by omega,h2⟩⟩))
  exact ⟨Z.sub kr,b.pt 7 [0,1,2,3,4,5,6]⟩
 clear Z b;rintro a w8 ⟨Z,b⟩
 refine Jb Z b (oJ (λG=>?_) λG=>?_)
 ·
  exact (JT∘JP∘Jp 2∘Jj∘JZ∘bH) λb=>by exact qq (y:=(⟨cp,cr,gA,gc,gs,lA,lc,cl,uA,uc,cu,tA,tc,ts,some ⟨d,0,none⟩,sc,rs⟩:aC)) 1 b rfl u ((if_neg (nf (decide_eq_true k))).trans ((if_neg (nf (decide_eq_true B))).trans ((if_neg (by show ¬¬(0≤o.group∧o.group<(abk (rs.map aeI):Nat));rw [abv];exact not_not_intro D)).trans (if_pos (zai X G)))))
 obtain ⟨z,xA⟩:∃n:Nat,o.weight=(n:Int):=⟨o.weight.toNat,by omega⟩
 have hz:1≤z∧z≤65536:=by omega
 have hmb:=Nat.div_le_self o.mask (2^c)
 refine (JF∘JP∘Jp 1∘Jg 2 O0∘JI (h:=by exact λb=>Gf 1 b rfl R o.task)) λw64 I=>(Jp 2∘gG∘Jj) (Ji (λK=>?_) λK=>?_)
 ·
  replace K:fidx ts o.task≥0:=K
  exact (JT∘JP∘Jp 2∘Jj∘JZ∘bH) λb=>by exact qq (y:=(⟨cp,cr,gA,gc,gs,lA,lc,cl,uA,uc,cu,tA,tc,ts,some ⟨d,0,none⟩,sc,rs⟩:aC)) 1 b rfl u ((if_neg (nf (decide_eq_true k))).trans ((if_neg (nf (decide_eq_true B))).trans ((if_neg (by show ¬¬(0≤o.group∧o.group<(abk (rs.map aeI):Nat));rw [abv];exact not_not_intro D)).trans ((if_neg (LY X G)).trans (if_pos (by show 0≤fidx ts o.task;omega))))))
 replace K:¬(fidx ts o.task≥0):=K
 refine (JF∘JP∘Jg 7 O0∘Jf 1∘Jc O0∘Jo (vI c) (by rw [F])∘Jy (v:=vQ (o.mask/2^c:Nat)) (h:=by exact aar (m:=o.mask) (n:=c) rfl rfl rfl (by show _≤64;omega))∘Jp 1∘Jo (vQ ((o.mask/2^c)%2:Nat)) (by exact Kw (n:=1) (j:=1) rfl de om)∘Jp 2∘aF∘Jj) (Je (λCk=>?_) λCk=>?_)
 ·
  exact (JT∘JP∘Jp 2∘Jj∘JZ∘bH) λb=>by exact qq (y:=(⟨cp,cr,gA,gc,gs,lA,lc,cl,uA,uc,cu,tA,tc,ts,some ⟨d,0,none⟩,sc,rs⟩:aC)) 1 b rfl u ((if_neg (nf (decide_eq_true k))).trans ((if_neg (nf (decide_eq_true B))).trans ((if_neg (by show ¬¬(0≤o.group∧o.group<(abk (rs.map aeI):Nat));rw [abv];exact not_not_intro D)).trans ((if_neg (LY X G)).trans ((if_neg (by show ¬0≤fidx ts o.task;omega)).trans (if_pos (Zw rfl F om)))))))
 obtain ⟨em,hem⟩:∃l,kL (⟨cp,cr,gA,gc,gs,lA,lc,cl,uA,uc,cu,tA,tc,ts,some ⟨d,0,none⟩,sc,rs⟩:aC).av g c=l:=⟨_,rfl⟩
 have sO:=λh hh=>QB (x:=(⟨cp,cr,gA,gc,gs,lA,lc,cl,uA,uc,cu,tA,tc,ts,some ⟨d,0,none⟩,sc,rs⟩:aC)) R (by omega:g<J) hem h hh
 have sP:=QC (x:=(⟨cp,cr,gA,gc,gs,lA,lc,cl,uA,uc,cu,tA,tc,ts,some ⟨d,0,none⟩,sc,rs⟩:aC)) R (by omega:g<J) hem
 obtain ⟨⟨yA,yc,yl⟩,hy⟩:∃y,rs.getD g Rw.zero=y:=⟨_,rfl⟩
 have hys:=hsp g om;rw [hy] at hys
 have hyl:(abk yl:Int)=cp:=hys.1
 repeat (first|clear Z|clear b)
 intro a Z b
 obtain ⟨gy,rfl⟩:=b.jw 7 rfl om hy om
 obtain ⟨Y,hyz⟩:∃z,yl[c]?=some z:=⟨_,abt om⟩
 have mP:=hys.2 Y (abF hyz)
 have hyv:=mP.1.v;have p9:=mP.1.r;have rJ:=mP.1.floor
 obtain ⟨C,ht1⟩:∃t,(⟨o.task,o.group,0,o.cpu,o.mask,true,0,0⟩:Tk).put (⟨Y.floor,0,z⟩:En)=t:=⟨_,rfl⟩
 have GH:C.id=o.task:=by rw [←ht1];rfl
 refine Jb Z b ((JF∘aD∘JP∘Jp 1∘Jf 3∘Jc O0∘Jo (vI g) (by rw [hgg])∘Jf 1∘Jc O0∘Jo (vI c) (by rw [F])∘JK (h:=by exact λb=>QA 1 b rfl R (by show ((c:Nat):Int)<cp;omega) om hem)) λGI GJ Yi Rj=>(Jp 1∘aF∘Jr∘Jg 2 O1∘Jg 3 O1∘Jg 1 O1∘Jg 7 O1∘eH #[vI o.task,vI o.group,vI 0,vI o.cpu,vQ o.mask,.bool true,vQ 0,vW 0]∘JA #[vI 0,vI 0,vI 0,vI 0,vQ 0,.bool false,vQ 0,vW 0]) λw8 g8=>(JV fu aU) λRk=>(lT∘Jj) λa Z b=>?_)
 refine zb (λaS wS=>∃(g9:Nat),Fr aS 139 [] [(9,vP g9 0),(8,vP g8 0),(7,abg GI em GJ),(66,.bool false),(60,.bool false),(40,.bool false),(26,.bool false),(21,.bool false),(15,.bool false),(6,vP H 0),(5,vI 0),(4,vI 0),(3,vP g3 0),(0,vP H 0)]∧Mem W wS (.blk g9 ((⟨Y.floor,0,z⟩:En).cells) 333:: .blk g8 #[vI o.task,vI o.group,vI 0,vI o.cpu,vQ o.mask,.bool true,vQ 0,vW 0] 232:: abh GI em GJ dG 3 1:: .blk g3 o.cells 214::fM H cp cr gA M gc lA N lc uA O uc tA E tc (some ⟨d,0,none⟩) J sc::fG gA M gc gs::fI lA N lc cl::fI uA O uc cu::fT tA E tc ts::fS (some ⟨d,0,none⟩) J sc rs::(fR rs++(T)))) ?_ ?_
 ·
  refine Jb Z b ((Vs .n [20]) λF4=>(Vp [0]∘Vf 4 3∘Vf 8 1∘Vf 13 4∘Vn 1∘Vf 2 6∘Vc 3 O3∘Vc 5 O2∘Vo (vI g) (by rw [hgg])∘Vy 6 (h:=by exact Yl.iH d g 1 rfl rfl rfl)∘Vy 7 (v:= .slice ((rs.getD g Rw.zero).A) ((rs.getD g Rw.zero).l.length) ((rs.getD g Rw.zero).c)) (h:=by exact aae 8 g Rw.zero om rfl rfl rfl)∘Vo (vS gy (abk yl) yc) (by rw [hy])∘Vc 9 O2∘Vo (vI c) (by rw [F])∘Vy 10 (h:=by exact Yl.iH gy c 3 rfl rfl rfl)∘Vf 11 2∘Vy 12 (v:=vQ Y.floor) (h:=by exact Pd rfl rfl kr (λ_ h=>h.tL 9 (j:=2) rfl om hy (hyz) rfl))∘Vc 14 O2∘Vo (vI z) (by rw [xA])) λa Z b e=>?_)
  refine zd [15,19] kr rfl ?_
  refine all_cons ?_ ?_
  ·refine qt Z (i:=15) rfl rfl ?_
   refine iV Z b [vQ Y.floor,vI z] (.tuple #[.agg ((⟨Y.floor,0,z⟩:En).cells),vI 0]) rfl rfl (YU Y.floor z rJ hz _) λGK I b a Z=>?_
   refine ay (b.pt 9 [0,1,2,3,4,5,6,7,8]) (λe=>?_)
   refine Vb Z b e ((Vp [16]∘Vx 17∘Vx 18∘VA 19 .n #[vQ 0,vW 0,vW 0]) λw9 g9=>λa Z b e=>?_)
   refine s_on Z 20 rfl (cZ Z b 0 rfl rfl rfl rfl rfl ql rfl rfl (lY (⟨Y.floor,0,z⟩:En)) λCm b=>?_)
   refine dM kr ?_
   refine ap Z (bO kr) [21] (bt 22 []) [] λa Z=>?_
   refine qd kr ?_
   exact ⟨g9,Z.sub kr,b.pt 10 [0,1,2,3,4,5,6,7,8,9]⟩
  refine all_cons ?_ all_nil
  refine qt Z (i:=19) rfl rfl ?_
  refine gT Z b #[vQ 0,vW 0,vW 0] ?_
  clear Z b;intro a w9 g9 Z b
  refine ay (b.pt 10 [1,2,3,4,5,6,7,8,9]) (λe=>?_)
  refine Vb Z b e ((VI 15 (.f .n) (h:=by exact λb=>YU Y.floor z rJ hz _)) λGK I=>(Vp [16]∘Vx 17∘Vx 18) λa Z b e=>?_)
  refine s_on Z 20 rfl (cZ Z b 0 rfl rfl rfl rfl rfl ql rfl rfl (lY (⟨Y.floor,0,z⟩:En)) λCm b=>?_)
  refine dM kr ?_
  refine ap Z (bO kr) [21] (bt 22 []) [] λa Z=>?_
  refine qd kr ?_
  exact ⟨g9,Z.sub kr,b.pt 10 [0,1,2,3,4,5,6,7,8,9]⟩
 clear Z b;rintro a w16 ⟨g9,Z,b⟩
 refine Jb Z b ((JP∘eF ql O0∘JO (h:=by exact λb=>zf3 (⟨o.task,o.group,0,o.cpu,o.mask,true,0,0⟩:Tk) C (⟨Y.floor,0,z⟩:En) ht1 fO b (Qk rJ hz))) λRl=>(mM∘Jr∘Jp 1∘Jn∘Jg 5 O4∘Jy (h:=by exact Yl.makeFunc (fst:=[]) (caps:=[vP g8 0]) rfl rfl rfl)∘JL (h:=by exact λb=>q48 hlt (b.rd (i:=8) rfl) nH (b.blk (i:=1) rfl))) ?_)
 rintro b _ Rm ⟨⟨ii,rfl,U,hi1,hi2⟩,I⟩
 refine ⟨_,rfl,_,b.call I,?_⟩
 refine (Jp 1∘lT∘Jj∘JQ∘JP∘Jp 2∘aK∘Jj) (Ji (λGL=>?_) λGL=>?_)
 ·
  obtain ⟨ix,hix⟩:∃n,vo ts C.id=n:=⟨_,rfl⟩
  have Cn:=Y1 ts C.id
  rw [hix] at U Cn
  rw [if_pos om] at U
  refine (JT∘JR∘Jp 1∘Jn∘Jg 5 O4∘Jl∘Jo (vI ix) (by rw [show E=ix by omega])∘Jp 1∘gG∘Jj) λa Z b=>?_
  refine wp_seq ?_
  refine Jb Z b ((Vs (.t (.t (.t (.t (.t (.t (.t (.t (.f .n))))))))) [11]) λRn=>(Vp [0,1,5]∘Vn 2∘Vf 3 5∘Vc 4 O4∘qL 6 fu O1) λa Z b e=>?_)
  refine s_on Z 7 rfl (iW Z b bX [(0,.agg C.cells)] C.cells ?_)
  clear Z b;intro a GN L Z b
  refine ay (b.pt 11 [1,2,3,4,5,6,7,8,10]) (λe=>?_)
  refine s_on Z 8 rfl ?_
  refine kQ Z [.slice tA E tc,vI ix,vS L 1 1] rfl rfl (ZC (i:=ix) (l:=ts) C 9 (λ_ _=>Ob) O0 b hlt om om) ?_
  rintro _ GQ ⟨p,q,rfl,GR,P⟩
  refine ⟨_,rfl,?_⟩
  replace b:=P
  clear Z;intro a Z
  refine ay (b.pt 11 [1,2,3,4,5,6,7,8,10]) (λe=>?_)
  refine Vb Z b e ((Vn 9∘Vf 10 5) λa Z b e=>?_)
  refine s_on Z 11 rfl (fJ Z b 5 λCo b=>?_)
  refine dM kr ?_
  refine qd kr ?_
  refine Jb Z b ((JP∘Jp 2∘Jf 1∘Jc O4∘Jo (vI c) (by rw [F])∘JL (h:=by exact λb=>LQ 5 b rfl (j:=3) rfl de (LX (GD:=p) (GA:=q) (ts':=iK ts ix C) (yB:=E+1) u (by rw [LA om];omega)) (sO) (sP) V hrg hsp hcr S (by show ((c:Nat):Int)<cp;omega))) ?_)
  rintro b _ Cq ⟨Q,rfl,hl2,hsp2,nI,P⟩
  refine ⟨_,rfl,_,(show Mem W Cq (.blk L C.cells 232:: .blk g9 ((⟨Y.floor,0,z⟩:En).cells) 333:: .blk g8 C.cells 232:: abh GI em GJ dG 3 1:: .blk g3 o.cells 214::fM H cp cr gA M gc lA N lc uA O uc p (E+1) q (some ⟨d,0,none⟩) J sc::fG gA M gc gs::fI lA N lc cl::fI uA O uc cu::fT p (E+1) q (iK ts ix C)::fS (some ⟨d,0,none⟩) J sc Q::(fR Q++(T))) from P),?_⟩
  exact (iA∘Jr∘Jp 2∘Jj∘JZ∘bH) λb=>by exact qq (y:=(⟨cp,cr,gA,gc,gs,lA,lc,cl,uA,uc,cu,p,q,(iK ts ix C),some ⟨d,0,none⟩,sc,Q⟩:aC)) 5 b rfl (Lv (LX (GD:=p) (GA:=q) (ts':=iK ts ix C) (yB:=E+1) u (by rw [LA om];omega)) hl2) ((Y5 (x:=(⟨cp,cr,gA,gc,gs,lA,lc,cl,uA,uc,cu,tA,tc,ts,some ⟨d,0,none⟩,sc,rs⟩:aC)) (t1:=C) (decide_eq_true k) (decide_eq_true B) D (LY X G) (by show fidx ts o.task<0;omega) (qua F om) hgg F (congrArg Sp.floor (xk (x:=(⟨cp,cr,gA,gc,gs,lA,lc,cl,uA,uc,cu,tA,tc,ts,some ⟨d,0,none⟩,sc,rs⟩:aC)) (by show g<abk rs;omega) hy hyz)) (by rw [←ht1,xA];rfl) hem).trans (by rw [show vo ts o.task=ix by rw [←GH];exact hix];exact congrArg (λs=>(s,(0:Int),0)) nI.symm))
 obtain ⟨ix,hix⟩:∃n,vo ts C.id=n:=⟨_,rfl⟩
 have Cn:=Y1 ts C.id
 rw [hix] at U Cn
 rw [if_neg om] at U
 refine (Jk 11 (vI ix) (h:=by rw [show ii=(ix:Int) by omega])∘JF∘aD) λa Z b=>?_
 refine wp_seq ?_
 refine Jb Z b ((Vs (.t (.t (.t (.t (.t (.t (.t (.t (.f .n))))))))) [11]) λRn=>(Vp [0,1,5]∘Vn 2∘Vf 3 5∘Vc 4 O4∘qL 6 fu O1) λa Z b e=>?_)
 refine s_on Z 7 rfl (iW Z b bX [(0,.agg C.cells)] C.cells ?_)
 clear Z b;intro a GN L Z b
 refine ay (b.pt 11 [1,2,3,4,5,6,7,8,10]) (λe=>?_)
 refine s_on Z 8 rfl ?_
 refine kQ Z [.slice tA E tc,vI ix,vS L 1 1] rfl rfl (ZC (i:=ix) (l:=ts) C 9 (λ_ _=>Ob) O0 b hlt om om) ?_
 rintro _ GQ ⟨p,q,rfl,GR,P⟩
 refine ⟨_,rfl,?_⟩
 replace b:=P
 clear Z;intro a Z
 refine ay (b.pt 11 [1,2,3,4,5,6,7,8,10]) (λe=>?_)
 refine Vb Z b e ((Vn 9∘Vf 10 5) λa Z b e=>?_)
 refine s_on Z 11 rfl (fJ Z b 5 λCo b=>?_)
 refine dM kr ?_
 refine qd kr ?_
 refine Jb Z b ((JP∘Jp 2∘Jf 1∘Jc O4∘Jo (vI c) (by rw [F])∘JL (h:=by exact λb=>LQ 5 b rfl (j:=3) rfl de (LX (GD:=p) (GA:=q) (ts':=iK ts ix C) (yB:=E+1) u (by rw [LA om];omega)) (sO) (sP) V hrg hsp hcr S (by show ((c:Nat):Int)<cp;omega))) ?_)
 rintro b _ Cq ⟨Q,rfl,hl2,hsp2,nI,P⟩
 refine ⟨_,rfl,_,(show Mem W Cq (.blk L C.cells 232:: .blk g9 ((⟨Y.floor,0,z⟩:En).cells) 333:: .blk g8 C.cells 232:: abh GI em GJ dG 3 1:: .blk g3 o.cells 214::fM H cp cr gA M gc lA N lc uA O uc p (E+1) q (some ⟨d,0,none⟩) J sc::fG gA M gc gs::fI lA N lc cl::fI uA O uc cu::fT p (E+1) q (iK ts ix C)::fS (some ⟨d,0,none⟩) J sc Q::(fR Q++(T))) from P),?_⟩
 exact (iA∘Jr∘Jp 2∘Jj∘JZ∘bH) λb=>by exact qq (y:=(⟨cp,cr,gA,gc,gs,lA,lc,cl,uA,uc,cu,p,q,(iK ts ix C),some ⟨d,0,none⟩,sc,Q⟩:aC)) 5 b rfl (Lv (LX (GD:=p) (GA:=q) (ts':=iK ts ix C) (yB:=E+1) u (by rw [LA om];omega)) hl2) ((Y5 (x:=(⟨cp,cr,gA,gc,gs,lA,lc,cl,uA,uc,cu,tA,tc,ts,some ⟨d,0,none⟩,sc,rs⟩:aC)) (t1:=C) (decide_eq_true k) (decide_eq_true B) D (LY X G) (by show fidx ts o.task<0;omega) (qua F om) hgg F (congrArg Sp.floor (xk (x:=(⟨cp,cr,gA,gc,gs,lA,lc,cl,uA,uc,cu,tA,tc,ts,some ⟨d,0,none⟩,sc,rs⟩:aC)) (by show g<abk rs;omega) hy hyz)) (by rw [←ht1,xA];rfl) hem).trans (by rw [show vo ts o.task=ix by rw [←GH];exact hix];exact congrArg (λs=>(s,(0:Int),0)) nI.symm))
def GU:EI abl 277 215 .nilFunc 1 8:=⟨by kernel_rfl,by kernel_rfl,rfl,by omega⟩
def pI (k:Nat):FuncId:=[148,149,150,150,151,152,153,154,155,156].getD k 0
def fewer (h:k<10):k=0∨k=1∨k=2∨k=3∨k=4∨k=5∨k=6∨k=7∨k=8∨k=9:=by omega
def qz5 (h:k<10):callable abl (pI k)=true:=by
 rcases fewer h with rfl|rfl|rfl|rfl|rfl|rfl|rfl|rfl|rfl|rfl<;>kernel_rfl
theorem zf4 (gm:Nat) {k:Nat} (h:k<10):(#[.func (.func 148) #[vP gm 0] #[],.func (.func 149) #[vP gm 0] #[],.func (.func 150) #[vP gm 0] #[],.func (.func 150) #[vP gm 0] #[],.func (.func 151) #[vP gm 0] #[],.func (.func 152) #[vP gm 0] #[],.func (.func 153) #[vP gm 0] #[],.func (.func 154) #[vP gm 0] #[],.func (.func 155) #[vP gm 0] #[],.func (.func 156) #[vP gm 0] #[]]:Array Value)[k]?=some (.func (.func (pI k)) #[vP gm 0] #[]):=by
 rcases fewer h with rfl|rfl|rfl|rfl|rfl|rfl|rfl|rfl|rfl|rfl<;>rfl
section
variable {W w:World} {F T:List Fact} {x y:aC} {ng nl nu nt ns gm:Nat} {o:bC}
def qz6 (n:Nat) (f:Mem W w F) (g:F.drop n=jq gm x ng nl nu nt ns++T) (c:dB x ng nl nu nt ns) (e:GoodS x.av) (d:o.Ok) (h:k<10) (hk:o.kind=k+1):Calls abl (pI k) #[vP gm 0,.agg o.cells] w (j5 W gm (F.take n++T) (bY x.av o)):=by
 have a:=f.front n g
 have b:=(LC e.sh.sort).2 e.cur
 unfold bY
 rcases fewer h with rfl|rfl|rfl|rfl|rfl|rfl|rfl|rfl|rfl|rfl<;>rw [hk]
 ·exact quc W w x gm ng nl nu nt ns c o d _ a
 ·exact qt9 W w x gm ng nl nu nt ns c o d _ a
 ·exact ZE W w x gm ng nl nu nt ns c o d _ a b
 ·exact ZE W w x gm ng nl nu nt ns c o d _ a b
 ·exact qzz W w x gm ng nl nu nt ns c o d _ a b
 ·exact qzy W w x gm ng nl nu nt ns c o d _ a
 ·exact ql2 W w x gm ng nl nu nt ns c o d _ a
 ·exact qos W w x gm ng nl nu nt ns c o d _ a
 ·exact qou W w x gm ng nl nu nt ns c o d _ a
 ·exact qov W w x gm ng nl nu nt ns c o d _ a
def zjm (c:Mem W w (mE gm y++T)) (hy:GoodS y.av):Calls abl 157 #[vP gm 0] w (λr b=>∃z:aC,r= .returned (.tuple #[])∧z.av=fA y.av∧Mem W b (mE gm z++T)):=
 (qzx W w y gm _ _ _ _ _ (LD hy.sh) T c).mono λr b ⟨a,e,d,_,hs,hm⟩=>⟨{y with rs:=a},e,hs,Mem.toB hm ⟨rfl,rfl,rfl,rfl,d⟩⟩
def vF (s:aY) (out:gW):Prop:=out.2.2≠0→out.1=s∧out.2.1=0
def qz7 (s:aY) (o:bC):vF s (bY s o):=by
 have key:∀e:Nat,vF s (s,0,e):=λe _=>⟨rfl,rfl⟩
 have a:∀(t:aY) (g:Int),vF s (t,g,0):=λt g h=>absurd rfl h
 unfold bY
 split
 ·unfold xY;repeat' split
  all_goals first|exact key _|exact a _ _
 ·unfold xZ;repeat' split
  all_goals first|exact key _|exact a _ _
 ·unfold rD;repeat' split
  all_goals first|exact key _|exact a _ _
 ·unfold rD;repeat' split
  all_goals first|exact key _|exact a _ _
 ·unfold jv;repeat' split
  all_goals first|exact key _|exact a _ _|(dsimp only;split<;>exact a _ _)
 ·unfold kG;repeat' split
  all_goals first|exact key _|exact a _ _
 ·unfold yg;repeat' split
  all_goals first|exact key _|exact a _ _
 ·unfold yh;repeat' split
  all_goals first|exact key _|exact a _ _
 ·unfold yj;repeat' split
  all_goals first|exact key _|exact a _ _
 ·unfold uU;repeat' split
  all_goals first|exact key _|exact a _ _
 ·exact key _
theorem q49 (h:(bY s o).2.2≠0):(bY s o).1=s∧(bY s o).2.1=0:=qz7 s o h
def ZI (h:o.kind<1∨10<o.kind):rE s o=(s,0,2):=by
 have e:bY s o=(s,0,2):=by
  unfold bY
  split<;>first|rfl|omega
 unfold rE
 rw [e]
 rfl
theorem Ro (h:(bY s o).2.2≠0):rE s o=(s,0,(bY s o).2.2):=by unfold rE;rw [if_pos h]
theorem Rp (h:(bY s o).2.2=0):rE s o=(fA (bY s o).1,(bY s o).2.1,0):=by unfold rE;rw [if_neg om]
end
def zaj (W w:World) (x:aC) (gm:Nat) (ng nl nu nt ns:Nat) (B:dB x ng nl nu nt ns) (J:GoodS x.av) (o:bC) (C:o.Ok) (T:List Fact) (b:Mem W w (jq gm x ng nl nu nt ns++T)):
    Calls abl 102 #[vP gm 0,.agg o.cells] w (j5 W gm T (rE x.av o)):=by
 obtain ⟨cp,cr,gA,gc,gs,lA,lc,cl,uA,uc,cu,tA,tc,ts,sA,sc,rs⟩:=x
 replace b:Mem W w (fM gm cp cr gA ng gc lA nl lc uA nu uc tA nt tc sA ns sc::fG gA ng gc gs::fI lA nl lc cl::fI uA nu uc cu::fT tA nt tc ts::fS sA ns sc rs::(fR rs++(T))):=b
 obtain ⟨n,p,q,r,s⟩:=B.ln
 replace n:abk gs=ng:=n;replace p:abk cl=nl:=p;replace q:abk cu=nu:=q;replace r:abk ts=nt:=r;replace s:abk rs=ns:=s
 have K:=C.kind
 refine (lX b Tryz.func102 67) ?_
 refine (JP∘JE) λN D=>(Jp 2∘Jj∘JQ∘JP∘Jp 1∘Jy (v:= .bool false) (h:=by exact aaz rfl rfl rfl)∘Jp 2∘Jn∘Jg 7 O1∘Jp 2∘aF∘Jj∘JF∘aD∘JP∘Jp 1∘Jy (h:=by exact Yl.makeFunc (fst:=[vP gm 0]) (caps:=[]) rfl rfl rfl)∘Jp 1∘Jy (h:=by exact Yl.makeFunc (fst:=[vP gm 0]) (caps:=[]) rfl rfl rfl)∘Jp 1∘Jy (h:=by exact Yl.makeFunc (fst:=[vP gm 0]) (caps:=[]) rfl rfl rfl)∘Jp 1∘Jy (h:=by exact Yl.makeFunc (fst:=[vP gm 0]) (caps:=[]) rfl rfl rfl)∘Jp 1∘Jy (h:=by exact Yl.makeFunc (fst:=[vP gm 0]) (caps:=[]) rfl rfl rfl)∘Jp 1∘Jy (h:=by exact Yl.makeFunc (fst:=[vP gm 0]) (caps:=[]) rfl rfl rfl)∘Jp 1∘Jy (h:=by exact Yl.makeFunc (fst:=[vP gm 0]) (caps:=[]) rfl rfl rfl)∘Jp 1∘Jy (h:=by exact Yl.makeFunc (fst:=[vP gm 0]) (caps:=[]) rfl rfl rfl)∘Jp 1∘Jy (h:=by exact Yl.makeFunc (fst:=[vP gm 0]) (caps:=[]) rfl rfl rfl)∘Jp 1∘Jy (h:=by exact Yl.makeFunc (fst:=[vP gm 0]) (caps:=[]) rfl rfl rfl)∘JU GU #[.func (.func 148) #[vP gm 0] #[],.func (.func 149) #[vP gm 0] #[],.func (.func 150) #[vP gm 0] #[],.func (.func 150) #[vP gm 0] #[],.func (.func 151) #[vP gm 0] #[],.func (.func 152) #[vP gm 0] #[],.func (.func 153) #[vP gm 0] #[],.func (.func 154) #[vP gm 0] #[],.func (.func 155) #[vP gm 0] #[],.func (.func 156) #[vP gm 0] #[]]) λL e=>(Jp 1∘aF∘Jj∘JQ∘JP∘Jg 0 O1∘Jp 2) (Ji (λt=>?_) λt=>?_)
 ·
  exact (Jp 7∘aF∘Jj∘JT∘JP∘Jp 2∘Jj∘JZ∘bH) λb=>by exact qq (y:=(⟨cp,cr,gA,gc,gs,lA,lc,cl,uA,uc,cu,tA,tc,ts,sA,sc,rs⟩:aC)) 2 b rfl B.ln (ZI om)
 refine (Jg 0 O1∘Jw .i64∘Jp 1∘Jl∘Jp 2∘aF∘Jj) (Ji (λu=>?_) λu=>?_)
 ·
  exact (JT∘JP∘Jp 2∘Jj∘JZ∘bH) λb=>by exact qq (y:=(⟨cp,cr,gA,gc,gs,lA,lc,cl,uA,uc,cu,tA,tc,ts,sA,sc,rs⟩:aC)) 2 b rfl B.ln (ZI om)
 obtain ⟨k,E⟩:∃k:Nat,o.kind=k+1:=⟨o.kind-1,by omega⟩
 have g:k<10:=by omega
 refine (JF∘aD) λa Z b=>?_
 refine wp_seq ?_
 refine EF b [.blk e #[.func (.func 148) #[vP gm 0] #[],.func (.func 149) #[vP gm 0] #[],.func (.func 150) #[vP gm 0] #[],.func (.func 150) #[vP gm 0] #[],.func (.func 151) #[vP gm 0] #[],.func (.func 152) #[vP gm 0] #[],.func (.func 153) #[vP gm 0] #[],.func (.func 154) #[vP gm 0] #[],.func (.func 155) #[vP gm 0] #[],.func (.func 156) #[vP gm 0] #[]] 215,.blk D o.cells 214] [0,1] [] λb j=>?_
 refine ap Z (λ_=>j) [0,1] (bf 13 [0,1]) [(52,vP D 0),(51,vS e 10 10)] λa Z=>?_
 refine dR Z j 2 1 (v:=vB o.kind) λa Z=>?_
 refine r9 Z (λ_=>j) (i:=3) rfl rfl (d:=54) rfl de kr (λ_ _ _ h=>h) (v:=vB (IntKind.u8.wrap ((o.kind:Int)-1))) (λ_=>Yl.pure kr) λa Z=>?_
 replace Z:=Z.sp 54 (vB k) rfl (by rw [IntKind.wrap_u8];congr 1;omega)
 refine jI Z j 4 rfl (v:=vP e (k*1)) (Yl.iH e k 1 rfl rfl rfl) λa Z=>?_
 refine jI Z j 5 rfl (v:= .func (.func (pI k)) #[vP gm 0] #[]) (Pd rfl rfl kr (λ_ h=>h.cell (i:=0) rfl (by rw [ac5];exact zf4 gm g))) λa Z=>?_
 refine jI Z j 6 rfl (v:= .agg o.cells) (Pe rfl rfl mD rfl (λ_ h=>qi (h.blk (i:=1) rfl))) λa Z=>?_
 refine s_on Z 7 rfl ?_
 refine mY Z (f:=(pI k)) (vs:=[.agg o.cells]) (fst:=[vP gm 0]) (caps:=[]) rfl rfl rfl (qz5 g) rfl de (qz6 2 b rfl B J C g E) ?_
 rintro _ G ⟨y,rfl,l,m⟩
 refine ⟨_,rfl,?_⟩
 replace b:=(show Mem W G (.blk e #[.func (.func 148) #[vP gm 0] #[],.func (.func 149) #[vP gm 0] #[],.func (.func 150) #[vP gm 0] #[],.func (.func 150) #[vP gm 0] #[],.func (.func 151) #[vP gm 0] #[],.func (.func 152) #[vP gm 0] #[],.func (.func 153) #[vP gm 0] #[],.func (.func 154) #[vP gm 0] #[],.func (.func 155) #[vP gm 0] #[],.func (.func 156) #[vP gm 0] #[]] 215:: .blk D o.cells 214::(mE gm y++(T))) from m.back)
 clear Z;intro a Z
 refine ay (b.pk [0,1]) (λj=>?_)
 refine ap Z (λ_=>j) [8,9,10,11,12] (bt 13 []) [(8,vI ((bY (⟨cp,cr,gA,gc,gs,lA,lc,cl,uA,uc,cu,tA,tc,ts,sA,sc,rs⟩:aC).av o).2.2)),(7,vI ((bY (⟨cp,cr,gA,gc,gs,lA,lc,cl,uA,uc,cu,tA,tc,ts,sA,sc,rs⟩:aC).av o).2.1))] λa Z=>?_
 refine qd kr ?_
 refine Jb Z b ((JQ∘JP∘Jp 2∘aK∘Jj) (Jh (λc=>?_) λc=>?_))
 ·
  replace c:(bY (⟨cp,cr,gA,gc,gs,lA,lc,cl,uA,uc,cu,tA,tc,ts,sA,sc,rs⟩:aC).av o).2.2≠0:=by omega
  exact (JT∘JP∘Jp 3∘Jj∘JZ∘bH) λb=>by rw [Ro c];exact ⟨y,rfl,l.trans (q49 c).1,b.iD 2 rfl⟩
 replace c:(bY (⟨cp,cr,gA,gc,gs,lA,lc,cl,uA,uc,cu,tA,tc,ts,sA,sc,rs⟩:aC).av o).2.2=0:=by omega
 have A:=c
 have H:GoodS y.av:=by rw [l];exact Qx C J A
 refine (JF∘aD∘JP∘Jp 1∘JL (h:=by exact λb=>zjm (b.iD 2 rfl) H)) ?_
 rintro b _ M ⟨z,rfl,I,m⟩
 refine ⟨_,rfl,_,m,?_⟩
 exact (mM∘Jr∘Jp 3∘Jj∘JZ∘bH) λb=>by rw [Rp A];exact ⟨z,rfl,I.trans (by rw [l]),b⟩
def Cr (w:World) (e:TypeId) (sz n:Nat) (xs:List Value) (r:Ending) (a:World):Prop:=
 (∃A c,r= .returned (.slice A n c)∧a.ownsRow w.heap.size e sz (.slice A n c) n xs∧n≤c)∧Below w.heap.size w a
def L6 {e:TypeId} {sz:Nat} {xs:List Value} (hr:Rd w w.heap.size sz A n xs) (h:A.isNone=true) (hb:Below w.heap.size w W):Cr w e sz n xs (.returned (.slice none 0 0)) W:=by
 have a:n=0:=by
  rcases acn n with h0|h0
  ·exact h0
  ·obtain ⟨c,rfl,_⟩:=hr.row h0
   cases h
 subst a
 have b:xs=[]:=adF.1 (by rw [hr.len];omega)
 subst b
 exact ⟨⟨none,0,rfl,acQ _ _ _ _,abo _⟩,hb⟩
def jK (z:List Rw) (m:Nat):List Rw:=z++abB m Rw.zero
theorem ZJ (z:List Rw) (m:Nat):abk (jK z m)=abk z+m:=by unfold jK;rw [abm,ab4]
def ZK (F:α→Value) (z:α) (m:Nat):(madeCells #[F z] (m*1)).toList=(abB m z).map F:=by
 rw [ac5]
 unfold madeCells
 refine aew (by simp) λi h1 h2=>?_
 simp [Nat.mod_one]
def q5b (m:Nat):(madeCells #[.slice none 0 0] (m*1)).toList=(jK [] m).map aac:=ZK aac Rw.zero m
theorem qz8 (m:Nat):(madeCells (Value.slice none 0 0).cells (m*1)).toList=(jK [] m).map aac:=q5b m
theorem zak {z:List Rw} (y:Rw) (h:0<m):(jK z m).set (abk z) y=jK (z++[y]) (m-1):=by
 obtain ⟨k,rfl⟩:∃k,m=k+1:=⟨m-1,by omega⟩
 unfold jK
 rw [afs,if_neg om,adN,List.replicate_succ,ae2,abz]
 rfl
theorem q5c (z:List Rw):jK z 0=z:=by unfold jK;rw [List.replicate_zero,abN]
def q5d {x:aC} {z:List Rw} {gc lc uc tc:Nat} {lA uA tA:Option Addr} (hz:abk z=i) (hi:i=n) (h1:abk x.gs≤gc) (h2:abk x.cl≤lc) (h3:abk x.cu≤uc) (h4:abk x.ts≤tc) (h5:∀q∈z,abk q.l≤q.c) (h6:x.rs.map aeI=z.map aeI)
  (hm:Mem w W (.row (.slice gA (abk x.gs) gc) (abk x.gs) (x.gs.flatMap eZ) 198 2:: .row (.slice lA (abk x.cl) lc) (abk x.cl) (x.cl.map aP) 3 1:: .row (.slice uA (abk x.cu) uc) (abk x.cu) (x.cu.map aP) 3 1:: .row (.slice tA (abk x.ts) tc) (abk x.ts) (x.ts.flatMap bI) 232 8:: .row (.slice (some ⟨g,0,none⟩) n n) n ((jK z (n-i)).map aac) 176 1::kM 200 z)):
  Yu w x (.returned (.agg #[.int .i64 x.ak,.int .u64 (x.aj:Int),.slice gA (abk x.gs) gc,.slice lA (abk x.cl) lc,.slice uA (abk x.cu) uc,.slice tA (abk x.ts) tc,.slice (some ⟨g,0,none⟩) n n])) W:=by
 subst hz
 subst hi
 rw [adN,q5c] at hm
 exact ⟨⟨x.ak,x.aj,gA,gc,x.gs,lA,lc,x.cl,uA,uc,x.cu,tA,tc,x.ts,some ⟨g,0,none⟩,abk z,z⟩,rfl,⟨⟨rfl,rfl,rfl⟩,rfl,rfl,rfl,h6⟩,⟨h1,h2,h3,h4,abo _,h5⟩,hm⟩
def quf (A:Option Addr) (c:Nat) (l:List Gr) (w:World) (hr:Rd w w.heap.size 2 A (abk l) (l.flatMap eZ)) (k:abk l≤1000000):
    Calls abl 192 #[abg A l c] w (Cr w 198 2 (abk l) (l.flatMap eZ)):=by
 refine (dY Tryz.func192 8) ?_
 refine (JP∘Jp 1∘Jj∘JQ∘JP∘Jp 1∘Jy (v:= .bool A.isNone) (h:=by exact aat rfl rfl rfl)∘aK∘Jj) (Ju (λe=>?_) λe=>?_)
 ·
  exact (JT∘JP∘Jp 1∘Jj∘JZ∘aZ) λb=>L6 hr (by simpa using e) b.below
 refine (JF∘aD∘JP) λa Z b=>?_
 refine fo Z 0 rfl rfl ?_
 refine Ko Z b rfl iQ rfl de ?_
 clear Z b;intro a m n Z b
 refine Jb Z b ((Jp 1∘JD (l.flatMap eZ) 0 (λ_ _=>aU) iQ (hr:=by exact λb=>b.old hr) (h1:=by exact F8 _)) λo g j f=>?_)
 have d:0+abk l=abk l:=aco _
 rw [d] at f
 exact (JC (h:=by exact λb=>b.aT (i:=0) (ys:=l.flatMap eZ) rfl d (rfl))∘Jk 7 (.slice g (abk l) j) (h:=by exact gF d)∘Jp 1∘gG∘Jj∘JZ∘aZ) λb=>by exact ⟨⟨_,_,rfl,b.own (i:=0) rfl,f⟩,b.below⟩
def ZL (A:Option Addr) (c:Nat) (l:List Int) (w:World) (hr:Rd w w.heap.size 1 A (abk l) (l.map aP)) (k:abk l≤1000000):
    Calls abl 193 #[abg A l c] w (Cr w 3 1 (abk l) (l.map aP)):=by
 refine (dY Tryz.func193 8) ?_
 refine (JP∘Jp 1∘Jj∘JQ∘JP∘Jp 1∘Jy (v:= .bool A.isNone) (h:=by exact aat rfl rfl rfl)∘aK∘Jj) (Ju (λe=>?_) λe=>?_)
 ·
  exact (JT∘JP∘Jp 1∘Jj∘JZ∘aZ) λb=>L6 hr (by simpa using e) b.below
 refine (JF∘aD∘JP) λa Z b=>?_
 refine fo Z 0 rfl rfl ?_
 refine Ko Z b rfl zy rfl de ?_
 clear Z b;intro a m n Z b
 refine Jb Z b ((Jp 1∘JD (l.map aP) 0 (λ_ _=>aU) zy (hr:=by exact λb=>b.old hr) (h1:=by exact Qa _)) λo g j f=>?_)
 have d:0+abk l=abk l:=aco _
 rw [d] at f
 exact (JC (h:=by exact λb=>b.aT (i:=0) (ys:=l.map aP) rfl d (rfl))∘Jk 7 (.slice g (abk l) j) (h:=by exact gF d)∘Jp 1∘gG∘Jj∘JZ∘aZ) λb=>by exact ⟨⟨_,_,rfl,b.own (i:=0) rfl,f⟩,b.below⟩
def qug (A:Option Addr) (c:Nat) (l:List Tk) (w:World) (hr:Rd w w.heap.size 8 A (abk l) (l.flatMap bI)) (k:abk l≤1000000):
    Calls abl 194 #[abg A l c] w (Cr w 232 8 (abk l) (l.flatMap bI)):=by
 refine (dY Tryz.func194 8) ?_
 refine (JP∘Jp 1∘Jj∘JQ∘JP∘Jp 1∘Jy (v:= .bool A.isNone) (h:=by exact aat rfl rfl rfl)∘aK∘Jj) (Ju (λe=>?_) λe=>?_)
 ·
  exact (JT∘JP∘Jp 1∘Jj∘JZ∘aZ) λb=>L6 hr (by simpa using e) b.below
 refine (JF∘aD∘JP) λa Z b=>?_
 refine fo Z 0 rfl rfl ?_
 refine Ko Z b rfl bX rfl de ?_
 clear Z b;intro a m n Z b
 refine Jb Z b ((Jp 1∘JD (l.flatMap bI) 0 (λ_ _=>aU) bX (hr:=by exact λb=>b.old hr) (h1:=by exact F9 _)) λo g j f=>?_)
 have d:0+abk l=abk l:=aco _
 rw [d] at f
 exact (JC (h:=by exact λb=>b.aT (i:=0) (ys:=l.flatMap bI) rfl d (rfl))∘Jk 7 (.slice g (abk l) j) (h:=by exact gF d)∘Jp 1∘gG∘Jj∘JZ∘aZ) λb=>by exact ⟨⟨_,_,rfl,b.own (i:=0) rfl,f⟩,b.below⟩
theorem quh (A:Option Addr) (c:Nat) (l:List Sp) (w:World) (hr:Rd w w.heap.size 3 A (abk l) (l.flatMap iT)) (k:abk l≤1000000):
    Calls abl 195 #[abg A l c] w (Cr w 200 3 (abk l) (l.flatMap iT)):=by
 refine (dY Tryz.func195 8) ?_
 refine (JP∘Jp 1∘Jj∘JQ∘JP∘Jp 1∘Jy (v:= .bool A.isNone) (h:=by exact aat rfl rfl rfl)∘aK∘Jj) (Ju (λe=>?_) λe=>?_)
 ·
  exact (JT∘JP∘Jp 1∘Jj∘JZ∘aZ) λb=>L6 hr (by simpa using e) b.below
 refine (JF∘aD∘JP) λa Z b=>?_
 refine fo Z 0 rfl rfl ?_
 refine Ko Z b rfl lD rfl de ?_
 clear Z b;intro a m n Z b
 refine Jb Z b ((Jp 1∘JD (l.flatMap iT) 0 (λ_ _=>aU) lD (hr:=by exact λb=>b.old hr) (h1:=by exact P9 _)) λo g j f=>?_)
 have d:0+abk l=abk l:=aco _
 rw [d] at f
 exact (JC (h:=by exact λb=>b.aT (i:=0) (ys:=l.flatMap iT) rfl d (rfl))∘Jk 7 (.slice g (abk l) j) (h:=by exact gF d)∘Jp 1∘gG∘Jj∘JZ∘aZ) λb=>by exact ⟨⟨_,_,rfl,b.own (i:=0) rfl,f⟩,b.below⟩
theorem ZM (x:aC) (w:World) (K:eD w x) (H:bP x):
    Calls abl 147 #[.agg x.cells] w (Yu w x):=by
 have hfg:=H.g;have hfl:=H.l;have hfu:=H.u;have hft:=H.t;have hfs:=H.s
 refine (dY Tryz.func147 45) ?_
 refine (JP∘JE) λw1 I=>(JA #[vI 0,vQ 0,vN,vN,vN,vN,vN]) λw2 N=>(Jr∘Jf 0∘Jg 2 O1∘JK (h:=by exact λb=>quf x.gA x.gc x.gs _ (b.old K.g) (H.g))) λF G w9 V=>(Jf 0∘Jf 2) λa Z b=>?_
 refine fo Z 6 rfl rfl ?_
 refine pX Z b (i:=2) rfl rfl rfl rfl kr rfl rfl (by simp [aC.cells]) λald b=>?_
 refine Jb Z b ((qK∘Jj) λa Z b=>?_)
 refine wp_seq ?_
 refine Jb Z b ((Vs .n [10,12,14]) λwd2=>(Vf 0 3∘Vf 3 4∘Vf 6 5∘Vc 1 O2∘Vc 4 O2∘Vc 7 O2∘VK 2 .n (h:=by exact λb=>ZL x.lA x.lc x.cl _ (b.old K.l) (H.l))) λd e PY O=>(Vf 9 3∘VK 5 (.f .n) (h:=by exact λb=>ZL x.uA x.uc x.cu _ (b.old K.u) (H.u))) λj k w17 P=>(VK 8 (.f (.f .n)) (h:=by exact λb=>qug x.tA x.tc x.ts _ (b.old K.t) (H.t))) λo p PU Q=>λa Z b HS=>?_)
 refine s_on Z 10 rfl ?_
 refine pX Z b (i:=5) rfl rfl rfl rfl kr rfl rfl (by simp [aC.cells]) λW b=>?_
 refine dM kr ?_
 refine ap Z (bO kr) [11] (bt 15 [12,13,14]) [(22,vP I 4)] λa Z=>?_
 refine s_on Z 12 rfl ?_
 refine pX Z b (i:=5) rfl rfl rfl rfl kr rfl rfl (by simp [aC.cells]) λX b=>?_
 refine dM kr ?_
 refine ap Z (bO kr) [13] (bt 15 [14]) [(23,vP I 5)] λa Z=>?_
 refine s_on Z 14 rfl ?_
 refine pX Z b (i:=5) rfl rfl rfl rfl kr rfl rfl (by simp [aC.cells]) λY b=>?_
 refine dM kr ?_
 refine qd kr ?_
 refine Jb Z b ((JP∘Jg 6 O5∘Jl) λa Z b=>?_)
 refine fo Z 3 rfl rfl ?_
 refine wM Z b (m:=abk x.rs) rfl nN rfl rfl om om rfl de ?_
 clear Z b;intro a Gc D Z b
 refine Jb Z b ((Jp 1∘aF∘Jq) λa Z b=>?_)
 rw [qz8] at b
 replace b:=b.nU 200 3
 replace b:Mem w _ (.row (vS D (abk x.rs) (abk x.rs)) (abk x.rs) ((jK [] (abk x.rs)).map aac) 176 1:: abj o x.ts p bI 232 8:: abh j x.cu k aP 3 1:: abh d x.cl e aP 3 1:: abj F x.gs G eZ 198 2:: .blk N #[vI 0,vQ 0,vN,vN,vN,vN,vN] 48:: .blk I #[vI x.ak,vQ x.aj,abg F x.gs G,abg d x.cl e,abg j x.cu k,abg o x.ts p,abg x.sA x.rs x.sc] 48::kM 200 []):=b
 refine Jb Z b ((JG∘JQ∘JP∘Jg 6 O6∘Jl∘Jp 1∘Jj∘JB) λa Z b=>?_)
 refine qg (λmS aS wS=>∃(i:Nat) (z:List Rw),(i≤abk x.rs)∧(abk z=i)∧(z.map aeI=(x.rs.take i).map aeI)∧(∀q∈z,abk q.l≤q.c)∧mS=abk x.rs-i∧Fr aS 45 [] [(31,vI i),(30,vI (abk x.rs)),(29,abg x.sA x.rs x.sc),(3,vS D (abk x.rs) (abk x.rs)),(2,vP N 0),(1,vP I 0)]∧Mem w wS (.row (vS D (abk x.rs) (abk x.rs)) (abk x.rs) ((jK z (abk x.rs-i)).map aac) 176 1:: abj o x.ts p bI 232 8:: abh j x.cu k aP 3 1:: abh d x.cl e aP 3 1:: abj F x.gs G eZ 198 2:: .blk N #[vI 0,vQ 0,vN,vN,vN,vN,vN] 48:: .blk I #[vI x.ak,vQ x.aj,abg F x.gs G,abg d x.cl e,abg j x.cu k,abg o x.ts p,abg x.sA x.rs x.sc] 48::kM 200 z)) (m:=abk x.rs-0) ⟨0,[],abx _,rfl,rfl,(λq h=>by cases h),rfl,Z.sub kr,b.pt 7 [0,1,2,3,4,5,6]⟩ ?_
 clear Z b;rintro mS a w_ ⟨i,z,hi,L,hz,R,rfl,Z,b⟩
 refine Jb Z b ((JP∘Jp 1∘Jj∘JQ) (Ji (λS=>?_) λS=>?_))
 ·
  have E:i<abk x.rs:=by omega
  obtain ⟨y,U⟩:∃q,x.rs.getD i Rw.zero=q:=⟨_,rfl⟩
  have p9:Rd w w.heap.size 3 y.A (abk y.l) (y.l.flatMap iT):=by rw [←U];exact K.row E
  have hyl:abk y.l≤1000000:=by rw [←U];exact H.r _ (qe Rw.zero E)
  refine (JT∘aD∘JQ∘JB∘JP∘Jp 1) ?_
  obtain ⟨FQ,FR,M,_⟩:=Rd.sat K.s i
  have J:=K.s;rw [M] at J
  refine (Jk 29 (.slice (some ⟨FQ,FR,none⟩) (abk x.rs) x.sc) (h:=by rw [M];try rfl)∘gZ i 1∘Jy (v:= .slice ((x.rs.getD i Rw.zero).A) ((x.rs.getD i Rw.zero).l.length) ((x.rs.getD i Rw.zero).c)) (h:=by exact aad J i Rw.zero E rfl rfl)∘Jo (.slice y.A (abk y.l) y.c) (by rw [U])∘Jp 2∘Jj∘JR∘Jp 3∘JK (h:=by exact λb=>quh y.A y.c y.l _ (b.old p9) (hyl))) λB C LP T=>(lU i 1) λa Z b=>?_
  refine fo Z 5 rfl rfl ?_
  refine qw Z b (i:=1) rfl rfl rfl rfl kr rfl rfl (by rw [abv,ZJ];omega) λale b=>?_
  replace b:=b.bM (i:=1) (ys:=(jK (z++[(⟨B,C,y.l⟩:Rw)]) (abk x.rs- (i+1))).map aac) rfl ((Ku aac _ i (⟨B,C,y.l⟩:Rw) (by rw [ZJ];omega)).trans (by rw [show i=abk z from L.symm,zak (⟨B,C,y.l⟩:Rw) om];rfl))
  refine Jb Z b ((qK∘Jq∘JC (h:=by exact λb=>b.pt (fs':=(abj B y.l C iT 200 3:: .row (vS D (abk x.rs) (abk x.rs)) (abk x.rs) ((jK (z++[(⟨B,C,y.l⟩:Rw)]) (abk x.rs- (i+1))).map aac) 176 1:: abj o x.ts p bI 232 8:: abh j x.cu k aP 3 1:: abh d x.cl e aP 3 1:: abj F x.gs G eZ 198 2:: .blk N #[vI 0,vQ 0,vN,vN,vN,vN,vN] 48:: .blk I #[vI x.ak,vQ x.aj,abg F x.gs G,abg d x.cl e,abg j x.cu k,abg o x.ts p,abg x.sA x.rs x.sc] 48::kM 200 z)) 8 [0,1,2,3,4,5,6,7])∘JC (h:=by exact λb=>aaB (fs:=[.row (vS D (abk x.rs) (abk x.rs)) (abk x.rs) ((jK (z++[(⟨B,C,y.l⟩:Rw)]) (abk x.rs- (i+1))).map aac) 176 1,abj o x.ts p bI 232 8,abh j x.cu k aP 3 1,abh d x.cl e aP 3 1,abj F x.gs G eZ 198 2,.blk N #[vI 0,vQ 0,vN,vN,vN,vN,vN] 48,.blk I #[vI x.ak,vQ x.aj,abg F x.gs G,abg d x.cl e,abg j x.cu k,abg o x.ts p,abg x.sA x.rs x.sc] 48]) b)∘JC (h:=by exact λb=>(show Mem w _ (.row (vS D (abk x.rs) (abk x.rs)) (abk x.rs) ((jK (z++[(⟨B,C,y.l⟩:Rw)]) (abk x.rs- (i+1))).map aac) 176 1:: abj o x.ts p bI 232 8:: abh j x.cu k aP 3 1:: abh d x.cl e aP 3 1:: abj F x.gs G eZ 198 2:: .blk N #[vI 0,vQ 0,vN,vN,vN,vN,vN] 48:: .blk I #[vI x.ak,vQ x.aj,abg F x.gs G,abg d x.cl e,abg j x.cu k,abg o x.ts p,abg x.sA x.rs x.sc] 48::kM 200 (z++[(⟨B,C,y.l⟩:Rw)])) from b))∘JG∘JR∘cK 1∘Jp 1∘aK∘Jq) λa Z b=>?_)
  replace Z:=Z.sp 29 (abg x.sA x.rs x.sc) rfl (by rw [M])
  exact ⟨_,om,i+1,(z++[(⟨B,C,y.l⟩:Rw)]),by omega,by rw [abm,L];rfl,by rw [abP,hz,q9o E,U];rfl,λq h=>(abV.1 h).elim (R q) (λh=>by rw [adf] at h;subst h;exact T),rfl,Z.sub kr,b.pt 7 [0,1,2,3,4,5,6]⟩
 have hzt:x.rs.take i=x.rs:=abI om
 have hil:i=abk x.rs:=by omega
 refine (JF∘JX∘JG∘JP∘Jp 1∘Jf 6∘JW xO xO) λalg=>(mM∘Jr∘Jy (v:= .agg #[vI x.ak,vQ x.aj,abg F x.gs G,abg d x.cl e,abg j x.cu k,abg o x.ts p,vS D (abk x.rs) (abk x.rs)]) (h:=by exact Pe rfl rfl fU rfl (λ_ h=>qi (h.blk (i:=6) rfl)))∘JV fU uw) λFg=>(mZ∘Jj∘JZ) λa Z b=>?_
 exact iy rfl Z (.cellS (i:=5) Z b rfl rfl fU rfl) (q5d (x:=x) (n:=abk x.rs) (i:=i) L hil V O P Q R (by rw [hzt] at hz;exact hz.symm) (b.pt 7 [4,3,2,1,0]))
def ZN (w:World) (x:aC) (r:Ending) (w':World):Prop:=∃y:aC,r= .returned (.tuple #[.agg y.cells,.int .i64 0])∧kH x y∧fq y∧Mem w w' (iU y)
def ZO (w:World) (s:aY) (r:Ending) (w':World):Prop:=∃(gm:Nat) (y:aC),r= .returned (.tuple #[.pointer (some ⟨gm,0,none⟩),.int .i64 0])∧y.av=s∧Mem w w' (mE gm y)
def GV (w:World) (r:Ending) (w':World):Prop:=r= .returned (.tuple #[.pointer none,.int .i64 2])∧Below w.heap.size w w'
def nP (w:World) (b:Bool) (s:aY) (r:Ending) (w':World):Prop:=if b=true then ZO w s r w' else GV w r w'
def zal {b:Bool} (h:b=false) (hb:Below w.heap.size w w'):nP w b s (.returned (.tuple #[.pointer none,.int .i64 2])) w':=by
 unfold nP
 rw [if_neg (by rw [h];decide)]
 exact ⟨rfl,hb⟩
def q5f {b:Bool} {gm:Nat} {y:aC} (h:b=true) (hs:y.av=s) (hm:Mem w w' (mE gm y)):nP w b s (.returned (.tuple #[.pointer (some ⟨gm,0,none⟩),.int .i64 0])) w':=by
 unfold nP
 rw [if_pos h]
 exact ⟨gm,y,rfl,hs,hm⟩
section
variable {W w w':World} {F T fs gs:List Fact} {x y:aC} {gm:Nat}
theorem Mem.GX (n:Nat) (h:Mem W w F) (a:F.drop n=mE gm x++T):eD w x:=h.sN n a ⟨rfl,rfl,rfl,rfl,rfl⟩
theorem Mem.Ct (n:Nat) (h:Mem W w F) (a:F.drop n=mE gm x++T):w.heap[gm]?=some (.cells #[.int .i64 x.ak,.int .u64 (x.aj:Int),.slice x.gA (abk x.gs) x.gc,.slice x.lA (abk x.cl) x.lc,.slice x.uA (abk x.cu) x.uc,.slice x.tA (abk x.ts) x.tc,.slice x.sA (abk x.rs) x.sc,.bool true] 273 (0,0)):=h.nO n a ⟨rfl,rfl,rfl,rfl,rfl⟩
theorem Mem.zh9 (h:Mem W w fs) {g:Nat} {C ds:Array Value} {t:TypeId} (hb:W.heap[g]?=some (.cells C t (0,0))) (b:C.toList.take ds.size=ds.toList):w.rangeAt g 0 ds.toList:=λj u a=>by
 have c:=h.zkw hb
 refine c j u ?_
 rw [←b,List.getElem?_take] at a
 split at a
 ·exact a
 ·cases a
def aaG (h:Mem W w fs) (k:Mem w w' gs):Mem W w' gs:=(h.pE k).iD (abk fs) (by rw [List.drop_left])
end
def q5g (f:α→List Value) (sz:Nat) (a:∀x,abk (f x)=sz) (h0:0<sz) (z:α) (m:Nat):(madeCells (f z).toArray (m*sz)).toList=(abB m z).flatMap f:=by
 unfold madeCells
 have c:abk ((abB m z).flatMap f)=m*sz:=by rw [zk f sz a,ab4]
 refine aew (by rw [c];simp) λi h1 h2=>?_
 have h3:i<m*sz:=by rw [←c];exact h2
 have d:i/sz<abk (abB m z):=by rw [ab4];exact Nat.div_lt_of_lt_mul (by rw [agT];exact h3)
 have b:=adA i h0
 have h4:=y5 f sz a (abB m z) (i/sz) (i%sz) d b
 rw [show i/sz*sz+i%sz=i by rw [agT];exact Nat.div_add_mod i sz,abt h2,List.getElem_replicate] at h4
 rw [abt (by rw [a];exact b)] at h4
 injection h4 with h4
 rw [h4]
 simp [a]
 rw [abt (by rw [a];exact b)]
 rfl
def zf5 (m:Nat):(madeCells (Value.agg #[.int .u64 0,.int .u32 0,.int .u64 0]).cells (m*3)).toList=(abB m Sp.zero).flatMap iT:=q5g iT 3 (λ_=>rfl) de Sp.zero m
theorem q5h (m:Nat):(madeCells #[.int .i64 0] (m*1)).toList=(abB m (0:Int)).map aP:=ZK aP 0 m
def q5i (x:aC) (d:Nat) (w:World) (f:bP x) (g:eD w x) (hm:w.heap[d]?=some (.cells #[vI x.ak,vQ x.aj,abg x.gA x.gs x.gc,abg x.lA x.cl x.lc,abg x.uA x.cu x.uc,abg x.tA x.ts x.tc,abg x.sA x.rs x.sc,.bool true] 273 (0,0))):
    Calls abl 103 #[vP d 0] w (ZN w x):=by
 refine (dY Tryz.func103 19) ?_
 refine (JP∘JA #[vI 0,vQ 0,vN,vN,vN,vN,vN]) λl j=>(Jp 1∘Jj∘JQ∘JP∘Jp 1∘Jy (v:= .bool false) (h:=by exact aaz rfl rfl rfl)∘Jp 2∘Jn∘Jf 7∘Jy (v:= .bool true) (h:=by exact Pd rfl rfl kr (λ_ h=>h.zu hm rfl))∘Jp 2∘aF∘Jj∘JF∘aD∘JP∘Jp 1∘Jn∘Jf 0∘Jy (v:= .agg x.cells) (h:=by exact Pe rfl rfl fU rfl (λ_ h=>h.zh9 hm rfl))∘JL (h:=by exact λb=>ZM x _ (g.old b) (f))) ?_
 rintro b _ k ⟨y,rfl,heq,c,hm⟩
 refine ⟨_,rfl,_,(show Mem w _ (.blk j #[vI 0,vQ 0,vN,vN,vN,vN,vN] 48::iU y) from b.pE hm),?_⟩
 refine (JV fU aU (h1:=by exact XM y)) λe=>(Jp 1∘lT∘Jj∘JZ) λa Z b=>?_
 exact eG rfl Z (.cellS (i:=0) Z b rfl rfl fU rfl) (.tmp Z rfl) (⟨y,rfl,heq,c,b.pt 1 []⟩)
def zf6 {cp:Int} {gc:Nat} {gs:List Gr} (a:abk gs≤1000000):bP (⟨cp,cr,gA,gc,gs,none,0,[],none,0,[],none,0,[],none,0,[]⟩:aC):=⟨a,abx _,abx _,abx _,abx _,λy b=>by cases b⟩
def zjn {cp:Int} {gc:Nat} {gs:List Gr} (hr:Rd w w.heap.size 2 gA (abk gs) (gs.flatMap eZ)):eD w (⟨cp,cr,gA,gc,gs,none,0,[],none,0,[],none,0,[],none,0,[]⟩:aC):=⟨hr,Rd.nil,Rd.nil,Rd.nil,Rd.nil,λy a=>by cases a⟩
theorem zjo {a:List Sp} {gc:Nat} {gs:List Gr} {z:List Rw} (b:Mem W w F) (hr:Rd W W.heap.size 2 gA (abk gs) (gs.flatMap eZ)) {q:Nat} (d:abk z=q) (i j k n:Nat) (h1:F[i]?=some (.row (.slice (some ⟨m,0,none⟩) (abk a) (abk a)) (abk a) ((abB (abk a) (0:Int)).map aP) 3 1)) (h2:F[j]?=some (.row (.slice (some ⟨g,0,none⟩) (abk a) (abk a)) (abk a) ((abB (abk a) (0:Int)).map aP) 3 1)) (h3:F[k]?=some (.row (.slice A q c) q (z.map aac) 176 1)) (h4:F.drop n=kM 200 z):eD w (⟨(abk a:Int),cr,gA,gc,gs,some ⟨m,0,none⟩,abk a,(abB (abk a) (0:Int)),some ⟨g,0,none⟩,abk a,(abB (abk a) (0:Int)),none,0,[],A,c,z⟩:aC):=
 ⟨b.old hr,by show Rd w _ 1 _ (adw _) _;rw [ab4];exact b.rd h1,by show Rd w _ 1 _ (adw _) _;rw [ab4];exact b.rd h2,Rd.nil,by show Rd w _ 1 _ (abk z) _;rw [d];exact b.rd h3,λy e=>b.jQ (abU (h4▸q32 e))⟩
def zf7 {a:List Sp} {gc:Nat} {gs:List Gr} {z:List Rw} (hr:abB (abk a) Sp.zero=a) (hk:abk z=abk gs) (hz:∀q∈z,q.l=a):(⟨(abk a:Int),cr,gA,gc,gs,some ⟨m,0,none⟩,abk a,(abB (abk a) (0:Int)),some ⟨g,0,none⟩,abk a,(abB (abk a) (0:Int)),none,0,[],A,c,z⟩:aC).av=newS (abk a:Int) cr gs:=by
 have h1:z.map aeI=abB (abk gs) a:=by
  rw [List.eq_replicate_iff]
  refine ⟨by rw [abv];exact hk,λb d=>?_⟩
  obtain ⟨q,e,rfl⟩:=acd.1 d
  exact hz q e
 unfold aC.av newS
 dsimp only
 rw [h1,abD,hr]
def zf8 (cp:Int) (cr:Nat) (gA:Option Addr) (gc:Nat) (gs:List Gr) (w:World) (O:(⟨cp,cr,gA,gc,gs,none,0,[],none,0,[],none,0,[],none,0,[]⟩:aC).av.Ok) (Y:abk gs≤1000000) (hr:Rd w w.heap.size 2 gA (abk gs) (gs.flatMap eZ)):
    Calls abl 99 #[.agg #[vI cp,vQ cr,.slice gA (abk gs) gc]] w (nP w (fF (⟨cp,cr,gA,gc,gs,none,0,[],none,0,[],none,0,[],none,0,[]⟩:aC).av) (newS cp cr gs)):=by
 have alv:=O.aj
 refine (dY Tryz.func99 34) ?_
 refine (JP∘JE) λw1 p=>(Jp 2∘Jj∘JQ∘JP∘eF xX O0∘JI (h:=by exact λc=>Yd (⟨cp,cr,gA,gc,gs,none,0,[],none,0,[],none,0,[],none,0,[]⟩:aC) O (zf6 Y) _ (zjn (c.old hr)))) λw6 hbw=>(Jp 1∘bG∘Jj) (Ju (λA=>?_) λA=>?_)
 ·
  exact (JT∘JP∘Jp 2∘Jj∘JZ∘bH) λc=>zal (by simpa using A) c.below
 obtain ⟨B,C,_,J⟩:=lW (x:=(⟨cp,cr,gA,gc,gs,none,0,[],none,0,[],none,0,[],none,0,[]⟩:aC)) (by simpa using A)
 replace B:1≤cp:=B;replace C:cp≤64:=C;replace J:bV gs=true:=J
 have hgl:=(qp J).2.1
 have P:fF (⟨cp,cr,gA,gc,gs,none,0,[],none,0,[],none,0,[],none,0,[]⟩:aC).av=true:=by simpa using A
 obtain ⟨b,D⟩:∃l:List Sp,abB cp.toNat Sp.zero=l:=⟨_,rfl⟩
 obtain rfl:cp=(abk b:Int):=by rw [←D,ab4];omega
 have Q:abB (abk b) Sp.zero=b:=D
 refine (JF∘aD) λa Z c=>?_
 refine wp_seq ?_
 refine Jb Z c ((Vs .n [9]) λwd3=>λa Z c j=>?_)
 refine EG (f:=0) (l:=(bt 10 [])) (λt u=>∃(d:Nat) (e:Nat) (g:Nat),Fr t 34 [] [(4,vP g 0),(7,.bool false),(3,vI 0),(2,.pointer none),(1,vP p 0),(0,.agg #[vI (abk b),vQ cr,abg gA gs gc])]∧Mem w u [.blk g #[vI (abk b),vQ cr,abg gA gs gc,vS d (abk b) (abk b),vS e (abk b) (abk b),vN,vN] 48,.row (vS e (abk b) (abk b)) (abk b) ((madeCells #[vI 0] (abk b*1)).toList) 3 1,.row (vS d (abk b) (abk b)) (abk b) ((madeCells #[vI 0] (abk b*1)).toList) 3 1,.blk p #[vI (abk b),vQ cr,abg gA gs gc] 44]) ?_ λE=>?_
 ·
  clear Z c j;rintro a V ⟨d,e,g,Z,c⟩
  refine qd kr ?_
  rw [q5h] at c
  replace c:=c.nil 176 1
  replace c:=c.nU 200 3
  replace c:Mem w _ (.row (vN) 0 [] 176 1:: .blk g #[vI (abk b),vQ cr,abg gA gs gc,vS d (abk b) (abk b),vS e (abk b) (abk b),vN,vN] 48:: .row (vS e (abk b) (abk b)) (abk b) ((abB (abk b) (0:Int)).map aP) 3 1:: .row (vS d (abk b) (abk b)) (abk b) ((abB (abk b) (0:Int)).map aP) 3 1:: .blk p #[vI (abk b),vQ cr,abg gA gs gc] 44::kM 200 []):=c
  refine Jb Z c ((JQ∘JP∘Jg 2 O4∘Jl∘Jp 1∘Jj∘JB) λa Z c=>?_)
  refine qg (λmS t u=>∃(k:Nat) (z:List Rw) (R:Option Addr) (N:Nat),(k≤abk gs)∧(abk z=k)∧(∀q∈z,q.l=b)∧(k≤N)∧mS=abk gs-k∧Fr t 34 [] [(19,vI k),(18,vI (abk gs)),(4,vP g 0),(7,.bool false),(3,vI 0),(2,.pointer none),(1,vP p 0)]∧Mem w u (.row (.slice R k N) k (z.map aac) 176 1:: .blk g #[vI (abk b),vQ cr,abg gA gs gc,vS d (abk b) (abk b),vS e (abk b) (abk b),vN,.slice R k N] 48:: .row (vS e (abk b) (abk b)) (abk b) ((abB (abk b) (0:Int)).map aP) 3 1:: .row (vS d (abk b) (abk b)) (abk b) ((abB (abk b) (0:Int)).map aP) 3 1:: .blk p #[vI (abk b),vQ cr,abg gA gs gc] 44::kM 200 z)) (m:=abk gs-0) ⟨0,[],none,0,abx _,rfl,(λq h=>by cases h),abo _,rfl,Z.sub kr,c.pt 5 [0,1,2,3,4]⟩ ?_
  clear Z c;rintro mS a w_ ⟨k,z,R,N,hk,K,hz,hcs,rfl,Z,c⟩
  refine Jb Z c ((JP∘Jp 1∘Jj∘JQ) (Ji (λS=>?_) λS=>?_))
  ·
   refine (JT∘aD∘JQ∘JB∘Vs (.f .n) [8]) λLV=>(Vf 0 6∘Vf 2 0∘Vc 1 O0∘Vc 3 O3) λa Z c j=>?_
   refine s_on Z 4 rfl ?_
   refine wM Z c (m:=abk b) rfl lD rfl rfl om om rfl de ?_
   clear Z c;intro a w25 o Z c
   refine ay (c.pt 6 [2,3,4,5]) (λj=>?_)
   refine s_on Z 5 rfl (iW Z c nN [(0,vS o (abk b) (abk b))] #[vS o (abk b) (abk b)] ?_)
   clear Z c;intro a LJ g26 Z c
   refine ay (c.pt 7 [3,4,5,6]) (λj=>?_)
   refine s_on Z 6 rfl (qF Z c (i:=2) rfl nN rfl rfl rfl (news:=([(⟨some ⟨o,0,none⟩,abk b,b⟩:Rw)].map aac)) (c.aW (i:=0) (n:=1) (size:=1) rfl rfl) (Yv _) om om rfl de ?_)
   clear Z c;intro a Gc r s Z c T
   refine ay (c.pt 7 [3,4,5,6]) (λj=>?_)
   refine Vb Z c j ((Vf 7 6) λa Z c j=>?_)
   refine s_on Z 8 rfl (fJ Z c 3 λBU c=>?_)
   refine dM kr ?_
   refine qd kr ?_
   replace c:=c.bM (i:=1) (ys:=b.flatMap iT) rfl ((zf5 _).trans (by rw [Q]))
   replace c:=c.bM (i:=2) (ys:=(z++[(⟨some ⟨o,0,none⟩,abk b,b⟩:Rw)]).map aac) rfl (by rw [abP])
   replace c:=c.pt (fs':=(.row (vS o (abk b) (abk b)) (abk b) (b.flatMap iT) 200 3:: .row (.slice r (k+1) s) (k+1) ((z++[(⟨some ⟨o,0,none⟩,abk b,b⟩:Rw)]).map aac) 176 1:: .blk g #[vI (abk b),vQ cr,abg gA gs gc,vS d (abk b) (abk b),vS e (abk b) (abk b),vN,.slice r (k+1) s] 48:: .row (vS e (abk b) (abk b)) (abk b) ((abB (abk b) (0:Int)).map aP) 3 1:: .row (vS d (abk b) (abk b)) (abk b) ((abB (abk b) (0:Int)).map aP) 3 1:: .blk p #[vI (abk b),vQ cr,abg gA gs gc] 44::kM 200 z)) 7 [1,2,3,4,5,6]
   replace c:=aaB (fs:=[.row (.slice r (k+1) s) (k+1) ((z++[(⟨some ⟨o,0,none⟩,abk b,b⟩:Rw)]).map aac) 176 1,.blk g #[vI (abk b),vQ cr,abg gA gs gc,vS d (abk b) (abk b),vS e (abk b) (abk b),vN,.slice r (k+1) s] 48,.row (vS e (abk b) (abk b)) (abk b) ((abB (abk b) (0:Int)).map aP) 3 1,.row (vS d (abk b) (abk b)) (abk b) ((abB (abk b) (0:Int)).map aP) 3 1,.blk p #[vI (abk b),vQ cr,abg gA gs gc] 44]) c
   replace c:Mem w _ (.row (.slice r (k+1) s) (k+1) ((z++[(⟨some ⟨o,0,none⟩,abk b,b⟩:Rw)]).map aac) 176 1:: .blk g #[vI (abk b),vQ cr,abg gA gs gc,vS d (abk b) (abk b),vS e (abk b) (abk b),vN,.slice r (k+1) s] 48:: .row (vS e (abk b) (abk b)) (abk b) ((abB (abk b) (0:Int)).map aP) 3 1:: .row (vS d (abk b) (abk b)) (abk b) ((abB (abk b) (0:Int)).map aP) 3 1:: .blk p #[vI (abk b),vQ cr,abg gA gs gc] 44::kM 200 (z++[(⟨some ⟨o,0,none⟩,abk b,b⟩:Rw)])):=c
   refine Jb Z c ((JG∘JR∘cK 1∘Jp 1∘aF∘Jq) λa Z c=>?_)
   exact ⟨_,om,k+1,(z++[(⟨some ⟨o,0,none⟩,abk b,b⟩:Rw)]),r,s,by omega,by rw [abm,K];rfl,λq h=>(abV.1 h).elim (hz q) (λh=>by rw [adf] at h;subst h;rfl),T,rfl,Z.sub kr,c.pt 5 [0,1,2,3,4]⟩
  have W:abk z=abk gs:=by omega
  refine (JF∘JX∘JG∘JP∘eF fU O1∘Jo (.agg ((⟨(abk b:Int),cr,gA,gc,gs,some ⟨d,0,none⟩,abk b,(abB (abk b) (0:Int)),some ⟨e,0,none⟩,abk b,(abB (abk b) (0:Int)),none,0,[],R,N,z⟩:aC).cells)) (by unfold aC.cells;rw [ab4,K];try rfl)∘JL (h:=by exact λc=>ZM (⟨(abk b:Int),cr,gA,gc,gs,some ⟨d,0,none⟩,abk b,(abB (abk b) (0:Int)),some ⟨e,0,none⟩,abk b,(abB (abk b) (0:Int)),none,0,[],R,N,z⟩:aC) _ (zjo c hr K 3 2 0 5 rfl rfl rfl rfl) (⟨Y,by rw [ab4];omega,by rw [ab4];omega,abx _,by show abk z≤1000000;omega,λq hq=>by rw [hz q hq];omega⟩))) ?_
  rintro c _ KT ⟨y,rfl,heq,hcap,hm⟩
  refine ⟨_,rfl,_,(aaG c hm),?_⟩
  exact (eH #[vI y.ak,vQ y.aj,abg y.gA y.gs y.gc,abg y.lA y.cl y.lc,abg y.uA y.cu y.uc,abg y.tA y.ts y.tc,abg y.sA y.rs y.sc,.bool true]∘JE) λKL g33=>(Jp 2∘Jj∘JZ∘bH) λc=>q5f (y:=y) P ((Lg heq).trans (zf7 Q W hz)) (c.pt 1 [0])
 refine EG (f:=2) (l:=(bt 10 [7,9])) (λt u=>∃(d:Nat) (g:Nat) (e:Nat),Fr t 34 [] [(14,vS e (abk b) (abk b)),(4,vP g 0),(11,vS d (abk b) (abk b)),(8,.agg #[vI (abk b),vQ cr,abg gA gs gc]),(7,.bool false),(3,vI 0),(2,.pointer none),(1,vP p 0),(0,.agg #[vI (abk b),vQ cr,abg gA gs gc])]∧Mem w u [.row (vS e (abk b) (abk b)) (abk b) ((madeCells #[vI 0] (abk b*1)).toList) 3 1,.blk g #[vI 0,vQ 0,vN,vN,vN,vN,vN] 48,.row (vS d (abk b) (abk b)) (abk b) ((madeCells #[vI 0] (abk b*1)).toList) 3 1,.blk p #[vI (abk b),vQ cr,abg gA gs gc] 44]) ?_ λF=>?_
 ·
  clear Z c j;rintro a V ⟨d,g,e,Z,c⟩
  have j:=c.pk (fs':=[.blk p #[vI (abk b),vQ cr,abg gA gs gc] 44]) [3]
  refine Vb Z c j ((Vy 7 (v:= .agg #[vI (abk b),vQ cr,abg gA gs gc,vS d (abk b) (abk b),vS e (abk b) (abk b),vN,vN]) (h:=by exact Yl.build (vs:=[(0,.agg #[vI (abk b),vQ cr,abg gA gs gc]),(1,vS d (abk b) (abk b)),(2,vS e (abk b) (abk b))]) rfl kr kr)) λa Z c j=>?_)
  refine s_on Z 9 rfl (cZ Z c 1 rfl rfl rfl rfl rfl fU rfl rfl (by simp [acf]) λU c=>?_)
  refine dM kr ?_
  exact E _ _ ⟨d,e,g,Z.sub kr,c.pk [1,0,2,3]⟩
 refine EG (f:=3) (l:=(bt 10 [7,8,9])) (λt u=>∃(d:Nat) (e:Nat),Fr t 34 [] [(14,vS e (abk b) (abk b)),(11,vS d (abk b) (abk b)),(8,.agg #[vI (abk b),vQ cr,abg gA gs gc]),(7,.bool false),(3,vI 0),(2,.pointer none),(1,vP p 0),(0,.agg #[vI (abk b),vQ cr,abg gA gs gc])]∧Mem w u [.row (vS e (abk b) (abk b)) (abk b) ((madeCells #[vI 0] (abk b*1)).toList) 3 1,.row (vS d (abk b) (abk b)) (abk b) ((madeCells #[vI 0] (abk b*1)).toList) 3 1,.blk p #[vI (abk b),vQ cr,abg gA gs gc] 44]) ?_ λG=>?_
 ·
  clear Z c j;rintro a V ⟨d,e,Z,c⟩
  have j:=c.pk (fs':=[.blk p #[vI (abk b),vQ cr,abg gA gs gc] 44]) [2]
  refine Vb Z c j ((Vy 7 (v:= .agg #[vI (abk b),vQ cr,abg gA gs gc,vS d (abk b) (abk b),vS e (abk b) (abk b),vN,vN]) (h:=by exact Yl.build (vs:=[(0,.agg #[vI (abk b),vQ cr,abg gA gs gc]),(1,vS d (abk b) (abk b)),(2,vS e (abk b) (abk b))]) rfl kr kr)∘VA 8 (.f (.f .n)) #[vI 0,vQ 0,vN,vN,vN,vN,vN]) λX g=>λa Z c j=>?_)
  refine s_on Z 9 rfl (cZ Z c 0 rfl rfl rfl rfl rfl fU rfl rfl (by simp [acf]) λU c=>?_)
  refine dM kr ?_
  exact E _ _ ⟨d,e,g,Z.sub kr,c.pk [0,1,2,3]⟩
 refine EG (f:=3) (l:=(bt 10 [6,7,9])) (λt u=>∃(d:Nat) (g:Nat),Fr t 34 [] [(4,vP g 0),(11,vS d (abk b) (abk b)),(13,vI (abk b)),(8,.agg #[vI (abk b),vQ cr,abg gA gs gc]),(7,.bool false),(3,vI 0),(2,.pointer none),(1,vP p 0),(0,.agg #[vI (abk b),vQ cr,abg gA gs gc])]∧Mem w u [.blk g #[vI 0,vQ 0,vN,vN,vN,vN,vN] 48,.row (vS d (abk b) (abk b)) (abk b) ((madeCells #[vI 0] (abk b*1)).toList) 3 1,.blk p #[vI (abk b),vQ cr,abg gA gs gc] 44]) ?_ λH=>?_
 ·
  clear Z c j;rintro a V ⟨d,g,Z,c⟩
  have j:=c.pk (fs':=[.blk p #[vI (abk b),vQ cr,abg gA gs gc] 44]) [2]
  refine s_on Z 6 rfl ?_
  refine wM Z c (m:=abk b) rfl zy rfl rfl om om rfl de ?_
  clear Z c;intro a L e Z c
  refine ay (c.pk [3]) (λj=>?_)
  exact F _ _ ⟨d,g,e,Z.sub kr,c.pk [0,1,2,3]⟩
 refine EG (f:=3) (l:=(bt 10 [3,7,9])) (λt u=>∃(e:Nat) (g:Nat),Fr t 34 [] [(4,vP g 0),(14,vS e (abk b) (abk b)),(10,vI (abk b)),(8,.agg #[vI (abk b),vQ cr,abg gA gs gc]),(7,.bool false),(3,vI 0),(2,.pointer none),(1,vP p 0),(0,.agg #[vI (abk b),vQ cr,abg gA gs gc])]∧Mem w u [.blk g #[vI 0,vQ 0,vN,vN,vN,vN,vN] 48,.row (vS e (abk b) (abk b)) (abk b) ((madeCells #[vI 0] (abk b*1)).toList) 3 1,.blk p #[vI (abk b),vQ cr,abg gA gs gc] 44]) ?_ λI=>?_
 ·
  clear Z c j;rintro a V ⟨e,g,Z,c⟩
  have j:=c.pk (fs':=[.blk p #[vI (abk b),vQ cr,abg gA gs gc] 44]) [2]
  refine s_on Z 3 rfl ?_
  refine wM Z c (m:=abk b) rfl zy rfl rfl om om rfl de ?_
  clear Z c;intro a M d Z c
  refine ay (c.pk [3]) (λj=>?_)
  exact F _ _ ⟨d,g,e,Z.sub kr,c.pk [2,1,0,3]⟩
 refine Vb Z c j ((Vf 1 0∘Vf 4 0∘qL 0 xX O0∘Vc 2 O0∘Vc 5 O0) λa Z c j=>?_)
 refine zd [3,6,8] kr rfl ?_
 refine all_cons ?_ ?_
 ·refine qt Z (i:=3) rfl rfl ?_
  refine wM Z c (m:=abk b) rfl zy rfl rfl om om rfl de ?_
  clear Z c;intro a M d Z c
  refine ay (c.pk [1]) (λj=>?_)
  refine zd [6,8] kr rfl ?_
  refine all_cons ?_ ?_
  ·refine qt Z (i:=6) rfl rfl ?_
   refine wM Z c (m:=abk b) rfl zy rfl rfl om om rfl de ?_
   clear Z c;intro a L e Z c
   refine ay (c.pk [2]) (λj=>?_)
   exact G _ _ ⟨d,e,Z.sub kr,c.pk [0,1,2]⟩
  refine all_cons ?_ all_nil
  refine qt Z (i:=8) rfl rfl ?_
  refine gT Z c #[vI 0,vQ 0,vN,vN,vN,vN,vN] ?_
  clear Z c;intro a X g Z c
  refine ay (c.pk [2]) (λj=>?_)
  exact H _ _ ⟨d,g,Z.sub kr,c.pk [0,1,2]⟩
 refine all_cons ?_ ?_
 ·refine qt Z (i:=6) rfl rfl ?_
  refine wM Z c (m:=abk b) rfl zy rfl rfl om om rfl de ?_
  clear Z c;intro a L e Z c
  refine ay (c.pk [1]) (λj=>?_)
  refine zd [3,8] kr rfl ?_
  refine all_cons ?_ ?_
  ·refine qt Z (i:=3) rfl rfl ?_
   refine wM Z c (m:=abk b) rfl zy rfl rfl om om rfl de ?_
   clear Z c;intro a M d Z c
   refine ay (c.pk [2]) (λj=>?_)
   exact G _ _ ⟨d,e,Z.sub kr,c.pk [1,0,2]⟩
  refine all_cons ?_ all_nil
  refine qt Z (i:=8) rfl rfl ?_
  refine gT Z c #[vI 0,vQ 0,vN,vN,vN,vN,vN] ?_
  clear Z c;intro a X g Z c
  refine ay (c.pk [2]) (λj=>?_)
  exact I _ _ ⟨e,g,Z.sub kr,c.pk [0,1,2]⟩
 refine all_cons ?_ all_nil
 refine qt Z (i:=8) rfl rfl ?_
 refine gT Z c #[vI 0,vQ 0,vN,vN,vN,vN,vN] ?_
 clear Z c;intro a X g Z c
 refine ay (c.pk [1]) (λj=>?_)
 refine zd [3,6] kr rfl ?_
 refine all_cons ?_ ?_
 ·refine qt Z (i:=3) rfl rfl ?_
  refine wM Z c (m:=abk b) rfl zy rfl rfl om om rfl de ?_
  clear Z c;intro a M d Z c
  refine ay (c.pk [2]) (λj=>?_)
  exact H _ _ ⟨d,g,Z.sub kr,c.pk [1,0,2]⟩
 refine all_cons ?_ all_nil
 refine qt Z (i:=6) rfl rfl ?_
 refine wM Z c (m:=abk b) rfl zy rfl rfl om om rfl de ?_
 clear Z c;intro a L e Z c
 refine ay (c.pk [2]) (λj=>?_)
 exact I _ _ ⟨e,g,Z.sub kr,c.pk [1,0,2]⟩
structure bZ where
 ak:Nat
 groups:Nat
 aj:Nat
 ps:List Nat
 ws:List Nat
def bZ.cells (n:bZ):Array Value:=(.int .u8 (n.ak:Int):: .int .u8 (n.groups:Int):: .int .u32 (n.aj:Int)::(n.ps.map (λz:Nat=>abJ .u8 (z:Int))++n.ws.map (λz:Nat=>abJ .u16 (z:Int)))).toArray
structure bZ.Ok (n:bZ):Prop where
 ak:n.ak<256
 groups:n.groups<256
 aj:n.aj<4294967296
 pl:abk n.ps=5
 wl:abk n.ws=5
 ps:∀z∈n.ps,z<256
 ws:∀z∈n.ws,z<65536
section
variable {n:bZ} {i g:Nat} {gs:List Gr} {ds:List Nat} {x:Gr}
theorem bZ.GY (h:n.Ok) (hi:i<5):n.cells[3+i*1]?=some (.int .u8 (n.ps.getD i 0:Int))∧n.ps.getD i 0<256:=by
 have a:i<abk n.ps:=by rw [h.pl];exact hi
 refine ⟨?_,h.ps _ (qe 0 a)⟩
 grind [bZ.cells,getD_at]
theorem bZ.Cu (h:n.Ok) (hi:i<5):n.cells[8+i*1]?=some (.int .u16 (n.ws.getD i 0:Int))∧n.ws.getD i 0<65536:=by
 have a:i<abk n.ws:=by rw [h.wl];exact hi
 refine ⟨?_,h.ws _ (qe 0 a)⟩
 rw [ac5,show 8+i=(5+i)+3 by omega]
 rw [←Array.getElem?_toList]
 unfold bZ.cells
 dsimp only
 rw [adK,adK,adK,ac9 (by rw [abv,h.pl];omega),abv,h.pl,acN,adb,getD_at 0 a]
 rfl
def fB (ps ws:List Nat):Nat→List Gr×List Nat
 |0=>([⟨0,1⟩],[0])
 |i+1=>
  let q:=fB ps ws i
  let u:=ps.getD i 0%abk q.1
  let up:=if q.2.getD u 0=4 then 0 else u
  (q.1++[⟨(up:Int),((1+ws.getD i 0:Nat):Int)⟩],q.2++[q.2.getD up 0+1])
theorem ZR:∀(f g:Nat),g<abk gs→(∀i,0<i→i≤g→dS gs i)→jl (gs++[x]) f g=jl gs f g
 |0,_,_,_=>rfl
 | f + 1, g, b, a => by
  rw [jl,jl]
  split
  ·rfl
  ·rename_i h0
   have h1:=a g om (abo _)
   unfold dS at h1
   rw [abn,aeh b,←abn]
   rw [ZR f _ om (λi hi c=>a i hi om)]
theorem L8 {l:List α} {x d:α} {g:Nat} (a:g<abk l):(l++[x]).getD g d=l.getD g d:=by grind
theorem ZT {l:List α} {x d:α}:(l++[x]).getD (abk l) d=x:=by grind
structure iY (gs:List Gr) (ds:List Nat):Prop where
 len:abk ds=abk gs
 ok:bV gs=true
 dep:∀g,g<abk gs→ds.getD g 0=iJ gs g
def ZU:iY [⟨0,1⟩] [0]:=⟨rfl,by decide,λg a=>by
 obtain rfl:g=0:=by simp at a;omega
 rfl⟩
theorem iY.le (h:iY gs ds) (a:g<abk gs):ds.getD g 0≤4:=by
 rw [h.dep g a]
 have h1:=(qp h.ok).2.2.2 g a
 unfold o7 at h1
 rw [adE,beq_iff_eq,decide_eq_true_eq] at h1
 rcases h1 with rfl|h1
 ·exact abx _
 ·exact h1.2.2.2
theorem iY.snoc {up w:Nat} (h:iY gs ds) (j:up<abk gs) (m:ds.getD up 0<4) (o:w<65536) (p:abk gs<256):iY (gs++[⟨(up:Int),((1+w:Nat):Int)⟩]) (ds++[ds.getD up 0+1]):=by
 obtain ⟨h1,h2,h3,h4⟩:=qp h.ok
 have a:abk (gs++[(⟨(up:Int),((1+w:Nat):Int)⟩:Gr)])=abk gs+1:=by rw [abm];rfl
 have k:∀g,g<abk gs→∀i,0<i→i≤g→dS gs i:=λg c=>uO h.ok c
 have b:∀g,g<abk gs→iJ (gs++[⟨(up:Int),((1+w:Nat):Int)⟩]) g=iJ gs g:=λg c=>ZR g g c (k g c)
 have d:(gs++[(⟨(up:Int),((1+w:Nat):Int)⟩:Gr)]).getD (abk gs) Gr.zero=⟨(up:Int),((1+w:Nat):Int)⟩:=ZT
 have f:∀i,0<i→i≤abk gs→dS (gs++[⟨(up:Int),((1+w:Nat):Int)⟩]) i:=λi hi l=>by
  grind [dS,L8]
 have e:iJ (gs++[⟨(up:Int),((1+w:Nat):Int)⟩]) (abk gs)=ds.getD up 0+1:=by
  rw [Pb f om,d]
  show iJ (gs++[⟨(up:Int),((1+w:Nat):Int)⟩]) ((up:Int)).toNat+1=_
  rw [abD,b up j,h.dep up j]
 refine ⟨by rw [abm,a,h.len];rfl,?_,λg c=>?_⟩
 ·unfold bV
  rw [a,L8 om,decide_eq_true ⟨by omega,by omega,h3⟩,acF]
  refine uL λg c=>?_
  grind [o7,L8,lV]
 ·rw [a] at c
  rcases acj g (abk gs) with h5|h5
  ·rw [L8 (by rw [h.len];exact h5),b g h5,h.dep g h5]
  ·obtain rfl:g=abk gs:=by omega
   rw [e,←h.len,ZT]
theorem ZV {ps ws:List Nat} (c:∀z∈ws,z<65536):∀i,i≤5→iY (fB ps ws i).1 (fB ps ws i).2∧(fB ps ws i).1.length=i+1
 |0,_=>⟨ZU,rfl⟩
 | i + 1, hi => by
  obtain ⟨h1,h2⟩:=ZV (ps:=ps) c i om
  have b:ps.getD i 0% (fB ps ws i).1.length<(fB ps ws i).1.length:=adA _ om
  have a:ws.getD i 0<65536:=by
   grind [qe]
  have h0:(fB ps ws i).2.getD 0 0=0:=by rw [h1.dep 0 om];rfl
  have key:∀up,up<(fB ps ws i).1.length→(fB ps ws i).2.getD up 0<4→iY ((fB ps ws i).1++[⟨(up:Int),((1+ws.getD i 0:Nat):Int)⟩]) ((fB ps ws i).2++[(fB ps ws i).2.getD up 0+1]):=λup h3 h4=>h1.snoc h3 h4 a om
  rw [fB]
  dsimp only
  refine ⟨?_,by rw [abm,h2];rfl⟩
  by_cases h4:(fB ps ws i).2.getD (ps.getD i 0% (fB ps ws i).1.length) 0=4
  ·grind
  ·rw [if_neg h4];exact key _ b (by have:=h1.le b;omega)
theorem ZW {ps ws:List Nat} {u up:Nat} (b:fB ps ws i=(gs,ds)) (c:ps.getD i 0%abk gs=u) (a:(if ds.getD u 0=4 then 0 else u)=up):fB ps ws (i+1)=(gs++[⟨(up:Int),((1+ws.getD i 0:Nat):Int)⟩],ds++[ds.getD up 0+1]):=by
 rw [fB,b]
 dsimp only
 rw [c,a]
end
def bZ.gs (n:bZ):List Gr:=(fB n.ps n.ws (n.groups%6)).1
def bZ.cp (n:bZ):Nat:=1+n.ak%4
theorem bZ.right {n:bZ} (h:n.Ok):bV n.gs=true∧abk n.gs=n.groups%6+1:=by
 have:=ZV (ps:=n.ps) h.ws (n.groups%6) om
 exact ⟨this.1.ok,this.2⟩
def bC.zero:bC:=⟨0,0,0,0,0,0,0,0⟩
def qU (x:bC):List Value:=x.cells.toList
def zf9 (x:bC):abk (qU x)=8:=rfl
theorem ZX (l:List bC):∀u∈l.flatMap qU,u.oneCell'=true:=by
 intro u a
 obtain ⟨x,_,b⟩:=acK.1 a
 exact YF x u b
structure iM where
 kind:Nat
 cpu:Nat
 task:Nat
 group:Nat
 to:Nat
 weight:Nat
 ticks:Nat
 mask:Nat
structure iM.Ok (x:iM):Prop where
 kind:x.kind<256
 cpu:x.cpu<256
 task:x.task<256
 group:x.group<256
 to:x.to<256
 weight:x.weight<65536
 ticks:x.ticks<4294967296
 mask:x.mask<256
def iM.zero:iM:=⟨0,0,0,0,0,0,0,0⟩
def iM.cells (x:iM):Array Value:= #[.int .u8 (x.kind:Int),.int .u8 (x.cpu:Int),.int .u8 (x.task:Int),.int .u8 (x.group:Int),.int .u8 (x.to:Int),.int .u16 (x.weight:Int),.int .u32 (x.ticks:Int),.int .u8 (x.mask:Int)]
def yJ (x:iM):List Value:=x.cells.toList
theorem Rq (x:iM):abk (yJ x)=8:=rfl
theorem zga (x:iM):∀v∈x.cells.toList,v.oneCell'=true:=by simp [iM.cells,acf]
def jA:List Nat:=[1,1,1,2,2,3,3,4,5,5,5,5,6,6,6,6,7,8,9,10]
def iM.Ac (x:iM):Nat:=if 0<x.mask%4 then (1*2^ (1+x.to%4)-1)|||1*2^ (x.cpu%4) else x.mask
def iM.op (x:iM):bC:=⟨jA.getD (x.kind%20) 0,((x.cpu%4:Nat):Int),((1+x.task%12:Nat):Int),((x.group%6:Nat):Int),((1+x.weight:Nat):Int),((x.to%4:Nat):Int),((1+x.ticks%16777216:Nat):Int),x.Ac⟩
def ZY (h:k<20):(#[.int .u8 1,.int .u8 1,.int .u8 1,.int .u8 2,.int .u8 2,.int .u8 3,.int .u8 3,.int .u8 4,.int .u8 5,.int .u8 5,.int .u8 5,.int .u8 5,.int .u8 6,.int .u8 6,.int .u8 6,.int .u8 6,.int .u8 7,.int .u8 8,.int .u8 9,.int .u8 10]:Array Value)[k]?=some (.int .u8 (jA.getD k 0:Int)):=by
 have:∀k,k<20→(#[.int .u8 1,.int .u8 1,.int .u8 1,.int .u8 2,.int .u8 2,.int .u8 3,.int .u8 3,.int .u8 4,.int .u8 5,.int .u8 5,.int .u8 5,.int .u8 5,.int .u8 6,.int .u8 6,.int .u8 6,.int .u8 6,.int .u8 7,.int .u8 8,.int .u8 9,.int .u8 10]:Array Value)[k]?=some (.int .u8 (jA.getD k 0:Int)):=by
  intro k a
  match k,a with
  |0,_|1,_|2,_|3,_|4,_|5,_|6,_|7,_|8,_|9,_|10,_|11,_|12,_|13,_|14,_|15,_|16,_|17,_|18,_|19,_=>rfl
  |k+20,h=>omega
 exact this k h
def zam (k:Nat):jA.getD k 0≤10:=by
 rcases acj k 20 with h|h
 ·have:∀k,k<20→jA.getD k 0≤10:=by decide
  exact this k h
 ·rw [abn,adg h];decide
def zjp {x:iM} (h:x.Ok):x.Ac<256:=by
 unfold iM.Ac
 split
 ·have h1:2^ (1+x.to%4)≤2^4:=ad3 de om
  have h2:2^ (x.cpu%4)≤2^3:=ad3 de om
  exact Nat.or_lt_two_pow (n:=8) om om
 ·exact h.mask
theorem iM.zk3 {x:iM} (h:x.Ok):x.op.Ok:=by
 have h1:=zam (x.kind%20)
 have h2:=zjp h
 have h3:=h.weight
 refine ⟨?_,?_,?_,?_,?_,?_,?_,?_⟩
 ·show jA.getD (x.kind%20) 0<256;omega
 ·show aQ ((x.cpu%4:Nat):Int);unfold aQ;omega
 ·show aQ ((1+x.task%12:Nat):Int);unfold aQ;omega
 ·show aQ ((x.group%6:Nat):Int);unfold aQ;omega
 ·show aQ ((1+x.weight:Nat):Int);unfold aQ;omega
 ·show aQ ((x.to%4:Nat):Int);unfold aQ;omega
 ·show aQ ((1+x.ticks%16777216:Nat):Int);unfold aQ;omega
 ·show x.Ac<_;omega
def zt (l:List iM) (most:Nat):List bC:=(l.take most).map iM.op
def q5l {l:List iM} (h:∀x∈l,x.Ok):∀o∈zt l most,o.Ok:=λo a=>by
 obtain ⟨x,b,rfl⟩:=acd.1 a
 exact iM.zk3 (h x (ach b))
theorem Z0:SI abl 100 13:=⟨by kernel_rfl,by kernel_rfl⟩
theorem zjq:EI abl 101 275 (.agg #[.int .u8 0,.int .u8 0,.int .u8 0,.int .u8 0,.int .u8 0,.int .u16 0,.int .u32 0,.int .u8 0]) 8 16:=⟨by kernel_rfl,by kernel_rfl,rfl,by omega⟩
theorem Z4:SI abl 275 8:=⟨by kernel_rfl,by kernel_rfl⟩
theorem zan (l:List iM) (m:Nat):abJ .i64 (if ((m:Int)<(abk l:Int)) then (m:Int) else (abk l:Int))= .int .i64 ((abk (l.take m):Nat):Int):=by
 rw [abu]
 congr 1
 split<;>omega
def Z5 {z:Nat} (h:z≤4):1*2^z≤18446744073709551615:=by
 have h1:2^z≤2^4:=ad3 de h
 omega
def Ad (w:World) (cp:Int) (cr:Nat) (gs:List Gr) (r:Ending) (a:World):Prop:=(∃A c,r= .returned (.agg #[vI cp,vQ cr,.slice A (abk gs) c])∧a.ownsRow w.heap.size 198 2 (.slice A (abk gs) c) (abk gs) (gs.flatMap eZ)∧abk gs≤c)∧Below w.heap.size w a
def zao {cp:Int} {gs a:List Gr} (b:gs=a) (d:abk gs=k) (e:W.ownsRow w.heap.size 198 2 (.slice A k c) k (gs.flatMap eZ)) (hc:k≤c) (hb:Below w.heap.size w W):Ad w cp cr a (.returned (.agg #[vI cp,vQ cr,.slice A k c])) W:=by
 subst b
 subst d
 exact ⟨⟨A,c,rfl,e,hc⟩,hb⟩
def qz9 (n:bZ) (F:n.Ok) (w:World):
    Calls abl 100 #[.agg n.cells] w (Ad w (n.cp:Int) n.aj n.gs):=by
 have alG:=F.aj;have alH:=F.ak;have alI:=F.groups
 refine (dY Tryz.func100 63) ?_
 refine (JP∘JE) λw1 l=>(JA #[vI 0,vQ 0,vN]) λw2 H=>(Jr∘Jg 0 O1∘Jw .i64∘Jp 1∘Jo (vI (n.ak%4:Nat)) (by exact q9 .i64 _ 4)∘Jp 1∘Jo (vI (1+(n.ak%4):Nat)) (by exact q8 om om)∘Jg 2 O1∘Jw .u64∘eH #[vI 0,vI 1]∘JU iQ #[vI 0,vI 1]) λw16 x=>(eH #[vI (1+(n.ak%4):Nat),vQ n.aj,vS x 1 1]∘JA #[vI 0,vQ 0,vN]) λw3 I=>(JV xX aU) λT=>(aF∘Jr∘JU zy #[vI 0]) λDn K=>(Jp 1∘aK∘Jq∘JC (h:=by exact λb=>b.eB (i:=2) (n:=1) (size:=2) rfl rfl de)∘JC (h:=by exact λb=>b.eB (i:=0) (n:=1) (size:=1) rfl rfl de)∘JC (h:=by exact λb=>(show Mem w _ [.row (vS K 1 1) 1 ([0].map dG) 3 1,.blk I #[vI (1+(n.ak%4):Nat),vQ n.aj,vS x 1 1] 44,.row (vS x 1 1) 1 ([(⟨0,1⟩:Gr)].flatMap eZ) 198 2,.blk H #[vI 0,vQ 0,vN] 44,.blk l n.cells 100] from b))∘JG∘JQ∘JP∘Jg 1 O4∘Jw .i64∘Jp 1∘Jo (vI (n.groups%6:Nat)) (by exact q9 .i64 _ 6)∘Jp 1∘Jj∘JB) λa Z b=>?_
 refine qg (λmS aS wS=>∃(i:Nat) (gs:List Gr) (c:List Nat) (X:Option Addr) (G:Nat) (Y:Option Addr) (R:Nat),(i≤n.groups%6)∧(fB n.ps n.ws i=(gs,c))∧(iY gs c)∧(abk gs=i+1)∧(abk c=i+1)∧(i+1≤G)∧(i+1≤R)∧mS=n.groups%6-i∧Fr aS 63 [] [(23,vI i),(22,vI (n.groups%6:Nat)),(4,.slice Y (i+1) R),(3,vP I 0),(2,vP H 0),(1,vP l 0)]∧Mem w wS [.row (.slice Y (i+1) R) (i+1) (c.map dG) 3 1,.blk I #[vI (1+(n.ak%4):Nat),vQ n.aj,.slice X (i+1) G] 44,.row (.slice X (i+1) G) (i+1) (gs.flatMap eZ) 198 2,.blk H #[vI 0,vQ 0,vN] 44,.blk l n.cells 100]) (m:=n.groups%6-0) ⟨0,[⟨0,1⟩],[0],(some ⟨x,0,none⟩),1,(some ⟨K,0,none⟩),1,abx _,rfl,ZU,rfl,rfl,abo _,abo _,rfl,Z.sub kr,b.pk [0,1,2,3,4]⟩ ?_
 clear Z b;rintro mS a w_ ⟨i,gs,c,X,G,Y,R,hi,U,A,B,L,V,hyc,rfl,Z,b⟩
 refine Jb Z b ((JP∘Jp 1∘Jj∘JQ) (Ji (λM=>?_) λM=>?_))
 ·
  have N:i<5:=by omega
  have hpv:=(bZ.GY F N).2
  have O:=(bZ.Cu F N).2
  obtain ⟨u,S⟩:∃u,n.ps.getD i 0%abk gs=u:=⟨_,rfl⟩
  have W:u<abk gs:=by rw [←S];exact adA _ om
  have hdu:=A.le W
  obtain ⟨up,C⟩:∃z,(if c.getD u 0=4 then 0 else u)=z:=⟨_,rfl⟩
  refine (JT∘aD∘JQ∘JB∘JP∘Jp 2∘aK∘Jj) λa Z b=>?_
  refine wp_seq ?_
  refine Jb Z b ((Vs .n []) λLV=>(Vp [0]∘Vf 1 3∘Vf 5 2∘Vy 2 (v:=vP l (3+i*1)) (h:=by exact (Yl.uh (ad:=⟨l,3,none⟩) (m:=5) (y:=i) (sz:=1) rfl rfl rfl kr om).as (by rw [acT]))∘Vy 3 (v:=vB (n.ps.getD i 0)) (h:=by exact Pd rfl rfl kr (λ_ h=>h.cell (i:=4) rfl (bZ.GY F om).1))∘Vw 4 .i64∘Vc 6 O1∘Vl 7∘Vy 8 (v:=vI ((n.ps.getD i 0)% (i+1):Nat)) (h:=by exact aau (m:=(n.ps.getD i 0)) (n:=(i+1)) rfl rfl rfl om)∘Vo (vI u) (by rw [←S,B])∘Vp [9]∘Vd∘aF∘JQ∘JP∘Jp 2) ?_)
  repeat (first|clear Z|clear b)
  intro a Z b
  obtain ⟨gY,rfl⟩:=b.rat 0 u
  refine Jb Z b ((lU u 1∘Jy (h:=by exact aae 0 u 0 om rfl rfl rfl)∘Jp 1∘gG∘Jj) (Je (λP=>?_) λP=>?_))
  ·
   have d:up=0:=by rw [←C,if_pos om]
   have hd0:c.getD 0 0=0:=by rw [A.dep 0 om];rfl
   have o:up<abk gs:=by omega
   have p:c.getD up 0<4:=by rw [d,hd0];decide
   refine (JT∘JR∘Jp 1∘Jq∘Jk 6 (vI up) (h:=by rw [d];try rfl)∘JG∘JP∘Jp 3∘lU up 1∘Jy (h:=by exact aae 0 up 0 om rfl rfl rfl)∘cK 1∘JU zy #[vI ((c.getD up 0)+1:Nat)]) λEY q=>(JD ([c.getD up 0+1].map dG) 1 (λ_ _=>fO) zy (hr:=by exact λb=>b.aW (i:=0) (n:=1) (size:=1) rfl rfl) (h1:=by simp [acf,dG])) λw47 e g r=>(Jp 1∘aF∘Jq∘JC (h:=by exact λb=>b.bM (i:=1) (ys:=(c++[c.getD up 0+1]).map dG) rfl (by rw [abP]))∘JC (h:=by exact λb=>(show Mem w _ [.blk q #[vI ((c.getD up 0)+1:Nat)] 3,.row (.slice e ((i+1)+1) g) ((i+1)+1) ((c++[c.getD up 0+1]).map dG) 3 1,.blk I #[vI (1+(n.ak%4):Nat),vQ n.aj,.slice X (i+1) G] 44,.row (.slice X (i+1) G) (i+1) (gs.flatMap eZ) 198 2,.blk H #[vI 0,vQ 0,vN] 44,.blk l n.cells 100] from b))∘JG∘Vs (.t (.t (.t (.f .n)))) [13]) λQ=>(Vf 0 2∘Vp [2,3]∘Vf 4 8∘Vc 1 O2∘Vy 5 (v:=vP l (8+i*1)) (h:=by exact (Yl.uh (ad:=⟨l,8,none⟩) (m:=5) (y:=i) (sz:=1) rfl rfl rfl kr om).as (by rw [acT]))∘Vy 6 (v:= .int .u16 (n.ws.getD i 0)) (h:=by exact Pd rfl rfl kr (λ_ h=>h.cell (i:=4) rfl (bZ.Cu F om).1))∘Vw 7 .i64∘Vp [8]∘Vo (vI (1+(n.ws.getD i 0):Nat)) (by exact q8 om om)∘Vy 9 (v:= .agg #[vI up,vI (1+(n.ws.getD i 0):Nat)]) (h:=by exact Yl.build (vs:=[(0,vI up),(1,vI (1+(n.ws.getD i 0):Nat))]) rfl kr kr)) λa Z b D=>?_
   refine s_on Z 10 rfl (iW Z b iQ [(0,.agg #[vI up,vI (1+(n.ws.getD i 0):Nat)])] #[vI up,vI (1+(n.ws.getD i 0):Nat)] ?_)
   clear Z b;intro a LZ J Z b
   refine ay (b.pk [1,2,3,5,6]) (λD=>?_)
   refine s_on Z 11 rfl (qF Z b (i:=4) rfl iQ rfl rfl rfl (news:=([(⟨(up:Int),((1+n.ws.getD i 0:Nat):Int)⟩:Gr)].flatMap eZ)) (b.aW (i:=0) (n:=1) (size:=2) rfl rfl) (F8 _) om om rfl de ?_)
   clear Z b;intro a Rs j k Z b s
   refine ay (b.pk [1,2,3,5,6]) (λD=>?_)
   refine Vb Z b D ((Vf 12 2) λa Z b D=>?_)
   refine s_on Z 13 rfl (fJ Z b 3 λE b=>?_)
   refine dM kr ?_
   refine qd kr ?_
   replace b:=b.bM (i:=4) (ys:=(gs++[(⟨(up:Int),((1+n.ws.getD i 0:Nat):Int)⟩:Gr)]).flatMap eZ) rfl (by rw [abO])
   replace b:Mem w _ [.blk J #[vI up,vI (1+(n.ws.getD i 0):Nat)] 198,.blk q #[vI ((c.getD up 0)+1:Nat)] 3,.row (.slice e ((i+1)+1) g) ((i+1)+1) ((c++[c.getD up 0+1]).map dG) 3 1,.blk I #[vI (1+(n.ak%4):Nat),vQ n.aj,.slice j ((i+1)+1) k] 44,.row (.slice j ((i+1)+1) k) ((i+1)+1) ((gs++[(⟨(up:Int),((1+n.ws.getD i 0:Nat):Int)⟩:Gr)]).flatMap eZ) 198 2,.blk H #[vI 0,vQ 0,vN] 44,.blk l n.cells 100]:=b
   refine Jb Z b ((JG∘JR∘cK 1∘Jp 1∘aF∘Jq) λa Z b=>?_)
   exact ⟨_,om,i+1,(gs++[(⟨(up:Int),((1+n.ws.getD i 0:Nat):Int)⟩:Gr)]),(c++[c.getD up 0+1]),j,k,e,g,by omega,ZW U S C,A.snoc o p O om,by rw [abm,B];rfl,by rw [abm,L];rfl,s,r,rfl,Z.sub kr,b.pk [2,3,4,5,6]⟩
  have d:up=u:=by rw [←C,if_neg om]
  have o:up<abk gs:=by omega
  have p:c.getD up 0<4:=by rw [d];omega
  refine (Jk 6 (vI up) (h:=by rw [d])∘JF∘aD∘JP∘Jp 3∘lU up 1∘Jy (h:=by exact aae 0 up 0 om rfl rfl rfl)∘cK 1∘JU zy #[vI ((c.getD up 0)+1:Nat)]) λEY q=>(JD ([c.getD up 0+1].map dG) 1 (λ_ _=>fO) zy (hr:=by exact λb=>b.aW (i:=0) (n:=1) (size:=1) rfl rfl) (h1:=by simp [acf,dG])) λw47 e g r=>(Jp 1∘aF∘Jq∘JC (h:=by exact λb=>b.bM (i:=1) (ys:=(c++[c.getD up 0+1]).map dG) rfl (by rw [abP]))∘JC (h:=by exact λb=>(show Mem w _ [.blk q #[vI ((c.getD up 0)+1:Nat)] 3,.row (.slice e ((i+1)+1) g) ((i+1)+1) ((c++[c.getD up 0+1]).map dG) 3 1,.blk I #[vI (1+(n.ak%4):Nat),vQ n.aj,.slice X (i+1) G] 44,.row (.slice X (i+1) G) (i+1) (gs.flatMap eZ) 198 2,.blk H #[vI 0,vQ 0,vN] 44,.blk l n.cells 100] from b))∘JG∘Vs (.t (.t (.t (.f .n)))) [13]) λQ=>(Vf 0 2∘Vp [2,3]∘Vf 4 8∘Vc 1 O2∘Vy 5 (v:=vP l (8+i*1)) (h:=by exact (Yl.uh (ad:=⟨l,8,none⟩) (m:=5) (y:=i) (sz:=1) rfl rfl rfl kr om).as (by rw [acT]))∘Vy 6 (v:= .int .u16 (n.ws.getD i 0)) (h:=by exact Pd rfl rfl kr (λ_ h=>h.cell (i:=4) rfl (bZ.Cu F om).1))∘Vw 7 .i64∘Vp [8]∘Vo (vI (1+(n.ws.getD i 0):Nat)) (by exact q8 om om)∘Vy 9 (v:= .agg #[vI up,vI (1+(n.ws.getD i 0):Nat)]) (h:=by exact Yl.build (vs:=[(0,vI up),(1,vI (1+(n.ws.getD i 0):Nat))]) rfl kr kr)) λa Z b D=>?_
  refine s_on Z 10 rfl (iW Z b iQ [(0,.agg #[vI up,vI (1+(n.ws.getD i 0):Nat)])] #[vI up,vI (1+(n.ws.getD i 0):Nat)] ?_)
  clear Z b;intro a LZ J Z b
  refine ay (b.pk [1,2,3,5,6]) (λD=>?_)
  refine s_on Z 11 rfl (qF Z b (i:=4) rfl iQ rfl rfl rfl (news:=([(⟨(up:Int),((1+n.ws.getD i 0:Nat):Int)⟩:Gr)].flatMap eZ)) (b.aW (i:=0) (n:=1) (size:=2) rfl rfl) (F8 _) om om rfl de ?_)
  clear Z b;intro a Rs j k Z b s
  refine ay (b.pk [1,2,3,5,6]) (λD=>?_)
  refine Vb Z b D ((Vf 12 2) λa Z b D=>?_)
  refine s_on Z 13 rfl (fJ Z b 3 λE b=>?_)
  refine dM kr ?_
  refine qd kr ?_
  replace b:=b.bM (i:=4) (ys:=(gs++[(⟨(up:Int),((1+n.ws.getD i 0:Nat):Int)⟩:Gr)]).flatMap eZ) rfl (by rw [abO])
  replace b:Mem w _ [.blk J #[vI up,vI (1+(n.ws.getD i 0):Nat)] 198,.blk q #[vI ((c.getD up 0)+1:Nat)] 3,.row (.slice e ((i+1)+1) g) ((i+1)+1) ((c++[c.getD up 0+1]).map dG) 3 1,.blk I #[vI (1+(n.ak%4):Nat),vQ n.aj,.slice j ((i+1)+1) k] 44,.row (.slice j ((i+1)+1) k) ((i+1)+1) ((gs++[(⟨(up:Int),((1+n.ws.getD i 0:Nat):Int)⟩:Gr)]).flatMap eZ) 198 2,.blk H #[vI 0,vQ 0,vN] 44,.blk l n.cells 100]:=b
  refine Jb Z b ((JG∘JR∘cK 1∘Jp 1∘aF∘Jq) λa Z b=>?_)
  exact ⟨_,om,i+1,(gs++[(⟨(up:Int),((1+n.ws.getD i 0:Nat):Int)⟩:Gr)]),(c++[c.getD up 0+1]),j,k,e,g,by omega,ZW U S C,A.snoc o p O om,by rw [abm,B];rfl,by rw [abm,L];rfl,s,r,rfl,Z.sub kr,b.pk [2,3,4,5,6]⟩
 have hie:i=n.groups%6:=by omega
 have hgs:gs=n.gs:=by unfold bZ.gs;rw [←hie,U]
 refine (JF∘JX∘JG∘JP∘eF xX O1∘JV xX qJ) λZ6=>(mZ∘Jj∘JZ) λa Z b=>?_
 exact iy rfl Z (.cellS (i:=3) Z b rfl rfl xX rfl) (zao hgs B (b.own (i:=2) rfl) V b.below)
theorem abe {l:List α}:l.take (min m (abk l))=l.take m:=by
 rcases Nat.le_total m (abk l) with h|h
 ·rw [ado h]
 ·rw [Nat.min_eq_right h,adn,abI h]
theorem Z7 (l:List iM) (most:Nat):abk (zt l most)=abk (l.take most):=abv ..
def q5o {e:TypeId} {q a:List bC} (h:q=a) (b:abk q=n) (d:W.ownsRow w.heap.size e 8 (.slice A n c) n (q.flatMap qU)) (hc:n≤c) (hb:Below w.heap.size w W):Cr w e 8 (abk a) (a.flatMap qU) (.returned (.slice A n c)) W:=by
 subst h
 subst b
 exact ⟨⟨A,c,rfl,d,hc⟩,hb⟩
def q0a (A:Option Addr) (c:Nat) (l:List iM) (most:Nat) (w:World) (Y:∀x∈l,x.Ok) (hr:Rd w w.heap.size 8 A (abk l) (l.flatMap yJ)) (hc:abk l≤c) (hn:abk l≤9223372036854775807) (hm:most≤1000):
    Calls abl 101 #[abg A l c,vI most] w (Cr w 214 8 (abk (zt l most)) ((zt l most).flatMap qU)):=by
 have J:abk (l.take most)≤most∧abk (l.take most)≤abk l:=by rw [abu];omega
 have r:Rd w w.heap.size 8 A (abk (l.take most)) ((l.take most).flatMap yJ):=by have h:=hr.upto (k:=abk (l.take most)) om;rw [OO yJ 8 Rq,abu,abe] at h;rw [abu];exact h
 have C:∀x∈l.take most,x.Ok:=λx B=>Y x (ach B)
 obtain ⟨e,p⟩:∃z,l.take most=z:=⟨_,rfl⟩
 rw [p] at r J C
 refine (iX Tryz.func101 79) ?_
 refine (JP∘Jp 1∘Jr∘Jp 1∘Jq∘JC (h:=by exact λb=>b.nil 214 8)∘JG∘JQ∘JP∘Jp 2∘Jl∘Jp 1∘Jy (v:=vI (if (most:Int)<(abk l:Int) then (most:Int) else (abk l:Int))) (h:=by exact Yl.min rfl rfl rfl)∘Jo (vI (abk e)) (by rw [←p];exact zan l most)∘Jy (h:=by exact aaf zjq (j:=abk e) rfl rfl rfl om)∘Jl∘Jp 1∘Jj∘JB) λa Z b=>?_
 refine qg (λR aS wS=>∃(k:Nat) (q:List bC) (X:Option Addr) (I:Nat),(k≤abk e)∧(q=(e.take k).map iM.op)∧(k≤I)∧R=abk e-k∧Fr aS 79 [] [(16,vI k),(15,vI (abk e)),(14,abg A e c),(5,.slice X k I),(4,vN)]∧Mem w wS [.row (.slice X k I) k (q.flatMap qU) 214 8]) (m:=abk e-0) ⟨0,[],none,0,abx _,rfl,abo _,rfl,Z.sub kr,b.pk [0]⟩ ?_
 clear Z b;rintro R a w_ ⟨k,q,X,I,hk,K,L,rfl,Z,b⟩
 refine Jb Z b ((JP∘Jp 1∘Jj∘JQ) (Ji (λD=>?_) λD=>?_))
 ·
  have s:k<abk e:=by omega
  obtain ⟨x,B⟩:∃z,e.getD k iM.zero=z:=⟨_,rfl⟩
  have d:x.Ok:=by rw [←B];exact C _ (qe iM.zero s)
  have hx1:=d.kind;have hx2:=d.cpu;have hx3:=d.task;have hx4:=d.group;have hx5:=d.to;have hx6:=d.weight;have hx7:=d.ticks;have hx8:=d.mask
  have hp1:1≤2^ (1+x.to%4):=Nat.one_le_two_pow
  have M:=Z5 (show 1+x.to%4≤4 by omega)
  have N:=Z5 (show x.cpu%4≤4 by omega)
  refine (JT∘aD∘JQ∘JB∘JP) ?_
  obtain ⟨gA,oA,rfl,_⟩:=r.sat k
  refine (gZ k 8∘oQ iM.cells Rq r Z4 k iM.zero∘Jo (.agg x.cells) (by rw [B])∘JA #[vB 0,vB 0,vB 0,vB 0,vB 0,.int .u16 0,vW 0,vB 0]) λw7 S=>(JV Z4 aU (h1:=by exact zga x)) λT=>(bG∘Jr∘Jg 1 O0∘Jw .i64∘Jp 1∘Jo (vI (x.cpu%4:Nat)) (by exact q9 .i64 _ 4)∘Jg 2 O0∘Jw .i64∘Jp 1∘Jo (vI (x.task%12:Nat)) (by exact q9 .i64 _ 12)∘Jp 1∘Jo (vI (1+(x.task%12):Nat)) (by exact q8 om om)∘Jg 3 O0∘Jw .i64∘Jp 1∘Jo (vI (x.group%6:Nat)) (by exact q9 .i64 _ 6)∘Jg 4 O0∘Jw .i64∘Jp 1∘Jo (vI (x.to%4:Nat)) (by exact q9 .i64 _ 4)∘Jg 5 O0∘Jw .i64∘Jp 1∘Jo (vI (1+x.weight:Nat)) (by exact q8 om om)∘Jg 6 O0∘Jp 1∘Jo (vW (x.ticks%16777216:Nat)) (by exact q9 .u32 _ 16777216)∘Jw .i64∘Jp 1∘Jo (vI (1+(x.ticks%16777216):Nat)) (by exact q8 om om)∘Jg 7 O0∘Jw .u64∘eH #[vB 0,vI (x.cpu%4:Nat),vI (1+(x.task%12):Nat),vI (x.group%6:Nat),vI (1+x.weight:Nat),vI (x.to%4:Nat),vI (1+(x.ticks%16777216):Nat),vQ x.mask]∘JA #[vB 0,vI 0,vI 0,vI 0,vI 0,vI 0,vI 0,vQ 0]) λw8 U=>(JV mD aU) λO=>(aF∘Jj∘JQ∘JP∘Jg 7 O1∘Jp 1∘Jo (vB (x.mask%4:Nat)) (by exact q9 .u8 _ 4)∘Jp 1∘bG∘Jj) (Ji (λE=>?_) λE=>?_)
  ·
   have t:x.Ac=(1*2^ (1+x.to%4)-1)|||1*2^ (x.cpu%4):=by unfold iM.Ac;rw [if_pos om]
   refine (JT∘JP∘Jg 5 O0∘Jp 1∘Jo (vI (1+(x.to%4):Nat)) (by exact q8 om om)∘Jy (v:=vQ (1*2^ (1+(x.to%4)):Nat)) (h:=by exact aay (m:=1) (n:=(1+(x.to%4))) rfl rfl rfl (by show _≤64;omega) (M))∘xQ 1∘Jf 7∘JW aU xP) λV=>(qK∘Jj∘Vs .n [7]) λLM=>(Vf 0 7∘Vf 2 1∘Vc 1 O0∘Vc 3 O0∘Vy 4 (v:=vQ (1*2^ (x.cpu%4):Nat)) (h:=by exact aay (m:=1) (n:=(x.cpu%4)) rfl rfl rfl (by show _≤64;omega) (N))∘Vp [5]∘Vo (vQ ((1*2^ (1+(x.to%4))-1)|||(1*2^ (x.cpu%4)):Nat)) (by exact Vi (m:=1*2^ (1+(x.to%4))-1) (n:=1*2^ (x.cpu%4)) om om)∘Vf 6 7) λa Z b HS=>?_
   refine s_on Z 7 rfl (fJ Z b 0 λW b=>?_)
   refine dM kr ?_
   refine qd kr ?_
   refine Jb Z b ((JG∘JP∘Jy (v:= .agg #[vB 1,vB 1,vB 1,vB 2,vB 2,vB 3,vB 3,vB 4,vB 5,vB 5,vB 5,vB 5,vB 6,vB 6,vB 6,vB 6,vB 7,vB 8,vB 9,vB 10]) (h:=by exact aaq (n:=20) (sz:=1) (vs:=[(0,vB 1),(1,vB 1),(2,vB 1),(3,vB 2),(4,vB 2),(5,vB 3),(6,vB 3),(7,vB 4),(8,vB 5),(9,vB 5),(10,vB 5),(11,vB 5),(12,vB 6),(13,vB 6),(14,vB 6),(15,vB 6),(16,vB 7),(17,vB 8),(18,vB 9),(19,vB 10)]) rfl rfl kr kr)∘Jg 0 O1∘Jp 1∘Jo (vB (x.kind%20:Nat)) (by exact q9 .u8 _ 20)∘Jy (v:=vB (jA.getD (x.kind%20) 0)) (h:=by exact Yl.ZQ (m:=20) (y:=x.kind%20) rfl rfl rfl kr om (ZY om))∘Jf 0∘JW aU aU) λF=>(iA∘Jj∘JR∘Jp 1∘Jy (v:= .agg #[vB (jA.getD (x.kind%20) 0),vI (x.cpu%4:Nat),vI (1+(x.task%12):Nat),vI (x.group%6:Nat),vI (1+x.weight:Nat),vI (x.to%4:Nat),vI (1+(x.ticks%16777216):Nat),vQ ((1*2^ (1+(x.to%4))-1)|||(1*2^ (x.cpu%4)):Nat)]) (h:=by exact Pe rfl rfl mD rfl (λ_ h=>qi (h.blk (i:=0) rfl)))∘Jo (.agg x.op.cells) (by unfold bC.cells iM.op;rw [t];try rfl)∘JU rG x.op.cells) λP u=>(JD ([x.op].flatMap qU) 3 (λ_ _=>qJ) rG (hr:=by exact λb=>b.aW (i:=0) (n:=1) (size:=8) rfl rfl) (h1:=by exact ZX _)) λQ f g o=>(Jp 1∘aF∘Jq∘JC (h:=by exact λb=>b.bM (i:=3) (ys:=(q++[x.op]).flatMap qU) rfl (by rw [abO]))∘JC (h:=by exact λb=>(show Mem w _ [.blk u x.op.cells 214,.blk U #[vB (jA.getD (x.kind%20) 0),vI (x.cpu%4:Nat),vI (1+(x.task%12):Nat),vI (x.group%6:Nat),vI (1+x.weight:Nat),vI (x.to%4:Nat),vI (1+(x.ticks%16777216):Nat),vQ ((1*2^ (1+(x.to%4))-1)|||(1*2^ (x.cpu%4)):Nat)] 214,.blk S x.cells 275,.row (.slice f (k+1) g) (k+1) ((q++[x.op]).flatMap qU) 214 8] from b))∘JG∘JR∘cK 1∘Jp 1∘aK∘Jq) λa Z b=>?_)
   exact ⟨_,om,k+1,(q++[x.op]),f,g,by omega,by rw [K,xV iM.zero s,B,abP];rfl,o,rfl,Z.sub kr,b.pk [3]⟩
  have t:x.Ac=x.mask:=by unfold iM.Ac;rw [if_neg om]
  refine (JF∘aD∘JP∘Jy (v:= .agg #[vB 1,vB 1,vB 1,vB 2,vB 2,vB 3,vB 3,vB 4,vB 5,vB 5,vB 5,vB 5,vB 6,vB 6,vB 6,vB 6,vB 7,vB 8,vB 9,vB 10]) (h:=by exact aaq (n:=20) (sz:=1) (vs:=[(0,vB 1),(1,vB 1),(2,vB 1),(3,vB 2),(4,vB 2),(5,vB 3),(6,vB 3),(7,vB 4),(8,vB 5),(9,vB 5),(10,vB 5),(11,vB 5),(12,vB 6),(13,vB 6),(14,vB 6),(15,vB 6),(16,vB 7),(17,vB 8),(18,vB 9),(19,vB 10)]) rfl rfl kr kr)∘Jg 0 O1∘Jp 1∘Jo (vB (x.kind%20:Nat)) (by exact q9 .u8 _ 20)∘Jy (v:=vB (jA.getD (x.kind%20) 0)) (h:=by exact Yl.ZQ (m:=20) (y:=x.kind%20) rfl rfl rfl kr om (ZY om))∘Jf 0∘JW aU aU) λF=>(qK∘Jj∘JR∘Jp 1∘eF mD O0∘Jo (.agg x.op.cells) (by unfold bC.cells iM.op;rw [t];try rfl)∘JU rG x.op.cells) λP u=>(JD ([x.op].flatMap qU) 3 (λ_ _=>qJ) rG (hr:=by exact λb=>b.aW (i:=0) (n:=1) (size:=8) rfl rfl) (h1:=by exact ZX _)) λQ f g o=>(Jp 1∘gG∘Jq∘JC (h:=by exact λb=>b.bM (i:=3) (ys:=(q++[x.op]).flatMap qU) rfl (by rw [abO]))∘JC (h:=by exact λb=>(show Mem w _ [.blk u x.op.cells 214,.blk U #[vB (jA.getD (x.kind%20) 0),vI (x.cpu%4:Nat),vI (1+(x.task%12):Nat),vI (x.group%6:Nat),vI (1+x.weight:Nat),vI (x.to%4:Nat),vI (1+(x.ticks%16777216):Nat),vQ x.mask] 214,.blk S x.cells 275,.row (.slice f (k+1) g) (k+1) ((q++[x.op]).flatMap qU) 214 8] from b))∘JG∘JR∘cK 1∘Jp 1∘aK∘Jq) λa Z b=>?_
  exact ⟨_,om,k+1,(q++[x.op]),f,g,by omega,by rw [K,xV iM.zero s,B,abP];rfl,o,rfl,Z.sub kr,b.pk [3]⟩
 have G:k=abk e:=by omega
 have H:q=zt l most:=by rw [K,G,adn,←p];rfl
 exact (JF∘JX∘JG∘JP∘Jp 2∘aK∘Jj∘JZ∘aZ) λb=>q5o H (by rw [H,Z7,p,←G]) (b.own (i:=0) rfl) L b.below
theorem zap (b:o.Ok) (h:GoodS s):GoodS (rE s o).1:=by
 by_cases a:(bY s o).2.2=0
 ·rw [Rp a];exact (Qx b h a).rise
 ·rw [Ro a];exact h
theorem zaq (a:o.Ok) (h:GoodS s) (hr:kD s=true):kD (rE s o).1=true:=by grind [Ro,Rp,qzr,bY,Qx]
def zar {cp:Int} {gs:List Gr} (h1:1≤cp∧cp≤64) (h2:cr≤1099511627776) (h3:bV gs=true) (h4:∀g∈gs,g.Ok):GoodS (newS cp cr gs)∧kD (newS cp cr gs)=true:=by
 obtain ⟨c,rfl⟩:∃c:Nat,cp=(c:Int):=⟨cp.toNat,by omega⟩
 have m:∀g,g<abk gs→(newS (c:Int) cr gs).sp.getD g []=abB c Sp.zero:=λg a=>by
  show (abB (abk gs) (abB ((c:Int)).toNat Sp.zero)).getD g []=_
  rw [abn,afu,if_pos a]
  rfl
 have k:∀g o,(newS (c:Int) cr gs).spot g o=Sp.zero:=λg o=>by
  unfold aY.spot
  rcases acj g (abk gs) with a|a
  ·rw [m g a,abn,afu]
   split<;>rfl
  ·rw [show (newS (c:Int) cr gs).sp.getD g []=[] by
    show (abB (abk gs) _).getD g []=_
    rw [abn,adg (by rw [ab4];exact a)];rfl]
   rfl
 have hz:(Sp.zero).Ok:=⟨by decide,by decide,by decide⟩
 have e:(newS (c:Int) cr gs).sp.length=abk gs:=ab4 ..
 have b:GoodS (newS (c:Int) cr gs):=by
  refine ⟨⟨⟨by show aQ (c:Int);unfold aQ;omega,by show cr<_;omega,h4,λx f=>?_,λx f=>?_,λx f=>(by cases f),λl s x f=>?_⟩,h1,h2,h3,?_,?_,e,λo p=>?_,λg a=>?_,λg o a _=>?_,λi j _ u=>absurd u (Nat.not_lt_zero _),λt ht=>(by cases ht)⟩,λd q=>?_⟩
  ·rw [acU f];unfold aQ;decide
  ·rw [acU f];unfold aQ;decide
  ·rw [acU s] at f
   rw [acU f];exact hz
  ·show (abk (abB ((c:Int)).toNat (0:Int)):Int)=(c:Int);rw [ab4];rfl
  ·show (abk (abB ((c:Int)).toNat (0:Int)):Int)=(c:Int);rw [ab4];rfl
  ·have:(newS (c:Int) cr gs).cl.getD o 0=0:=acU (qe 0 p)
   rw [this];decide
  ·rw [e] at a;rw [m g a,ab4];rfl
  ·rw [k]
   rw [e] at a
   unfold dK
   have r:=o8 h3 a
   rw [abC]
   refine ⟨?_,by simp [Sp.zero]⟩
   unfold bL
   rw [decide_eq_true_eq]
   exact ⟨r.1,r.2,by show ((0:Nat):Int)<_;have:=r.1;show (0:Int)<(gs.getD g Gr.zero).weight;omega,.inr rfl⟩
  ·exact .inl (acU (qe 0 q))
 refine ⟨b,?_⟩
 unfold kD
 rw [(LB b.sh.ok).2 b.sh,acF]
 refine uL λd q=>?_
 rw [(LC b.sh.sort).2 b.cur d q,acF]
 refine uL λg a=>?_
 have hm:aO (newS (c:Int) cr gs) g d=[]:=by
  have key:∀n g,abk gs-g≤n→aO (newS (c:Int) cr gs) g d=[]:=by
   intro n
   induction n with
   |zero=>
    intro g a
    rw [K3,e,List.drop_of_length_le (by rw [List.length_range];omega)]
    rfl
   |succ n v=>
    intro g a
    rw [K3,show (newS (c:Int) cr gs).ts=[] from rfl]
    rw [List.filterMap_nil,List.nil_append,List.filterMap_eq_nil_iff]
    intro h w
    obtain ⟨i,hi,rfl⟩:=acz w
    rw [List.getElem_drop,List.getElem_range]
    unfold kS
    rw [if_neg]
    rintro ⟨_,h5⟩
    exact absurd (v (g+1+i) om) (by simpa using h5)
  exact key _ g (abo _)
 unfold kF
 rw [decide_eq_true_eq]
 exact .inl hm
def zgb {cp:Int} {gc:Nat} {gs:List Gr} (h:(⟨cp,cr,gA,gc,gs,none,0,[],none,0,[],none,0,[],none,0,[]⟩:aC).av.Ok∧abk gs≤1000000∧fF (⟨cp,cr,gA,gc,gs,none,0,[],none,0,[],none,0,[],none,0,[]⟩:aC).av=true) (hr:Rd w w.heap.size 2 gA (abk gs) (gs.flatMap eZ)):Calls abl 99 #[.agg #[vI cp,vQ cr,.slice gA (abk gs) gc]] w (ZO w (newS cp cr gs)):=
 (zf8 cp cr gA gc gs w h.1 h.2.1 hr).mono λr a k=>by unfold nP at k;rwa [if_pos h.2.2] at k
def zgc {cp:Int} {gc:Nat} {gs:List Gr} (h1:1≤cp∧cp≤64) (h2:cr≤1099511627776) (h3:bV gs=true) (h4:∀g∈gs,g.Ok):(⟨cp,cr,gA,gc,gs,none,0,[],none,0,[],none,0,[],none,0,[]⟩:aC).av.Ok∧abk gs≤1000000∧fF (⟨cp,cr,gA,gc,gs,none,0,[],none,0,[],none,0,[],none,0,[]⟩:aC).av=true:=by
 have h5:=(qp h3).2.1
 refine ⟨⟨by show aQ cp;unfold aQ;omega,by show cr<_;omega,h4,λx a=>(by cases a),λx a=>(by cases a),λx a=>(by cases a),λl b=>(by cases b)⟩,by omega,?_⟩
 unfold fF
 rw [abC,decide_eq_true_eq]
 exact ⟨⟨h1.1,h1.2,h2⟩,h3⟩
section
variable {W w:World} {F T:List Fact} {x:aC} {gm:Nat}
def Rt (n:Nat) (b:Mem W w F) (c:F.drop n=mE gm x++T) (a:GoodS x.av) {o:bC} (d:o.Ok):Calls abl 102 #[vP gm 0,.agg o.cells] w (j5 W gm (F.take n++T) (rE x.av o)):=
 zaj W w x gm _ _ _ _ _ (LD a.sh) a o d _ (b.front n c)
def zgd (n:Nat) (a:Mem W w F) (b:F.drop n=mE gm x++T) (c:GoodS x.av):Calls abl 103 #[vP gm 0] w (ZN w x):=
 q5i x gm w (LD c.sh).few (a.GX n b) (a.Ct n b)
end
section
variable {W w w':World} {F T A B G:List Fact} {x y:aC} {gm:Nat} {s:aY}
theorem Mem.mo (n:Nat) (h:Mem W w F) (a:F.drop n=A++T):Mem W w (F.take n++T):=by
 have h2:Mem W w (F.take n++(A++T)):=by rw [←a,ab5];exact h
 exact h2.lS (ag0 (agK _) (List.sublist_append_right ..))
theorem Mem.vG (n:Nat) (h:Mem W w F) (k:Mem w w' G) (a:F.drop n=T):Mem W w' (F.take n++(G++T)):=by
 have h2:=h.pE k
 rw [←ab5 n F,a,abz] at h2
 exact h2.perm (List.Perm.append_left _ List.perm_append_comm)
theorem Ru (n:Nat) (a:Mem W w F) (b:F.drop n=mE gm x++T) (hs:x.av=s) (c:GoodS s) {o:bC} (d:o.Ok):Calls abl 102 #[.pointer (some ⟨gm,0,none⟩),.agg o.cells] w (j5 W gm (F.take n++T) (rE s o)):=by
 subst hs
 exact Rt n a b c d
def GZ (w:World) (s:aY) (r:Ending) (w':World):Prop:=∃y:aC,r= .returned (.tuple #[.agg y.cells,.int .i64 0])∧y.av=s∧fq y∧Mem w w' (iU y)
def zge (n:Nat) (a:Mem W w F) (b:F.drop n=mE gm x++T) (hs:x.av=s) (c:GoodS s):Calls abl 103 #[.pointer (some ⟨gm,0,none⟩)] w (GZ w s):=by
 subst hs
 exact (zgd n a b c).mono λr w' ⟨y,h1,h2,h3,h4⟩=>⟨y,h1,Lg h2,h3,h4⟩
end
def bZ.new (n:bZ):aY:=newS (n.cp:Int) n.aj n.gs
theorem Ae {gs:List Gr} (h:bV gs=true):∀g∈gs,g.Ok:=λx b=>by
 obtain ⟨g,a,rfl⟩:=qbv Gr.zero b
 have c:=o8 h a
 have d:=(qp h).2.1
 refine ⟨?_,by unfold aQ;omega⟩
 rcases acn g with rfl|h0
 ·rw [(qp h).2.2.1];unfold aQ;decide
 ·have:=KY ((qp h).2.2.2 g a) h0
  unfold dS at this
  unfold aQ;omega
theorem bZ.good {n:bZ} (h:n.Ok):GoodS n.new∧kD n.new=true:=by
 have h1:=bZ.right h
 have h2:=h.aj
 exact zar (by unfold bZ.cp;omega) om h1.1 (Ae h1.1)
theorem bZ.cfg {n:bZ} {gc:Nat} (h:n.Ok):(⟨(n.cp:Int),n.aj,gA,gc,n.gs,none,0,[],none,0,[],none,0,[],none,0,[]⟩:aC).av.Ok∧abk n.gs≤1000000∧fF (⟨(n.cp:Int),n.aj,gA,gc,n.gs,none,0,[],none,0,[],none,0,[],none,0,[]⟩:aC).av=true:=by
 have h1:=bZ.right h
 have h2:=h.aj
 exact zgc (by unfold bZ.cp;omega) om h1.1 (Ae h1.1)
def q5p (l:List iM) (most:Nat):abk (zt l most)≤most:=by
 rw [Z7,abu]
 omega
def q5q {n:bZ} (h:n.Ok):n.cells.size=13:=by
 unfold bZ.cells
 rw [List.size_toArray]
 simp [h.pl,h.wl]
def eP (m:Int) (l:List Tk):Prop:=∀t∈l,t.id≤m
section
variable {s:aY} {o:bC} {m:Int} {l:List Tk} {t':Tk} {i:Nat}
theorem Ej (h:eP m l) (ht:t'.id=(l.getD i Tk.zero).id):eP m (l.set i t'):=λt hm=>by
 rcases acj i (abk l) with h1|h1
 ·rcases List.mem_or_eq_of_mem_set hm with h2|rfl
  ·exact h t h2
  ·rw [ht];exact h _ (qe Tk.zero h1)
 ·rw [List.set_eq_of_length_le h1] at hm
  exact h t hm
def qxr (h:eP m s.ts) (to:Int):eP m (je s i to).ts:=by
 unfold je
 dsimp only
 split
 ·rw [(qc3 _ _ _).ts];exact Ej h rfl
 ·exact Ej h rfl
theorem qsb (h:eP m s.ts):eP m (rD s o).1.ts:=by grind [eP,Tk.zero,fidx,Ej,rD,List.eraseIdx,List.mem_of_mem_eraseIdx]
def zbr (a:o.task≤m) (h:eP m s.ts):eP m (bY s o).1.ts:=by
 unfold bY
 split
 ·unfold xY
  repeat' split
  all_goals first|exact h|skip
  show eP m (gD _ _ _).ts
  rw [(qc3 _ _ _).ts]
  intro t ht
  rcases abV.1 ht with h1|h1
  ·exact h t ((List.takeWhile_sublist _).subset h1)
  ·rcases abQ.1 h1 with rfl|h2
   ·exact a
   ·exact h t ((List.dropWhile_sublist _).subset h2)
 ·unfold xZ
  repeat' split
  all_goals first|exact h|skip
  show eP m (gD _ _ _).ts
  rw [(qc3 _ _ _).ts]
  exact Ej h rfl
 ·exact qsb h
 ·exact qsb h
 ·unfold jv
  repeat' split
  all_goals first|exact h|skip
  show eP m (o9 _ _ _ _ _).ts
  rw [(Qo _ _ _ _ _).ts]
  exact Ej h rfl
 ·unfold kG
  split<;>exact h
 ·unfold yg
  repeat' split
  all_goals first|exact h|exact Ej h rfl
 ·unfold yh
  repeat' split
  all_goals exact h
 ·unfold yj
  repeat' split
  all_goals first|exact h|exact qxr h _
 ·unfold uU
  repeat' split
  all_goals first|exact h|exact qxr h _
 ·exact h
theorem zkg (a:o.task≤m) (h:eP m s.ts):eP m (rE s o).1.ts:=by
 unfold rE
 split
 ·exact h
 ·exact zbr a h
end
def qu4 {l:List iM}:∀o∈zt l most,o.task≤12:=λo a=>by
 obtain ⟨x,b,rfl⟩:=acd.1 a
 show ((1+x.task%12:Nat):Int)≤12
 omega
structure dQ (a:cO):Prop where
 nL:bJ a=0
 ok:a.st.av.Ok
 few:bP a.st
 cap:fq a.st
def zhc {q:aC} {nx:Int} (c:q.av=s) (d:GoodS s) (e:kD s=true) (f:1≤nx∧nx≤281474976710657) (hc:fq q):dQ ⟨nx,q⟩:=by
 subst c
 have h:=LD d.sh
 exact ⟨Yp (by show ¬(nx<1∨281474976710657<nx);omega) e,h.ok,h.few,hc⟩
def zdu (w:World) (x:Int) (r:Ending) (c:World):Prop:=∃a:cO,r= .returned (.tuple #[.agg a.cells,.bool true])∧dQ a∧GoodS a.st.av∧eP 12 a.st.ts∧(0≤x∧x<281474976710657→a.next=1+x)∧Mem w c (iU a.st)
def zhd {q:aC} {nx x:Int} (c:q.av=s) (d:GoodS s) (e:kD s=true) (f:eP 12 s.ts) (g:1≤nx∧nx≤281474976710657) (hc:fq q) (h:0≤x∧x<281474976710657→nx=1+x) (hm:Mem w W (iU q)):zdu w x (.returned (.tuple #[.agg (cO.cells ⟨nx,q⟩),.bool true])) W:=
 ⟨⟨nx,q⟩,rfl,zhc c d e g hc,by subst c;exact d,by subst c;exact f,h,hm⟩
section
variable {a b:cO} {w:World} {B:Nat}
theorem dQ.sh (h:dQ a):GoodS a.st.av:=Qr h.ok (xg h.nL).2
theorem zhe:∀l:List Nat,abk l≤abk (l.flatMap au):=by intro x;induction x<;>grind [Fh]
theorem dQ.len (h:dQ a):15≤abk (bA (dA a))∧abk (bA (dA a))≤6000007:=by
 refine ⟨?_,P7 (BP h.nL)⟩
 have S:=h.sh.sh
 have h1:1≤a.st.ak:=S.ak.1
 have h2:(abk a.st.cl:Int)=a.st.ak:=S.cl
 have h3:(abk a.st.cu:Int)=a.st.ak:=S.cu
 have h4:1≤abk a.st.gs:=(qp S.gs).1
 have h5:abk a.st.rs=abk a.st.gs:=by rw [←uX];exact S.sp
 have h6:((a.st.rs.getD 0 Rw.zero).l.length:Int)=a.st.ak:=by rw [←yt (show 0<abk a.st.rs by omega)];exact S.rows 0 (by show 0<abk (jf a.st);rw [uX];omega)
 have h7:1≤abk (aG a 6):=by
  show 1≤abk (dW (abk a.st.rs) _)
  refine acS ?_ (PZ (i:=1) om)
  rw [q5,BH]
  show 1≤abk (nA 0 (a.st.rs.getD 0 Rw.zero).l)
  unfold nA
  refine acS ?_ (PZ (i:=1) om)
  rw [q5,BH,La de]
  exact abo _
 have h8:=zhe (dX a)
 have h9:8≤abk (dX a):=by
  rw [DC]
  simp only [abm]
  have c:abk (aG a 0)=1:=rfl
  have e1:abk (aG a 1)=3:=rfl
  have e3:abk (aG a 3)=abk a.st.cl:=abv ..
  have e4:abk (aG a 4)=abk a.st.cu:=abv ..
  have e5:1≤abk (aG a 5):=by show 1≤abk (_::_:List Nat);rw [abX];omega
  omega
 rw [uq,Le]
 omega
theorem q62 {m:List Nat} (h:bA l=bA m):l=m:=by grind [NY,bA,List.append_inj']
theorem dQ.nums (c:dQ a) (hb:dQ b):dX a=dX b↔eU a b:=⟨λh=>zbq c.nL hb.nL c.ok hb.ok h,λh=>by
 have h1:=q9p h
 rwa [zZ c.nL,zZ hb.nL,eq_comm] at h1⟩
theorem zbs (h:dX a=dX b):dA a=dA b:=by unfold dA;rw [h]
theorem dQ.out (c:dQ a) (hb:dQ b):bA (dA a)=bA (dA b)↔eU a b:=by
 rw [←c.nums hb]
 refine ⟨λh=>?_,λh=>by rw [zbs h]⟩
 have h1:=q62 h
 unfold dA at h1
 exact qsa (Ld c.ok c.few) (Ld hb.ok hb.few) (aft h1)
end
theorem I5 (x:Int): -281474976710657<afe x 281474976710657∧afe x 281474976710657<281474976710657:=⟨Int.lt_tmod_of_pos x de,Int.tmod_lt_of_pos x de⟩
def zkm (w:World) (x:Int) (r:Ending) (a:World):Prop:=(∃z:Int,r= .returned (vI z)∧0≤z∧z<281474976710657∧(0≤x∧x<281474976710657→z=x))∧Below w.heap.size w a
def zhn {n:bZ}:eP 12 n.new.ts:=λt ht=>by cases ht
def q0r (x:Int) (c:aQ x) (w:World):
    Calls abl 39 #[vI x,vI 281474976710657] w (zkm w x):=by
 unfold aQ at c
 have d:=I5 x
 refine (iX Tryz.func39 16) ?_
 refine (JP∘Jp 1∘Jj∘JQ∘JP∘Jv 2 [(6,.bool false)]∘Jj∘JF∘aD∘JP∘Jp 4∘dU∘Jj∘JQ∘JP∘Jp 2∘aK∘Jj) (Ji (λa=>?_) λa=>?_)
 ·
  exact (JT∘JR∘Jp 3∘Jo (vI ((afe x 281474976710657)+281474976710657)) (by exact oH ⟨by omega,by omega⟩)∘Jp 1∘dU∘Jr∘Jp 2∘aK∘Jj∘JZ∘aZ) λb=>by exact ⟨⟨_,rfl,by have:=I5 x;omega,by have:=I5 x;omega,λh=>by have:=ags h.1 h.2;omega⟩,b.below⟩
 exact (JF∘aD∘JP∘Jp 2∘aK∘Jj∘JZ∘aZ) λb=>by exact ⟨⟨_,rfl,by have:=I5 x;omega,by have:=I5 x;omega,λh=>by have:=ags h.1 h.2;omega⟩,b.below⟩
theorem q0s (n:bZ) (q:n.Ok) (A:Option Addr) (E:Nat) (l:List iM) (U:∀x∈l,x.Ok) (hc:abk l≤E) (F:abk l≤9223372036854775807) (nx:Int) (G:aQ nx) (w:World) (hr:Rd w w.heap.size 8 A (abk l) (l.flatMap yJ)):
    Calls abl 42 #[.agg n.cells,abg A l E,vI nx] w (zdu w nx):=by
 have hsl:=q5p l 60
 refine (wU Tryz.func42 50) ?_
 refine (JP∘JE) λw3 g3=>(JA #[vI 0,vI 0,vQ 0,vN,vN,vN,vN,vN]) λw6 r=>(Jp 1∘Jr∘eF Z0 O1 (hm:=by exact (q5q q))∘JK (h:=by exact λb=>qz9 n q _)) λH I w16 V=>(JL (h:=by exact λb=>zgb (bZ.cfg q) (b.rd (i:=0) rfl))) ?_
 rintro b _ J ⟨d,x,rfl,D,hm⟩
 refine ⟨_,rfl,_,(show Mem w J (abj H n.gs I eZ 198 2:: .blk r #[vI 0,vI 0,vQ 0,vN,vN,vN,vN,vN] 50:: .blk g3 n.cells 100::(mE d x++([]))) from b.vG 3 hm rfl),?_⟩
 refine (Jp 1∘Jx∘Jx∘Jp 2∘Jj∘JQ∘JP∘Jv 4 [(23,vP d 0),(22,.bool false)]∘Jy (v:= .bool false) (h:=by exact aaz rfl rfl rfl)∘Jp 1∘gG∘Jj∘JF∘aD∘JQ∘JP∘Jp 1∘JK (h:=by exact λb=>q0a A E l 60 _ U (b.old hr) hc F de)) λe c TP W=>(Jl∘Jp 1∘Jj∘JB) λa Z b=>?_
 refine qg (λX aS wS=>∃(k:Nat) (x:aC) (s:aY),(k≤abk (zt l 60))∧(x.av=s)∧(GoodS s)∧(kD s=true)∧(eP 12 s.ts)∧X=abk (zt l 60)-k∧Fr aS 50 [] [(30,vI k),(29,vI (abk (zt l 60):Nat)),(28,abg e (zt l 60) c),(25,.bool false),(8,vP d 0),(7,.bool false),(6,vP r 0),(2,vI nx)]∧Mem w wS (abj e (zt l 60) c qU 214 8:: .blk r #[vI 0,vI 0,vQ 0,vN,vN,vN,vN,vN] 50::(mE d x++([])))) (m:=abk (zt l 60)-0) ⟨0,x,n.new,abx _,D,(bZ.good q).1,(bZ.good q).2,zhn,rfl,Z.sub kr,b.pt 4 [0,2]⟩ ?_
 clear Z b;rintro X a w_ ⟨k,x,s,hk,D,t,Y,hD,rfl,Z,b⟩
 refine Jb Z b ((JP∘Jp 1∘Jj∘JQ) (Ji (λu=>?_) λu=>?_))
 ·
  have B:k<abk (zt l 60):=by omega
  obtain ⟨o,ho⟩:∃z,(zt l 60).getD k bC.zero=z:=⟨_,rfl⟩
  have f:=qe bC.zero B
  rw [ho] at f
  have g:o.Ok:=q5l U _ f
  have K:o.task≤12:=qu4 _ f
  refine (JT∘aD∘JQ∘JB∘JP) ?_
  repeat (first|clear Z|clear b)
  intro a Z b
  obtain ⟨C,rfl⟩:=b.rat 0 k
  refine Jb Z b ((lU k 8∘Jy (v:= .agg (((zt l 60).getD k bC.zero).cells)) (h:=by exact Pe rfl rfl mD rfl (λ_ h=>h.EK zf9 (i:=0) rfl ((getD_at bC.zero B))))∘Jo (.agg o.cells) (by rw [ho])∘JA #[vB 0,vI 0,vI 0,vI 0,vI 0,vI 0,vI 0,vQ 0]) λwW L=>(JV mD aU (h1:=by exact YF o)) λOU=>(bG∘Jj∘JR∘Jp 1∘eF mD O0∘JL (h:=by exact λb=>Ru 3 b rfl D t g)) ?_)
  rintro b _ M ⟨y,rfl,hy,N⟩
  refine ⟨_,rfl,_,(show Mem w M (.blk L o.cells 214:: .row (vS C (abk (zt l 60)) c) (abk (zt l 60)) ((zt l 60).flatMap qU) 214 8:: .blk r #[vI 0,vI 0,vQ 0,vN,vN,vN,vN,vN] 50::(mE d y++([]))) from N.back),?_⟩
  refine (oI∘Jj∘JR∘cK 1∘Jp 1∘aK∘Jq) λa Z b=>?_
  exact ⟨_,om,k+1,y,(rE s o).1,by omega,hy,zap g t,zaq g t Y,zkg K hD,rfl,Z.sub kr,b.pt 3 [1,2]⟩
 refine (JF∘JX∘JG∘JP∘Jp 1∘JL (h:=by exact λb=>zge 2 b rfl D t)) ?_
 rintro b _ O ⟨p,rfl,hp,j,hm⟩
 refine ⟨_,rfl,_,(show Mem w O (abj e (zt l 60) c qU 214 8:: .blk r #[vI 0,vI 0,vQ 0,vN,vN,vN,vN,vN] 50::(iU p++(mE d x++([])))) from b.vG (T:=(mE d x++([]))) 2 hm rfl),?_⟩
 refine (Jp 1∘Jx∘Jx∘JA #[vI 0,vQ 0,vN,vN,vN,vN,vN]) λDz g12=>(JV fU aU (h1:=by exact XM p)) λapI=>(Jp 1∘Jj) λa Z b=>?_
 refine wp_seq ?_
 refine Jb Z b ((Vs .n [7]) λqO=>(Vq [0,5,6] [(49,.bool true),(43,vI nx)]∘qL 3 fU O0) λa Z b P=>?_)
 refine s_on Z 1 rfl ?_
 refine kQ Z [vI nx,vI 281474976710657] rfl rfl (q0r nx G _) ?_
 rintro _ Ox ⟨⟨z,rfl,hz1,hz2,Q⟩,R⟩
 refine ⟨_,rfl,?_⟩
 replace b:=b.call R
 clear Z;intro a Z
 refine ay (b.pt 3 [0,1,2]) (λP=>?_)
 refine Vb Z b P ((Vp [2]∘Vo (vI (1+z)) (by exact oH ⟨by omega,by omega⟩)∘Vy 4 (v:= .agg #[vI (1+z),vI p.ak,vQ p.aj,abg p.gA p.gs p.gc,abg p.lA p.cl p.lc,abg p.uA p.cu p.uc,abg p.tA p.ts p.tc,abg p.sA p.rs p.sc]) (h:=by exact Yl.build (vs:=[(0,vI (1+z)),(1,.agg p.cells)]) rfl kr kr)) λa Z b P=>?_)
 refine s_on Z 7 rfl (cZ Z b 2 rfl rfl rfl rfl rfl zp rfl rfl (by simp [acf]) λS b=>?_)
 refine dM kr ?_
 refine ap Z (bO kr) [8] (bt 9 []) [(7,.bool true)] λa Z=>?_
 refine qd kr ?_
 refine Jb Z b ((JZ) λa Z b=>?_)
 exact eG rfl Z (.cellS (i:=2) Z b rfl rfl zp rfl) (.tmp Z rfl) (zhd (nx:=1+z) hp t Y hD ⟨by omega,by omega⟩ j (λh=>by rw [Q h]) ((b.iD 3 rfl).lS (List.sublist_append_left ..)))
section
variable {W w:World} {fs:List Fact}
end
structure IB (w:World) (q:Ev×Nat×Nat) (r:Ending) (w':World):Prop where
 ret:r= .returned (.tuple #[.agg q.1.cells,.int .i64 (q.2.1:Int),.int .i64 (q.2.2:Int)])
 below:Below w.heap.size w w'
structure MR (w:World) (q:Int×Nat) (r:Ending) (w':World):Prop where
 ret:r= .returned (.tuple #[.int .i64 q.1,.int .i64 (q.2:Int)])
 below:Below w.heap.size w w'
theorem q6u:∀(l:List Ev) (b:Bs) (e:Ev),recs b (l++[e])=recs b l++oF (match l.getLast? with|some q=>q.at|none=>b) e:=by intro x;induction x<;>grind [recs]
def xB (b:Bs) (l:List Ev) (k:Nat):List Nat:=recs b (l.take k)
structure WriteAt (b:Bs) (l:List Ev) (k:Nat) (bk:Bs):Prop where
 base:bk=AU b l k
 head:0<k→l.head?.all b.behind=true
def WriteAt.start (b:Bs) (l:List Ev):WriteAt b l 0 b:=⟨rfl,λh=>by omega⟩
section
variable {b bk:Bs} {l:List Ev} {k:Nat} {e:Ev}
theorem WriteAt.bad (h:WriteAt b l k bk) (hr:(gI l).2=0) (hb:b.right=true) (hk:l[k]?=some e) (a:mV bk e≠0):k=0:=by
 rcases acn k with h0|h0
 ·exact h0
 ·obtain ⟨c,d⟩:=aby.1 hk
  have:=UR hr hb (h.head h0) k c
  rw [d,←h.base] at this
  exact absurd this a
def abf (h:WriteAt b l k bk) (hr:(gI l).2=0) (hb:b.right=true) (hk:l[k]?=some e) (h0:k=0) (c:mV bk e≠0):zq b l=mV bk e:=by
 subst h0
 have d:bk=b:=h.base
 subst d
 obtain ⟨f,_,_⟩:=Nq l none 0 hr
 have hc:=f e (abF hk)
 have a:¬bk.behind e=true:=by
  intro h1
  unfold mV at c
  rw [if_neg (by simp [hc]),if_pos ⟨hb,h1⟩] at c
  exact c rfl
 have g:l.head?=some e:=by rw [afA];exact hk
 unfold zq mV
 rw [if_neg om,if_neg (by simp [g,a]),if_neg (by simp [hc]),if_neg (by simp [a])]
theorem WriteAt.up (h:WriteAt b l k bk) (hk:l[k]?=some e) (a:mV bk e=0):xB b l (k+1)=xB b l k++tu bk e:=by
 obtain ⟨c,d⟩:=aby.1 hk
 unfold xB tu
 rw [adX,hk,if_pos a,h.base]
 show recs b (l.take k++[e])=_
 rw [q6u]
 congr 2
 cases k with
 |zero=>simp [AU]
 |succ j=>
  rw [show (l.take (j+1)).getLast?=l[j]? from by rw [List.getLast?_take];simp [abt (show j<abk l by omega)]]
  rfl
theorem WriteAt.next (h:WriteAt b l k bk) (hk:l[k]?=some e) (a:mV bk e=0):WriteAt b l (k+1) e.at:=by
 refine ⟨by show e.at=(match l[k]? with|some e=>e.at|none=>b);rw [hk],λ_=>?_⟩
 rcases acn k with h0|h0
 ·subst h0
  have c:bk=b:=h.base
  subst c
  have d:l.head?=some e:=by rw [afA];exact hk
  rw [d]
  unfold mV at a
  split at a
  ·omega
  ·split at a
   ·rename_i h1;exact h1.2
   ·omega
 ·exact h.head h0
theorem WriteAt.done (h:WriteAt b l n bk) (hr:(gI l).2=0) (hb:b.right=true) (a:abk l=n) (g:W.ownsRow w.heap.size 5 1 (.slice A (abk (xB b l n)) c) (abk (xB b l n)) ((xB b l n).map B8)) (hc:abk (xB b l n)≤c) (i:Below w.heap.size w W):
  zf w (zq b l) (qZ b l) (.returned (.tuple #[.slice A (abk (xB b l n)) c,.int .i64 0])) W:=by
 have j:l.head?.all b.behind=true:=by
  rcases acn n with h0|h0
  ·subst h0;rw [adF.1 a];rfl
  ·exact h.head h0
 have f:zq b l=0:=by unfold zq;rw [if_neg om,if_pos ⟨hb,j⟩]
 have d:qZ b l=xB b l n:=by unfold qZ xB;rw [if_pos f,←a,adn]
 rw [f,d]
 exact ⟨⟨A,c,rfl,g,hc⟩,i⟩
end
structure gX (b:Bs) (cpu:Nat) (m:Nat) (l:List Nat) (es:List Ev) (u:Nat) (bk:Bs):Prop where
 fits:u≤abk l
 most:abk es≤u
 few:abk es≤m
 last:∀q,es.getLast?=some q→bk=q.at
 said:kY cpu m b none l=jP es u (kY cpu (m-abk es) bk es.getLast? (l.drop u))
section
variable {b bk:Bs} {cpu m u L er:Nat} {l:List Nat} {es:List Ev} {e:Ev}
def gX.start (b:Bs) (cpu m:Nat) (l:List Nat):gX b cpu m l [] 0 b:=⟨abx _,abo _,abx _,λq h=>by simp at h,(q1j cpu m b none l).symm⟩
theorem gX.bad (h:gX b cpu m l es u bk) (hm:abk es<m) (a:dx bk cpu (l.drop u)=(e,L,er)) (c:er≠0):kY cpu m b none l=([],0,er):=by
 rw [h.said,show m-abk es=(m-abk es-1)+1 by omega]
 exact q1i a c es u
def gX.same (h:gX b cpu m l es u bk) (hm:abk es<m) (a:dx bk cpu (l.drop u)=(e,L,0)) (c:es.getLast?.any (λq=>decide (e.seq=q.seq))=true):kY cpu m b none l=([],0,71):=by
 rw [h.said,show m-abk es=(m-abk es-1)+1 by omega]
 exact qx7 a c es u
theorem gX.next (h:gX b cpu m l es u bk) (hm:abk es<m) (a:dx bk cpu (l.drop u)=(e,L,0)) (c:es.getLast?.any (λq=>decide (e.seq=q.seq))=false):gX b cpu m l (es++[e]) (u+L) e.at:=by
 have h1:=q1h bk cpu (l.drop u)
 rw [a,abH] at h1
 simp only at h1
 have h2:=h1.2 trivial
 have h3:=h.fits
 have h4:=h.most
 refine ⟨by omega,by simp;omega,by simp;omega,λq a=>?_,?_⟩
 ·simp at a;rw [a]
 ·rw [h.said,show m-abk es=(m-abk es-1)+1 by omega,qx8 a c es u,ac3]
  simp [Nat.sub_sub]
theorem gX.done (h:gX b cpu m l es u bk) (hm:m≤abk es):kY cpu m b none l=(es,u,0):=by
 rw [h.said,show m-abk es=0 by omega]
 simp [kY,jP]
end
def Bk.upto (b:Bk) (n:Nat):Bk:=⟨b.kind,b.cpu,b.lost,b.next,b.evs.take n⟩
def fH {α:Type} (f:α→α) (l:List α) (k:Nat):List α:=(l.take k).map f++l.drop k
theorem Ti (f:α→α) (l:List α) (k:Nat):abk (fH f l k)=abk l:=by
 unfold fH
 rw [abm,abv,abu,abH]
 omega
theorem q0m (f:α→α) (l:List α):fH f l 0=l:=by simp [fH]
def Ef (f:α→α) (l:List α) {k:Nat} (d:α) (h:k<abk l):(fH f l k)[k]?=some (l.getD k d):=by
 unfold fH
 rw [ac9 (by rw [abv,abu];omega),abv,abu,ado om,adN,acO,abn,acL,abt h]
 rfl
theorem q0n (f:α→α) (l:List α) {k:Nat} (d:α) (h:k<abk l):(fH f l k).set k (f (l.getD k d))=fH f l (k+1):=by
 unfold fH
 have a:abk (l.take k)=k:=by rw [abu];omega
 have b:l.drop k=l.getD k d::l.drop (k+1):=by
  rw [abn,abt h]
  exact acu h
 have ht:l.take (k+1)=l.take k++[l.getD k d]:=by
  rw [List.take_succ_eq_append_getElem h,abn,abt h]
  rfl
 rw [afs,if_neg (by rw [abv];omega),abv,a,adN,b,ae2,ht,abP,abz]
 rfl
structure It where
 e:Ev
 before:Int
structure It.Ok (x:It):Prop where
 e:x.e.Ok
 before:aQ x.before
def It.cells (x:It):Array Value:= #[.int .i64 x.e.seq,.int .i64 x.e.time,.int .u8 (x.e.cpu:Int),.int .u8 (x.e.kind:Int),.int .i64 x.e.task,.int .i64 x.e.group,.int .i64 x.e.to,.int .i64 x.e.weight,.int .i64 x.e.ticks,.int .u64 (x.e.mask:Int),.int .i64 x.e.got,.int .i64 x.before]
def nX (l:List It):List Ev:=l.map It.e
def ni (l:List It):List Int:=l.map It.before
def Br:Int→List Int→Bool
 |_,[]=>true
 |r,n::t=>decide (0≤n∧n≤r)&&Br (r-n) t
def OL:Int:=281474976710656
def eY (cpu:Nat):List It→Bool
 |[]=>true
 |x::_=>decide (x.e.cpu=cpu)
def Xa (cpu:Nat) (l:List It) (a:Int):Bool:=decide ((gI (nX l)).2=0)&& (Br OL (a::ni l)&&eY cpu l)
def jk:List Int→Int
 |[]=>0
 |n::t=>n+jk t
def Xb:∀{l:List Int} {r:Int},Br r l=true→∀n∈l,0≤n∧n≤r
 |[],_,_,n,a=>by cases a
 | x :: t, r, h, n, a => by
  simp only [Br,abC,decide_eq_true_eq] at h
  rcases abQ.1 a with rfl|a
  ·exact h.1
  ·have:=Xb h.2 n a
   omega
def Xc:∀{l:List Int} {r:Int},0≤r→Br r l=true→0≤jk l∧jk l≤r
 |[],r,a,_=>⟨afd _,a⟩
 |x::t,r,a,h=>by
  simp only [Br,abC,decide_eq_true_eq] at h
  have:=Xc om h.2
  simp only [jk]
  omega
theorem Xd:∀(a b:List Int),jk (a++b)=jk a+jk b
 |[],b=>by simp [jk]
 |x::a,b=>by simp only [List.cons_append,jk,Xd a b];omega
theorem Xe:∀(l:List Ev) (p:Option Ev) (b:Bs) (k:Nat),Chain cpu p b l→∃a,Chain cpu none a (l.drop k)
 |[],_,b,k,_=>⟨b,by rw [List.drop_nil];trivial⟩
 |e::r,p,b,0,h=>⟨b,h.1,h.2.1,(λq c=>by cases c),h.2.2.2⟩
 |e::r,_,_,k+1,h=>Xe r (some e) e.at k h.2.2.2
theorem q2x (l:List It) (n:Nat):nX (l.drop n)=(nX l).drop n:=by unfold nX;rw [aeW]
theorem Xf (l:List It) (n:Nat):jk (ni l)=jk (ni (l.take n))+jk (ni (l.drop n)):=by grind [ni,Xd,aeW,afZ,ab5]
theorem qtc:∀{l:List Int},(∀n∈l,0≤n)→0≤jk l:=by intro x;induction x<;>grind [jk,ab2,acB]
structure mq (cpu:Nat) (l:List It) (opn:Int):Prop where
 c64:cpu<64
 chain:∃b,Chain cpu none b (nX l)
 ok:∀x∈l,x.Ok
 o0:0≤opn
 KQ:∀x∈l,0≤x.before
 sum:opn+jk (ni l)≤281474976710656
theorem OM {l:List It} (h:∀x∈l,0≤x.before):0≤jk (ni l):=by simp_all [ni,qtc]
theorem mq.drop {l:List It} {opn:Int} (h:mq cpu l opn) (k:Nat):mq cpu (l.drop k) opn:=by
 obtain ⟨b,c⟩:=h.chain
 have h1:=Xf l k
 have h2:=OM (l:=l.take k) (λx a=>h.KQ x (ach a))
 have h3:=h.sum
 exact ⟨h.c64,by rw [q2x];exact Xe _ _ _ k c,λx a=>h.ok x (abU a),h.o0,λx a=>h.KQ x (abU a),by omega⟩
theorem mq.of {l:List It} {opn:Int} (hc:cpu<64) (a:∀x∈l,x.Ok) (h:Xa cpu l opn=true):mq cpu l opn:=by
 unfold Xa at h
 simp only [abC,decide_eq_true_eq] at h
 obtain ⟨h1,h2,h3⟩:=h
 have b:=h2
 simp only [Br,abC,decide_eq_true_eq] at b
 have hs:=Xc (r:=OL-opn) om b.2
 have hm:OL=281474976710656:=rfl
 refine ⟨hc,?_,a,b.1.1,?_,by omega⟩
 ·cases l with
  |nil=>exact ⟨⟨0,0⟩,trivial⟩
  | cons x r =>
   have c:∀e∈nX (x::r),e.Ok:=λe i=>by
    unfold nX at i
    obtain ⟨y,d,rfl⟩:=acd.1 i
    exact (a y d).e
   have f:x.e.check=0:=Wx h1 rfl
   have g:x.e.cpu=cpu:=by simpa [eY] using h3
   refine ⟨x.e.at,Oq (nX (x::r)) none x.e.at 0 c (E5 f) ?_ (λq j=>by cases j) h1⟩
   intro y d
   have:y=x.e:=by simpa [nX] using d.symm
   subst this
   exact ⟨Wy _,g⟩
 ·intro x f
  exact (Xb b.2 x.before (ac8 f)).1
section
variable {cpu:Nat} {l:List It} {opn limit:Int}
end
def It.zero:It:=⟨Ev.zero,0⟩
def Bt:EI abl 51 85 (.agg #[.int .u8 0,.int .u8 0,.int .i64 0,.int .i64 0,.slice none 0 0]) 5 48:=⟨by kernel_rfl,by kernel_rfl,rfl,by omega⟩
theorem qly {l:List α} (d:α) (h:k<abk l):l.drop k=l.getD k d::l.drop (k+1):=by
 rw [acu h,abn,abt h]
 rfl
theorem mq.part {l:List It} {v:Int} (h:mq cpu l v) (j:Nat):0≤jk (ni (l.take j))∧jk (ni (l.take j))+v≤281474976710656:=by
 have h1:=Xf l j
 have h2:=OM (l:=l.take j) (λx a=>h.KQ x (ach a))
 have h3:=OM (l:=l.drop j) (λx a=>h.KQ x (abU a))
 have h4:=h.sum
 omega
section
open Go.ChangeShapes Go.WideShapes Go.ChangeAt
section
variable {H:Type} {enc:TypeId×Value→H} {P:Program} {W:World} {sp:Nat→Bool} {held:Bool}
def flat_get {sz:Nat}:∀(a:List (List Value)),(∀l∈a,abk l=sz)→∀p u,(a.flatMap id)[p]?=some u→∃i j,∃hi:i<abk a,j<sz∧p=i*sz+j∧a[i][j]?=some u:=by
 intro a
 induction a with
 |nil=>intro _ p u h;simp at h
 | cons l r f =>
  intro h p u b
  have c:=h l (by simp)
  rw [abL] at b
  by_cases g:p<sz
  ·rw [aeh (by simp only [id];omega)] at b
   exact ⟨0,p,by simp,g,by omega,b⟩
  ·rw [ac9 (by simp only [id];omega)] at b
   simp only [id] at b
   rw [c] at b
   obtain ⟨i,j,hi,k,m,e⟩:=f (λy n=>h y (by simp [n])) _ u b
   exact ⟨i+1,j,by simp;omega,k,by rw [ads];omega,by simpa using e⟩
theorem q2y {sz:Nat}:∀(a:List (List Value)),(∀l∈a,abk l=sz)→abk (a.flatMap id)=abk a*sz:=by
 intro a
 induction a with
 |nil=>simp
 |cons l r b=>intro h;rw [abL,abm,b (λy c=>h y (by simp [c])),abX,ads];have:=h l (by simp);simp only [id];omega
def KR (f:α→List Value) (Ok:α→Prop) {t e:TypeId} {sz:Nat} (ht:P.underlying t=some (.slice e)) (w:P.cellsOf e=sz) (h0:0<sz) (G:∀x,abk (f x)=sz)
  (L:∀m l y,adB enc P W 0 sp held m e l=some y→∃x,f x=l∧Ok x) {g:Nat} {B:List Value} {x:DataW H×List MemPlace} (h:adB enc P W 0 sp held g t B=some x):
  ∃(A:Option Addr) (c:Nat) (l:List α),B=[.slice A (abk l) c]∧abk l≤c∧c≤maxLen∧(∀x∈l,Ok x)∧Rd W W.heap.size sz A (abk l) (l.flatMap f):=by
 rcases DataW.trod_slice ht h with ⟨hc,_⟩|⟨a,len,cap,b,I,m,_,hc,_,_,O,hm,J,z,_⟩
 ·exact ⟨none,0,[],hc,abo _,by unfold maxLen;omega,by simp,Rd.nil⟩
 ·have n:∀i,i<len→∃x:α,W.cells? 0 (a.add (i*sz)) sz=some (f x)∧Ok x:=by
   intro i hi
   have h1:=z i hi
   rw [w,abt (by omega:i<abk b)] at h1
   obtain ⟨l,h2,h3⟩:=Option.bind_eq_some_iff.1 h1
   obtain ⟨x,rfl,C⟩:=L _ _ _ h3
   exact ⟨x,h2,C⟩
  have key:∀k,k≤len→∃xs:List α,abk xs=k∧∀i (hi:i<abk xs),W.cells? 0 (a.add (i*sz)) sz=some (f xs[i])∧Ok xs[i]:=by
   intro k
   induction k with
   |zero=>intro _;exact ⟨[],rfl,λi hi=>by simp at hi⟩
   | succ k M =>
    intro Q
    obtain ⟨xs,h1,h2⟩:=M om
    obtain ⟨x,h3,h4⟩:=n k om
    refine ⟨xs++[x],by simp [h1],λi hi=>?_⟩
    by_cases o:i<abk xs
    ·rw [List.getElem_append_left o];exact h2 i o
    ·obtain rfl:i=abk xs:=by simp at hi;omega
     rw [List.getElem_append_right (abo _)]
     simp only [adN,List.getElem_cons_zero,h1]
     exact ⟨h3,h4⟩
  obtain ⟨xs,h1,h2⟩:=key len (abo _)
  have q:xs.flatMap f=(xs.map f).flatMap id:=by rw [aeY];rfl
  have r:∀l∈xs.map f,abk l=sz:=λl D=>by obtain ⟨x,_,rfl⟩:=acd.1 D;exact G x
  have s:∀i (hi:i<abk xs) j,j<sz→W.cell? (a.add (i*sz+j))=(f xs[i])[j]?:=by
   intro i hi j E
   have:=(World.cells?_some (h2 i hi).1).2.2 j E
   rwa [Uv] at this
  refine ⟨some a,cap,xs,by rw [hc,h1],by omega,hm,λx C=>by obtain ⟨i,hi,rfl⟩:=acz C;exact (h2 i hi).2,⟨by rw [q,q2y _ r,abv],λN=>⟨a,rfl,?_,?_⟩⟩⟩
  ·have h3:=s 0 N 0 h0
   have h4:=G xs[0]
   rw [abt om] at h3
   have:=World.block_lt_of_cell? W _ h3
   simpa [Addr.add] using this
  ·intro p u K
   rw [q] at K
   obtain ⟨i,j,hi,E,rfl,F⟩:=flat_get _ r p u K
   rw [abv] at hi
   rw [s i hi j E,←F,afi]
end
section
variable {H:Type} {enc:TypeId×Value→H} {W:World} {b0:Nat} {v:Value} {d:DataW H} {p:List MemPlace}
end
end
section
open Go.ChangeShapes Go.WideShapes Go.ChangeAt
section
variable {H:Type} {enc:TypeId×Value→H} {P:Program} {W:World} {sp:Nat→Bool} {held:Bool}
def Rv:Value→Int
 | .int _ z=>z
 |_=>0
def Z8 {t e:TypeId} {k:aci} (ht:P.underlying t=some (.array n e)) (h:P.underlying e=some (.int k)) (hc:P.cellsOf e=1) (j:P.cellsOf t=n) {c:Nat} {L:List Value} {d:DataW H} {p:List MemPlace} (l:adB enc P W 0 sp held c t L=some (d,p)):
  ∃a:List Int,abk a=n∧L=a.map (abJ k)∧∀z∈a,(afc k z).wf=true:=by
 obtain ⟨xs,m,_,_,b,u,o⟩:=DataW.trod_array ht l
 rw [j] at b
 have f:∀i,i<n→∃z:Int,L[i]?=some (.int k z)∧(afc k z).wf=true:=λi hi=>by
  have g:=o i hi
  rw [hc,ac5,abt om] at g
  obtain ⟨z,q,_,r⟩:=adY h g
  exact ⟨z,uf q,r⟩
 refine ⟨L.map Rv,by rw [abv,b],EA (by rw [abv,abv]) λi hi=>?_,λz hz=>?_⟩
 ·rw [abv,abv] at hi
  obtain ⟨z,h1,_⟩:=f i om
  rw [aey,adb,h1]
  rfl
 ·obtain ⟨v,s,rfl⟩:=acd.1 hz
  obtain ⟨i,hi,rfl⟩:=acz s
  obtain ⟨z,h1,h2⟩:=f i om
  rw [abt hi] at h1
  injection h1 with h1
  rw [h1]
  exact h2
end
def Rx:List aci:=[.u8,.u8,.u8,.u8,.u8,.u16,.u32,.u8]
def q0b:Ez abl 275 Rx=true:=by kernel_rfl
def zas:Tryz.prog.underlying 101=some (.slice 275):=by kernel_rfl
def q0c:Tryz.prog.cellsOf 275=8:=by kernel_rfl
def q0d (w:abk B=abk Rx) (h:∀(i:Nat) (k:aci),Rx[i]?=some k→∃z:Int,B[i]?=some (abJ k z)∧(afc k z).wf=true):∃x:iM,yJ x=B∧x.Ok:=by
 obtain ⟨a,h0,b⟩:=h 0 .u8 rfl
 have b:=iC b
 obtain ⟨c,h1,e⟩:=h 1 .u8 rfl
 have e:=iC e
 obtain ⟨f,h2,g⟩:=h 2 .u8 rfl
 have g:=iC g
 obtain ⟨j,h3,l⟩:=h 3 .u8 rfl
 have l:=iC l
 obtain ⟨m,h4,n⟩:=h 4 .u8 rfl
 have n:=iC n
 obtain ⟨o,h5,q⟩:=h 5 .u16 rfl
 have q:=Ns q
 obtain ⟨r,h6,s⟩:=h 6 .u32 rfl
 have s:=tZ s
 obtain ⟨t,h7,u⟩:=h 7 .u8 rfl
 have u:=iC u
 refine ⟨⟨a.toNat,c.toNat,f.toNat,j.toNat,m.toNat,o.toNat,r.toNat,t.toNat⟩,?_,⟨by show a.toNat<_;omega,by show c.toNat<_;omega,by show f.toNat<_;omega,by show j.toNat<_;omega,by show m.toNat<_;omega,by show o.toNat<_;omega,by show r.toNat<_;omega,by show t.toNat<_;omega⟩⟩
 refine EA (by rw [w];rfl) λi hi=>?_
 have y:i<8:=by rw [w] at hi;exact hi
 have hc:i=0∨i=1∨i=2∨i=3∨i=4∨i=5∨i=6∨i=7:=by omega
 rcases hc with rfl|rfl|rfl|rfl|rfl|rfl|rfl|rfl
 ·rw [h0];show some (abJ .u8 ((a.toNat:Nat):Int))=_;rw [abM b.1]
 ·rw [h1];show some (abJ .u8 ((c.toNat:Nat):Int))=_;rw [abM e.1]
 ·rw [h2];show some (abJ .u8 ((f.toNat:Nat):Int))=_;rw [abM g.1]
 ·rw [h3];show some (abJ .u8 ((j.toNat:Nat):Int))=_;rw [abM l.1]
 ·rw [h4];show some (abJ .u8 ((m.toNat:Nat):Int))=_;rw [abM n.1]
 ·rw [h5];show some (abJ .u16 ((o.toNat:Nat):Int))=_;rw [abM q.1]
 ·rw [h6];show some (abJ .u32 ((r.toNat:Nat):Int))=_;rw [abM s.1]
 ·rw [h7];show some (abJ .u8 ((t.toNat:Nat):Int))=_;rw [abM u.1]
section
variable {H:Type} {enc:TypeId×Value→H} {W:World} {b0:Nat} {v:Value} {d:DataW H} {p:List MemPlace}
def zat {x:DataW H×List MemPlace} (a:adB enc abl W 0 (λ_=>true) true c 275 B=some x):∃e:iM,yJ e=B∧e.Ok:=by
 obtain ⟨h1,h2⟩:=Nr q0b a
 exact q0d h1 h2
def nf0:fieldAt abl 100 0 0 5=true:=by kernel_rfl
def nf1:fieldAt abl 100 1 1 5=true:=by kernel_rfl
def nf2:fieldAt abl 100 2 2 61=true:=by kernel_rfl
def nf3:fieldAt abl 100 3 3 97=true:=by kernel_rfl
def nf4:fieldAt abl 100 4 8 98=true:=by kernel_rfl
theorem Z9:Tryz.prog.cellsOf 100=13:=by kernel_rfl
def zgf:Tryz.prog.underlying 61=some (.int .u32):=by kernel_rfl
def zgg:Tryz.prog.underlying 60=some (.int .u16):=by kernel_rfl
def zjr:Tryz.prog.underlying 97=some (.array 5 5):=by kernel_rfl
def zjs:Tryz.prog.underlying 98=some (.array 5 60):=by kernel_rfl
theorem qw1:Tryz.prog.cellsOf 5=1:=by kernel_rfl
def q5r:Tryz.prog.cellsOf 60=1:=by kernel_rfl
theorem q5s:Tryz.prog.cellsOf 61=1:=by kernel_rfl
theorem qw2:Tryz.prog.cellsOf 97=5:=by kernel_rfl
theorem qw3:Tryz.prog.cellsOf 98=5:=by kernel_rfl
theorem Ry (k:aci):∀{a:List Int},(∀z∈a,0≤z)→a.map (abJ k)=(a.map ae4).map (λz:Nat=>abJ k (z:Int))
 |[],_=>rfl
 |z::r,h=>by
  rw [acY,acY,acY,Ry k (λy b=>h y (ab2 _ b)),abM (h z (acB ..))]
theorem zau {D A:List Value} {a b c:Value} (e:abk D=13) (h0:D[0]?=some a) (h1:D[1]?=some b) (h2:D[2]?=some c) (h3:(D.drop 3).take 5=A) (h4:(D.drop 8).take 5=B):D=a::b::c::(A++B):=by
 match D,e with
 |[c0,i,j,k,l,m,n,o,q,r,f,g,h],_=>
  injection h0 with h0
  injection h1 with h1
  injection h2 with h2
  rw [←h3,←h4,←h0,←h1,←h2]
  rfl
def q5t {y:DataW H×List MemPlace} (a:adB enc abl W 0 (λ_=>true) true c 100 B=some y):∃n:bZ,n.cells.toList=B∧n.Ok:=by
 obtain ⟨e,_,F,l⟩:=qy nf0 a
 obtain ⟨_,_,G,m⟩:=qy nf1 a
 obtain ⟨_,_,I,o⟩:=qy nf2 a
 obtain ⟨_,_,J,q⟩:=qy nf3 a
 obtain ⟨_,_,K,r⟩:=qy nf4 a
 rw [Z9] at e
 obtain ⟨f,g,_,s⟩:=adY C8 l
 obtain ⟨h,e1,_,t⟩:=adY C8 m
 obtain ⟨i,e2,_,u⟩:=adY zgf o
 obtain ⟨ps,w,e3,j⟩:=Z8 zjr C8 qw1 qw2 q
 obtain ⟨ws,A,e4,k⟩:=Z8 zjs zgg q5r qw3 r
 rw [qw1] at g e1
 rw [q5s] at e2
 rw [qw2] at e3
 rw [qw3] at e4
 have C:=iC s
 have D:=iC t
 have E:=tZ u
 rw [Ry _ λz hz=>(iC (j z hz)).1] at e3
 rw [Ry _ λz hz=>(Ns (k z hz)).1] at e4
 refine ⟨⟨f.toNat,h.toNat,i.toNat,ps.map ae4,ws.map ae4⟩,?_,⟨by show f.toNat<_;omega,by show h.toNat<_;omega,by show i.toNat<_;omega,by show abk (ps.map ae4)=5;rw [abv,w],by show abk (ws.map ae4)=5;rw [abv,A],λz hz=>?_,λz hz=>?_⟩⟩
 ·rw [zau e (uf g) (uf e1) (uf e2) e3 e4]
  unfold bZ.cells
  dsimp only
  rw [abM C.1,abM D.1,abM E.1]
 ·obtain ⟨x,b,rfl⟩:=acd.1 hz
  have:=iC (j x b)
  omega
 ·obtain ⟨x,b,rfl⟩:=acd.1 hz
  have:=Ns (k x b)
  omega
end
end
section
open Go.ChangeShapes Go.WideShapes Go.ChangeAt
def OX:List aci:=[.u8,.u8,.u32,.u32,.u32,.u32,.u32,.u32,.u32,.u32,.u64]
def q24:Ez abl 280 OX=true:=by kernel_rfl
def qyr:Tryz.prog.underlying 111=some (.slice 280):=by kernel_rfl
def q25 (F:abk B=abk OX) (h:∀(i:Nat) (k:aci),OX[i]?=some k→∃z:Int,B[i]?=some (abJ k z)∧(afc k z).wf=true):∃x:Sm,rC x=B∧x.Ok:=by
 obtain ⟨c,h0,e⟩:=h 0 .u8 rfl
 have e:=iC e
 obtain ⟨f,h1,g⟩:=h 1 .u8 rfl
 have g:=iC g
 obtain ⟨j,h2,l⟩:=h 2 .u32 rfl
 have l:=tZ l
 obtain ⟨m,h3,n⟩:=h 3 .u32 rfl
 have n:=tZ n
 obtain ⟨o,h4,q⟩:=h 4 .u32 rfl
 have q:=tZ q
 obtain ⟨r,h5,s⟩:=h 5 .u32 rfl
 have s:=tZ s
 obtain ⟨t,h6,u⟩:=h 6 .u32 rfl
 have u:=tZ u
 obtain ⟨w,h7,y⟩:=h 7 .u32 rfl
 have y:=tZ y
 obtain ⟨A,h8,C⟩:=h 8 .u32 rfl
 have C:=tZ C
 obtain ⟨D,h9,E⟩:=h 9 .u32 rfl
 have E:=tZ E
 obtain ⟨a,h10,b⟩:=h 10 .u64 rfl
 have b:=zih b
 refine ⟨⟨c.toNat,f.toNat,j.toNat,m.toNat,o.toNat,r.toNat,t.toNat,w.toNat,A.toNat,D.toNat,a.toNat⟩,?_,⟨by show c.toNat<_;omega,by show f.toNat<_;omega,by show j.toNat<_;omega,by show m.toNat<_;omega,by show o.toNat<_;omega,by show r.toNat<_;omega,by show t.toNat<_;omega,by show w.toNat<_;omega,by show A.toNat<_;omega,by show D.toNat<_;omega,by show a.toNat<_;omega⟩⟩
 refine EA (by rw [F];rfl) λi hi=>?_
 have G:i<11:=by rw [F] at hi;exact hi
 have hc:i=0∨i=1∨i=2∨i=3∨i=4∨i=5∨i=6∨i=7∨i=8∨i=9∨i=10:=by omega
 rcases hc with rfl|rfl|rfl|rfl|rfl|rfl|rfl|rfl|rfl|rfl|rfl
 ·rw [h0];show some (abJ .u8 ((c.toNat:Nat):Int))=_;rw [abM e.1]
 ·rw [h1];show some (abJ .u8 ((f.toNat:Nat):Int))=_;rw [abM g.1]
 ·rw [h2];show some (abJ .u32 ((j.toNat:Nat):Int))=_;rw [abM l.1]
 ·rw [h3];show some (abJ .u32 ((m.toNat:Nat):Int))=_;rw [abM n.1]
 ·rw [h4];show some (abJ .u32 ((o.toNat:Nat):Int))=_;rw [abM q.1]
 ·rw [h5];show some (abJ .u32 ((r.toNat:Nat):Int))=_;rw [abM s.1]
 ·rw [h6];show some (abJ .u32 ((t.toNat:Nat):Int))=_;rw [abM u.1]
 ·rw [h7];show some (abJ .u32 ((w.toNat:Nat):Int))=_;rw [abM y.1]
 ·rw [h8];show some (abJ .u32 ((A.toNat:Nat):Int))=_;rw [abM C.1]
 ·rw [h9];show some (abJ .u32 ((D.toNat:Nat):Int))=_;rw [abM E.1]
 ·rw [h10];show some (abJ .u64 ((a.toNat:Nat):Int))=_;rw [abM b.1]
section
variable {H:Type} {enc:TypeId×Value→H} {W:World} {b0:Nat} {v:Value} {d:DataW H} {p:List MemPlace}
def q82:Tryz.prog.cellsOf 280=11:=by kernel_rfl
def zex {x:DataW H×List MemPlace} (a:adB enc abl W 0 (λ_=>true) true c 280 B=some x):∃e:Sm,rC e=B∧e.Ok:=by
 obtain ⟨h1,h2⟩:=Nr q24 a
 exact q25 h1 h2
def q83 {x:DataW H×List MemPlace} (a:adB enc abl W 0 (λ_=>true) true m 111 B=some x):
  ∃(A:Option Addr) (c:Nat) (l:List Sm),B=[.slice A (abk l) c]∧abk l≤c∧c≤maxLen∧(∀x∈l,x.Ok)∧Rd W W.heap.size 11 A (abk l) (l.flatMap rC):=
 KR rC Sm.Ok qyr q82 de Du (λ_ _ _ h=>zex h) a
theorem Xm:Tryz.prog.cellsOf 61=1:=by kernel_rfl
theorem q26:Tryz.prog.cellsOf 111=1:=by kernel_rfl
def W32 (x:Nat):Value:= .int .u32 (x:Int)
def Xn {x:DataW H×List MemPlace} (a:adB enc abl W 0 (λ_=>true) true c 61 B=some x):∃e:Nat,[W32 e]=B∧e<4294967296:=by
 obtain ⟨z,e1,_,b⟩:=adY WE a
 have:=tZ b
 exact ⟨z.toNat,by rw [e1];show [abJ .u32 ((z.toNat:Nat):Int)]=_;rw [abM this.1],by omega⟩
theorem zey {a b c d e f:Value} (g:abk B=6) (h0:B[0]?=some a) (h1:B[1]?=some b) (h2:B[2]?=some c) (h3:B[3]?=some d) (h4:B[4]?=some e) (h5:B[5]?=some f):B=[a,b,c,d,e,f]:=by
 refine EA g λi hi=>?_
 have h:i<6:=hi
 have hc:i=0∨i=1∨i=2∨i=3∨i=4∨i=5:=by omega
 rcases hc with rfl|rfl|rfl|rfl|rfl|rfl<;>assumption
end
end
def qx:Nat→List Nat→List Bk×Nat×Nat
 |0,_=>([],0,0)
 | f + 1, l => if abk l = 0 then ([], 0, 0) else
  if (dz l).2.2≠0 then ([],0,(dz l).2.2) else
   ((dz l).1::(qx f (l.drop (dz l).2.1)).1,(dz l).2.1+(qx f (l.drop (dz l).2.1)).2.1,(qx f (l.drop (dz l).2.1)).2.2)
def Bv (l:List Nat):List Bk×Nat×Nat:=if 524288<abk l then ([],0,3) else qx (abk l) l
def qtg (h:abk l=0):qx f l=([],0,0):=by
 cases f with
 |zero=>rfl
 |succ f=>rw [qx,if_pos h]
def qth {b:Bk} (d:0<f) (h:0<abk l) (a:dz l=(b,m,er)) (c:er≠0):qx f l=([],0,er):=by
 cases f with
 |zero=>omega
 |succ f=>rw [qx,if_neg om,if_pos (by rw [a];exact c),a]
def qqp {b:Bk} (c:0<f) (h:0<abk l) (a:dz l=(b,m,0)):qx f l=(b::(qx (f-1) (l.drop m)).1,m+(qx (f-1) (l.drop m)).2.1,(qx (f-1) (l.drop m)).2.2):=by
 cases f with
 |zero=>omega
 |succ f=>rw [qx,if_neg om,if_neg (by rw [a];exact λh=>h rfl),a];rfl
def Xo (W:World) (g:Nat) (Inv:List Nat→List Fact→Prop) (Stop:List Fact→Prop):Prop:=
 ∀(a:List Nat) (F fr:List Fact) (w:World) (A:Option Addr) (c:Nat) (b:Bk) (m d:Nat),Inv a F→dz a=(b,m,d)→0<abk a→(∀x∈a,x<256)→abk b.evs≤c→Mem W w (.row (.slice A (abk b.evs) c) (abk b.evs) (b.evs.flatMap iw) 73 11::(F++fr))→
  YieldAt Fence.wide 0 abl g #[.agg #[.int .u8 (b.kind:Int),.int .u8 (b.cpu:Int),.int .i64 b.lost,.int .i64 b.next,.slice A (abk b.evs) c,.int .i64 (m:Int)],.int .i64 (d:Int)] w λe h=>∃f,Mem W h (f++fr)∧((d=0∧e= .returned (.bool true)∧Inv (a.drop m) f)∨(d≠0∧e= .returned (.bool false)∧Stop f))
def q27 (W:World) (Inv:List Nat→List Fact→Prop) (Stop:List Fact→Prop) (r:Ending) (b:World):Prop:=∃v,r= .returned v∧∃a,Mem W b a∧(Inv [] a∨Stop a)
theorem qlz {fr:List Fact} {I S:List Fact→Prop}:∀(e:Ending) (b:World),(∃a,Mem W b (a++fr)∧((er=0∧e= .returned (.bool true)∧I a)∨(er≠0∧e= .returned (.bool false)∧S a)))→∃v,e= .returned v:=by intros;grind
def aaT {B:Nat} (h:Rd w B 1 A (abk l) (l.map B8)) (hk:k≤abk l) (hc:abk l≤c):Rd w B 1 (if c=k then A else A.map (·.add (k*1))) (abk (l.drop k)) ((l.drop k).map B8):=by
 rw [abH]
 exact h.NK hk hc
def zbx:SI abl 255 6:=⟨by kernel_rfl,by kernel_rfl⟩
def qu8 (W w:World) (n q B:Nat) (A:Option Addr) (c:Nat) (l:List Nat) (Inv:List Nat→List Fact→Prop) (Stop:List Fact→Prop) (D:List Fact) (hL:aM B W) (Q:B≤W.heap.size) (hr:Rd W W.heap.size 1 A (abk l) (l.map B8)) (hc:abk l≤c) (hl:∀b∈l,b<256) (E:iI l) (hn:abk l≤100000000)
    (hy:Xo W q Inv Stop) (G:Inv l D) (e:Mem W w (.blk n #[abg A l c] 30::D)):
    Calls abl 178 (.func (.yield q) #[] #[]:: [vP n 0]).toArray w (q27 W Inv Stop):=by
 refine qI Tryz.func178 [.func (.yield q) #[] #[],vP n 0] [(0,.func (.yield q) #[] #[]),(1,vP n 0)] λa Z=>?_
 refine Jb Z e ((JB) λa Z e=>?_)
 refine qg (λR aS wS=>∃(d:List Nat) (X:Option Addr) (k:Nat) (F:List Fact),(Inv d F)∧(Rd W W.heap.size 1 X (abk d) (d.map B8))∧(abk d≤k)∧(∀b∈d,b<256)∧(abk d≤abk l)∧(iI d)∧R=abk d∧Fr aS 29 [] [(0,.func (.yield q) #[] #[]),(1,vP n 0)]∧Mem W wS (.blk n #[abg X d k] 30::F)) (m:=abk l) ⟨l,A,c,D,G,hr,hc,hl,abo _,E,rfl,Z.sub kr,e.pt 1 [0]⟩ ?_
 clear Z e;rintro R a w_ ⟨d,X,k,F,S,T,r,o,hrn,s,rfl,Z,e⟩
 refine Jb Z e ((JQ∘JP∘Jc O0∘Jl∘Jp 1∘bG∘Jj) (Ji (λH=>?_) λH=>?_))
 ·
  have I:0<abk d:=by omega
  obtain ⟨b,m,y,J⟩:∃b m y,dz d=(b,m,y):=⟨_,_,_,rfl⟩
  refine (JT∘aD∘JB∘JP∘Jc O0∘JK (h:=by exact λe=>q80 X (abk d) k d B _ (hL.mem e Q) (e.le Q) (e.old T) r rfl om o s J)) λf g wW t=>(Jp 1∘Jx∘Jx∘Jx∘JA #[vB 0,vB 0,vI 0,vI 0,vN]) λw3 p=>(JV aL aU (h1:=by exact tJ _ _ _)) λU=>(Jp 2∘Jj∘JQ) λa Z e=>?_
  refine wp_seq ?_
  refine NV (i:=5) ?_
  refine Jb Z e ((Jp 1∘eF aL O0∘Jp 1∘eH #[vB b.kind,vB b.cpu,vI b.lost,vI b.next,abg f b.evs g,vI m]∘Jp 1∘Jq) λa Z e=>?_)
  refine wQ Z (i:=5) (vs:=[.agg #[vB b.kind,vB b.cpu,vI b.lost,vI b.next,abg f b.evs g,vI m],vI y]) rfl rfl rfl rfl rfl rfl de (hy d F _ _ f g b m y S J I o t (aam (es:=[.blk p (b.cells f g) 85,.blk n #[abg X d k] 30]) (e.pt (fs':=(abj f b.evs g iw 73 11:: .blk p (b.cells f g) 85:: .blk n #[abg X d k] 30::F)) 3 [1,0,2]))) qlz ?_
  clear Z e;rintro v u a ⟨z,e,(⟨K,C,L⟩|⟨K,C,M⟩)⟩ Z<;>injection C with C<;>subst C
  ·
   replace e:Mem W u (.blk p (b.cells f g) 85:: .blk n #[abg X d k] 30::z):=aai (es:=[.blk p (b.cells f g) 85,.blk n #[abg X d k] 30]) e
   have x:=J;rw [K] at x;obtain ⟨V,N,_⟩:=KO x;have O:abk (d.drop m)<abk d:=by rw [abH];omega
   refine Jb Z e ((Jp 4∘Jo (.bool false) (by rw [K];simp)∘Jp 1∘aF∘Jq∘JF∘aD∘JR∘Jc O1∘Jp 1∘Jy (v:= .slice (if k=m then X else X.map (·.add (m*1))) (abk d-m) (k-m)) (h:=by exact aag aX (j:=m) rfl rfl rfl om)∘Jo (.slice (if k=m then X else X.map (·.add (m*1))) (abk (d.drop m)) (k-m)) (by rw [abH])∘JW fO aU) λY=>(oI∘Jq) λa Z e=>?_)
   exact ⟨_,O,(d.drop m),if k=m then X else X.map (·.add (m*1)),k-m,z,L,aaT T N r,by rw [abH];omega,wR o m,by omega,s.drop m,rfl,Z.sub kr,e.pt 2 [1]⟩
  ·
   replace e:Mem W u (.blk p (b.cells f g) 85:: .blk n #[abg X d k] 30::z):=aai (es:=[.blk p (b.cells f g) 85,.blk n #[abg X d k] 30]) e
   refine Jb Z e ((Jp 5∘aF∘Jq∘JT∘JZ) λa Z e=>?_)
   exact EP rfl Z (⟨_,rfl,z,aap [.blk p (b.cells f g) 85,.blk n #[abg X d k] 30] e,.inr M⟩)
 have P:d=[]:=adF.1 om
 refine (JF∘JX) ?_
 subst P
 intro a Z e
 exact gQ rfl Z (⟨_,rfl,F,aap [.blk n #[.slice X (abk ([]:List Nat)) k] 30] e,.inl S⟩)
def q0u (A:Option Addr) (n c:Nat) (w:World):
    Calls abl 132 #[.slice A n c] w λr a=>∃g,r= .returned (.func (.func 178) #[] #[vP g 0])∧Mem w a [.blk g #[.slice A n c] 30]:=by
 refine (dY Tryz.func132 4) ?_
 exact (JP∘Bf) λe b=>(Jp 1∘Jr∘Jy (h:=by exact Yl.makeFunc (fst:=[]) (caps:=[vP b 0]) rfl rfl rfl)∘Jp 1∘aK∘Jj∘JZ∘aZ) λd=>by exact ⟨_,rfl,d⟩
def dP (bs:List Bk):List Nat:=bs.flatMap Bk.out
def dN:List Bk→Nat
 |[]=>0
 |b::t=>if b.err=0 then dN t else b.err
def zc (bs:List Bk):List Nat×Nat:=if dN bs≠0 then ([],dN bs) else if 524288<abk (dP bs) then ([],3) else (dP bs,0)
def qys (h:dN bs≠0):zc bs=([],dN bs):=by unfold zc;rw [if_pos h]
def qti (h:dN bs=0) (h2:524288<abk (dP bs)):zc bs=([],3):=by unfold zc;rw [if_neg om,if_pos h2]
theorem Xp (h:dN bs=0) (h2:¬524288<abk (dP bs)):zc bs=(dP bs,0):=by unfold zc;rw [if_neg om,if_neg h2]
theorem KU (bs:List Bk):(zc bs).1.length≤524288:=by grind [zc]
def Xq {q:List Hb} (h:k<abk q):dN ((q.drop k).map ac0)=if (q.getD k Hb.zero).b.err=0 then dN ((q.drop (k+1)).map ac0) else (q.getD k Hb.zero).b.err:=by
 rw [qly Hb.zero h,acY,dN]
theorem Xr {q:List Hb} (h:k<abk q):dP ((q.take (k+1)).map ac0)=dP ((q.take k).map ac0)++(q.getD k Hb.zero).b.out:=by grind [Hb.zero,dP,xV]
theorem q84 (bs:List Bk):abk (dP bs)≤4096*abk bs:=by induction bs<;>grind [Oz,dP]
theorem q28 {q:List Hb} (k:Nat):abk (dP ((q.take k).map ac0))≤4096*abk q:=by grind [q84]
def zez (h:∀b∈bs,b.Ok):∀x∈dP bs,x<256:=by
 intro x a
 unfold dP at a
 obtain ⟨b,c,a⟩:=acK.1 a
 exact zit (h b c) x a
def q29 (h:∀b∈bs,b.Ok):∀x∈(zc bs).1,x<256:=by
 unfold zc
 split
 ·intro x a;cases a
 ·split
  ·intro x a;cases a
  ·exact zez h
def fK (next:Int):Bk:=⟨2,0,0,next,[]⟩
def ze0 {next:Int} (h:aQ next):(fK next).Ok:=⟨by show 2<256;decide,by show 0<256;decide,by show aQ 0;unfold aQ;decide,h,by intro e a;cases a⟩
def readAll (l:List Nat):List Bk×Nat:=if (Bv l).2.2≠0 then ([],(Bv l).2.2) else ((Bv l).1,0)
theorem Xt (h:524288<abk l):readAll l=([],3):=by unfold readAll Bv;rw [if_pos h];rfl
theorem Xu (h:¬524288<abk l) (a:(qx (abk l) l).2.2=e) (b:e≠0):readAll l=([],e):=by unfold readAll Bv;rw [if_neg h,if_pos om,a]
theorem Xv (h:¬524288<abk l) (a:(qx (abk l) l).2.2=0):readAll l=((qx (abk l) l).1,0):=by unfold readAll Bv;rw [if_neg h,if_neg om]
section
variable {W w:World} {fs:List Fact} {t bt:TypeId}
def Fp {w w':World} {p:List Nat×Nat} {n:Int} (hb:Below w.heap.size w w') (a:p=([],er)) (b:n=er):zf w p.2 p.1 (.returned (.tuple #[vN,vI n])) w':=by
 subst a;subst b
 exact ⟨⟨none,0,rfl,acQ _ _ _ _,abo _⟩,hb⟩
def Xw {p:List Bk×Nat} {n:Int} (h:Mem W w fs) (a:p=([],er)) (b:n=er):Bo t bt W p.2 p.1 (.returned (.tuple #[vN,vI n])) w:=by
 subst a;exact q8y h b
end
section
variable {W w w':World} {fs gs:List Fact} {f g1 g2:Fact}
end
def Bw (W:World) (a:TypeId) (g:Nat) (lim:Int) (out:List Nat) (fs:List Fact) (v:Value) (r:Ending) (w':World):Prop:=
 r= .returned v∧∃A c,abk out≤c∧Mem W w' (.blk g #[vI lim,.slice A (abk out) c] a:: .row (.slice A (abk out) c) (abk out) (out.map B8) 5 1::fs)
theorem Bw.as {e:TypeId} {lim:Int} {out:List Nat} {v:Value} (h:Bw W e g lim out fs v r w') (h1:out=l) (h2:v=z):Bw W e g lim l fs z r w':=by subst h1;subst h2;exact h
section
variable {W w w':World} {fs gs:List Fact} {f1 f2:Fact}
end
theorem Xx:∀{bs:List Bk},(∀b∈bs,b.err=0)→dN bs=0:=by intro x;induction x<;>grind [dN]
theorem qyt (h:∀b∈bs,b.err=0) (a:abk (dP bs)≤524288):zc bs=(dP bs,0):=Xp (Xx h) om
section
variable {W w:World} {a b c:List Fact} {t:TypeId} {q:List Hb}
end
instance Xy:DecidableEq It:=λ⟨a,b⟩ ⟨c,d⟩=>decidable_of_iff (a=c∧b=d) (by rw [It.mk.injEq])
structure fD where
 x:Sb
 A:Option Addr
 c:Nat
def fD.zero:fD:=⟨⟨false,0,0,⟨0,0⟩,[]⟩,none,0⟩
def xW (h:fD):List Value:=(h.x.cells h.A h.c).toList
theorem XE (h:fD):abk (xW h)=6:=rfl
structure oZ (W:World) (h:fD):Prop where
 ok:h.x.Ok
 hc:abk h.x.l≤h.c
 hm:abk h.x.l≤9223372036854775807
 rd:Rd W W.heap.size 11 h.A (abk h.x.l) (h.x.l.flatMap rC)
def ziz:EI abl 102 113 (.agg (fD.zero.x.cells none 0)) 6 48:=⟨by kernel_rfl,by kernel_rfl,rfl,by omega⟩
def qP (l:List fD):List Bk:=l.map λh=>h.x.made
def qyu {l:List fD} (h:k<abk l):qP (l.take (k+1))=qP (l.take k)++[(l.getD k fD.zero).x.made]:=by
 unfold qP
 rw [xV fD.zero h,abP]
 rfl
def XF {l:List fD} (h:∀x∈l,oZ W x):∀b∈qP l,b.Ok∧b.err=0:=λb a=>by
 unfold qP at a
 obtain ⟨x,c,rfl⟩:=acd.1 a
 have:=XC (h x c).ok
 exact ⟨this.1,this.2.1⟩
def q3b {l:List fD} (h:∀x∈l,oZ W x):∀b∈qP l,abk b.evs≤1000000:=λb a=>by
 unfold qP at a
 obtain ⟨x,c,rfl⟩:=acd.1 a
 have:=(XC (h x c).ok).2.2
 omega
theorem OZ (l:List fD):abk (qP l)=abk l:=by unfold qP;rw [abv]
theorem zQ {q:List Hb} (a:q.map ac0=bs) {p:Bk→Prop} (h:∀b∈bs,p b):∀x∈q,p x.b:=λx c=>h x.b (by rw [←a];exact ac8 c)
section
open Go.ChangeShapes Go.WideShapes Go.ChangeAt
section
variable {H:Type} {enc:TypeId×Value→H} {W:World} {b0:Nat} {v:Value} {d:DataW H} {p:List MemPlace}
def q86:Tryz.prog.underlying 4=some .bool:=by kernel_rfl
theorem qyv:Tryz.prog.cellsOf 4=1:=by kernel_rfl
def Fu:fieldAt abl 113 0 0 4=true:=by kernel_rfl
def Fv:fieldAt abl 113 1 1 5=true:=by kernel_rfl
def Fw:fieldAt abl 113 2 2 61=true:=by kernel_rfl
def Fx:fieldAt abl 113 3 3 110=true:=by kernel_rfl
def Fy:fieldAt abl 113 4 5 111=true:=by kernel_rfl
theorem XG:Tryz.prog.cellsOf 113=6:=by kernel_rfl
def ze1:Tryz.prog.underlying 102=some (.slice 113):=by kernel_rfl
set_option maxRecDepth 100000 in
theorem q87 {y:DataW H×List MemPlace} (f:DataW.trod enc Tryz.prog W 0 (λ_=>true) true m 113 B=some y):∃x:fD,xW x=B∧oZ W x:=by
 obtain ⟨g,_,L,j⟩:=qy Fu f
 obtain ⟨_,_,M,k⟩:=qy Fv f
 obtain ⟨_,_,N,n⟩:=qy Fw f
 obtain ⟨_,_,O,o⟩:=qy Fx f
 obtain ⟨_,_,P,q⟩:=qy Fy f
 rw [XG] at g
 obtain ⟨e,h,_⟩:=DataW.trod_bool q86 j
 obtain ⟨cpu,e1,_,r⟩:=DataW.trod_int C8 k
 obtain ⟨i,e2,u⟩:=Xn n
 obtain ⟨_,h0⟩:=Nr q1l o
 obtain ⟨s,a,ws⟩:=h0 0 .i64 rfl
 obtain ⟨t,b,w⟩:=h0 1 .i64 rfl
 obtain ⟨A,c,l,e4,z,C,D,E⟩:=q83 q
 rw [qyv] at h
 rw [q7y] at e1
 rw [Xm] at e2
 rw [q26] at e4
 have F:=uf h
 have G:=uf e1
 have I:=uf e2.symm
 have J:=uf e4
 rw [qx5,List.getElem?_take,List.getElem?_drop] at a b
 simp only [Nat.reduceLT,if_true] at a b
 have K:=iC r
 refine ⟨⟨⟨e,cpu.toNat,i,⟨s,t⟩,l⟩,A,c⟩,?_,⟨⟨by show cpu.toNat<256;omega,u,⟨Nl ws,Nl w⟩,D⟩,z,by unfold maxLen at C;show l.length≤_;omega,E⟩⟩
 refine ((zey g F G I a b J).trans ?_).symm
 show _=[Value.bool e,.int .u8 ((cpu.toNat:Nat):Int),.int .u32 (i:Int),.int .i64 s,.int .i64 t,.slice A l.length c]
 rw [Int.toNat_of_nonneg K.1]
 rfl
end
end
structure Pr where
 nx:Nat
 cp:Nat
 cr:Nat
 gp:Nat
 gs:List Nat
 cl:List Nat
 cu:List Nat
 tk:Nat
 ts:List Nat
 sp:List Nat
 e1:Nat
 e2:Nat
 e3:Nat
 e4:Nat
 e5:Nat
 e6:Nat
 e7:Nat
section
variable {α:Type} {b:List Nat} {a x n u:Nat} {xs:List Nat}
def nJ (b:List Nat) (a:Nat) (k:Nat→Nat→Except Nat α):Except Nat α:=if (aB (b.drop a)).2.2≠0 then .error 344 else k (aB (b.drop a)).1 (a+(aB (b.drop a)).2.1)
def lZ (b:List Nat) (n a:Nat) (k:List Nat→Nat→Except Nat α):Except Nat α:=if (bD n (b.drop a)).2.2≠0 then .error 344 else k (bD n (b.drop a)).1 (a+(bD n (b.drop a)).2.1)
def cnt1 (b:List Nat) (a c hi:Nat) (k:Nat→Nat→Except Nat α):Except Nat α:=nJ b a λx e=>if x<c∨hi<x then .error 345 else k x e
theorem Rz {k:Nat→Nat→Except Nat α} (h:aB (b.drop a)=(x,n,0)):nJ b a k=k x (a+n):=by unfold nJ;rw [h];rfl
theorem L9 {k:Nat→Nat→Except Nat α} (h:(aB (b.drop a)).2.2≠0):nJ b a k= .error 344:=if_pos h
theorem zgk {k:List Nat→Nat→Except Nat α} (h:bD n (b.drop a)=(xs,u,0)):lZ b n a k=k xs (a+u):=by unfold lZ;rw [h];rfl
theorem DZ {k:List Nat→Nat→Except Nat α} (h:(bD n (b.drop a)).2.2≠0):lZ b n a k= .error 344:=if_pos h
theorem zgl {k:Nat→Nat→Except Nat α} (h:aB (b.drop a)=(x,n,0)) (h2:¬(x<c∨hi<x)):cnt1 b a c hi k=k x (a+n):=by unfold cnt1;rw [Rz h,if_neg h2]
def zaw {k:Nat→Nat→Except Nat α} (h:aB (b.drop a)=(x,n,0)) (h2:x<c∨hi<x):cnt1 b a c hi k= .error 345:=by unfold cnt1;rw [Rz h,if_pos h2]
theorem Ma {k:Nat→Nat→Except Nat α} (h:(aB (b.drop a)).2.2≠0):cnt1 b a c hi k= .error 344:=L9 h
theorem zax (b:List Nat) (a:Nat):(aB (b.drop a)).2.2≠0∨∃x n,aB (b.drop a)=(x,n,0):=by grind
theorem zay (b:List Nat) (k a:Nat):(bD k (b.drop a)).2.2≠0∨∃xs u,bD k (b.drop a)=(xs,u,0):=by grind
theorem qw5 (c:a≤abk b) (h:aB (b.drop a)=(x,n,0)):0<n∧a+n≤abk b:=by grind [y8,UL]
def zaz (c:a≤abk b) (h:bD n (b.drop a)=(xs,u,0)):abk xs=n∧n≤u∧a+u≤abk b:=by
 have h1:=zav _ _ _ _ h
 rw [abH] at h1
 omega
def q5w (h:aB l=(x,n,er)) (h2:(er:Int)≠0):(aB l).2.2≠0:=by rw [h];show er≠0;omega
theorem q5x (c:∀z∈b,z<256) (h:aB (b.drop a)=(x,n,0)):x<18446744073709551616:=by grind [qed]
end
def bF (b:List Nat) (p x e:Nat):Prop:=aB (b.drop p)=(x,e-p,0)∧p≤e
def kN (b:List Nat) (n p:Nat) (xs:List Nat) (e:Nat):Prop:=bD n (b.drop p)=(xs,e-p,0)∧p≤e
section
variable {α:Type} {b:List Nat} {p x e n:Nat} {xs:List Nat}
theorem bF.eq (h:bF b p x e):p+(e-p)=e:=by have:=h.2;omega
theorem kN.eq (h:kN b n p xs e):p+(e-p)=e:=by have:=h.2;omega
theorem bF.of (h:aB (b.drop p)=(x,m,0)):bF b p x (p+m):=⟨by rw [h,acN],by omega⟩
theorem kN.of (h:bD n (b.drop p)=(xs,m,0)):kN b n p xs (p+m):=⟨by rw [h,acN],by omega⟩
theorem D5 (b:List Nat) (p:Nat):(aB (b.drop p)).2.2≠0∨∃x e,bF b p x e:=by
 rcases zax b p with h|⟨x,n,h⟩
 ·exact .inl h
 ·exact .inr ⟨x,_,.of h⟩
def D6 (b:List Nat) (n p:Nat):(bD n (b.drop p)).2.2≠0∨∃xs e,kN b n p xs e:=by
 rcases zay b n p with h|⟨xs,u,h⟩
 ·exact .inl h
 ·exact .inr ⟨xs,_,.of h⟩
theorem bF.go1 {k:Nat→Nat→Except Nat α} (h:bF b p x e):nJ b p k=k x e:=by rw [Rz h.1,h.eq]
theorem kN.goK {k:List Nat→Nat→Except Nat α} (h:kN b n p xs e):lZ b n p k=k xs e:=by rw [zgk h.1,h.eq]
theorem bF.goC {k:Nat→Nat→Except Nat α} (h:bF b p x e) (h2:¬(x<c∨hi<x)):cnt1 b p c hi k=k x e:=by rw [zgl h.1 h2,h.eq]
theorem bF.bad {k:Nat→Nat→Except Nat α} (h:bF b p x e) (h2:x<c∨hi<x):cnt1 b p c hi k= .error 345:=zaw h.1 h2
def bF.in (h:bF b p x e) (c:p≤abk b):p<e∧e≤abk b:=by have:=qw5 c h.1;have:=h.2;omega
def kN.in (h:kN b n p xs e) (c:p≤abk b):abk xs=n∧p+n≤e∧e≤abk b:=by have:=zaz c h.1;have:=h.2;omega
theorem bF.lt (h:bF b p x e) (c:∀z∈b,z<256):x<18446744073709551616:=q5x c h.1
def bF.one {e2:Nat} (h:bF b p x e) (h2:bF b p c e2):c=x∧e2=e:=by
 have h3:=h.1.symm.trans h2.1
 injection h3 with h3 h4
 injection h4 with h4
 have:=h.2
 have:=h2.2
 exact ⟨h3.symm,by omega⟩
def kN.one {S:List Nat} {e2:Nat} (h:kN b n p xs e) (h2:kN b n p S e2):S=xs∧e2=e:=by
 have h3:=h.1.symm.trans h2.1
 injection h3 with h3 h4
 injection h4 with h4
 have:=h.2
 have:=h2.2
 exact ⟨h3.symm,by omega⟩
theorem kN.nil (b:List Nat) (p:Nat):kN b 0 p [] p:=⟨by rw [adN];rfl,abo _⟩
theorem kN.snoc {y:Nat} (h:kN b n p xs e) (h2:bF b e y f):kN b (n+1) p (xs++[y]) f:=by
 have h3:=h.2
 have h4:=h2.2
 have:=qnd n _ xs (e-p) y (f-e) h.1 (by rw [ac3,h.eq];exact h2.1)
 exact ⟨by rw [this];congr 2;omega,by omega⟩
theorem kN.stuck (h:kN b n p xs e) (c:n<m) (h2:(aB (b.drop e)).2.2≠0):(bD m (b.drop p)).2.2≠0:=by
 have:=quj n (m- (n+1)) _ xs (e-p) h.1 (by rw [ac3,h.eq];exact h2)
 grind
end
def pJ (h:abk q≤p) (h2:p<e):abk (q++[x])≤e:=by rw [abm];show abk q+1≤e;omega
def pK (h:abk q≤p) (h2:abk xs=n) (h3:p+n≤e):abk (q++xs)≤e:=by rw [abm];omega
theorem Mc (b:List Nat) (p c hi:Nat):(aB (b.drop p)).2.2≠0∨(∃x e,bF b p x e∧(x<c∨hi<x))∨∃x e,bF b p x e∧¬(x<c∨hi<x):=by grind [D5]
def qrz (h:m*n≤9223372036854775807):abJ .i64 (Go.IntKind.i64.wrap ((m:Int)*(n:Int)))= .int .i64 ((m*n:Nat):Int):=by
 rw [←Int.natCast_mul]
 exact q8 rfl h
def kV (l:List jo):Nat:=(l.getD (abk l-1) jo.zero).to
theorem za0 {l:List jo} (h:abk l=0):kV l=0:=by rw [adF] at h;subst h;rfl
def vH (b:List Nat) (nx:Nat) (e1:Nat) (cp:Nat) (c:Nat) (cr:Nat) (d:Nat) (gp:Nat) (e2:Nat) (gs:List Nat) (e3:Nat) (cl:List Nat) (e4:Nat) (cu:List Nat) (e5:Nat) (tk:Nat) (f:Nat) (ts:List Nat) (e6:Nat) (sp:List Nat) (e7:Nat):Except Nat Pr:=if e7≠abk b then .error 346 else .ok ⟨nx,cp,cr,gp,gs,cl,cu,tk,ts,sp,e1,e2,e3,e4,e5,e6,e7⟩
def RA (b:List Nat) (nx:Nat) (e1:Nat) (cp:Nat) (c:Nat) (cr:Nat) (d:Nat) (gp:Nat) (e2:Nat) (gs:List Nat) (e3:Nat) (cl:List Nat) (e4:Nat) (cu:List Nat) (e5:Nat) (tk:Nat) (f:Nat) (ts:List Nat) (e6:Nat):Except Nat Pr:=lZ b (cp+3*cp*(gp-1)) e6 (vH b nx e1 cp c cr d gp e2 gs e3 cl e4 cu e5 tk f ts e6)
def RB (b:List Nat) (nx:Nat) (e1:Nat) (cp:Nat) (d:Nat) (cr:Nat) (f:Nat) (gp:Nat) (e2:Nat) (gs:List Nat) (e3:Nat) (cl:List Nat) (e4:Nat) (cu:List Nat) (e5:Nat) (tk:Nat) (c:Nat):Except Nat Pr:=lZ b (8*tk) c (RA b nx e1 cp d cr f gp e2 gs e3 cl e4 cu e5 tk c)
def RD (b:List Nat) (nx:Nat) (e1:Nat) (cp:Nat) (c:Nat) (cr:Nat) (d:Nat) (gp:Nat) (e2:Nat) (gs:List Nat) (e3:Nat) (cl:List Nat) (e4:Nat) (cu:List Nat) (e5:Nat):Except Nat Pr:=cnt1 b e5 0 65535 (RB b nx e1 cp c cr d gp e2 gs e3 cl e4 cu e5)
def RF (b:List Nat) (nx:Nat) (e1:Nat) (cp:Nat) (c:Nat) (cr:Nat) (d:Nat) (gp:Nat) (e2:Nat) (gs:List Nat) (e3:Nat) (cl:List Nat) (e4:Nat):Except Nat Pr:=lZ b cp e4 (RD b nx e1 cp c cr d gp e2 gs e3 cl e4)
def RG (b:List Nat) (nx:Nat) (e1:Nat) (cp:Nat) (c:Nat) (cr:Nat) (d:Nat) (gp:Nat) (e2:Nat) (gs:List Nat) (e3:Nat):Except Nat Pr:=lZ b cp e3 (RF b nx e1 cp c cr d gp e2 gs e3)
def RH (b:List Nat) (nx:Nat) (e1:Nat) (cp:Nat) (c:Nat) (cr:Nat) (d:Nat) (gp:Nat) (e2:Nat):Except Nat Pr:=lZ b (2*(gp-1)) e2 (RG b nx e1 cp c cr d gp e2)
def RI (b:List Nat) (nx:Nat) (e1:Nat) (cp:Nat) (d:Nat) (cr:Nat) (c:Nat):Except Nat Pr:=cnt1 b c 1 256 (RH b nx e1 cp d cr c)
def RJ (b:List Nat) (nx:Nat) (e1:Nat) (cp:Nat) (c:Nat):Except Nat Pr:=nJ b c (RI b nx e1 cp c)
def RL (b:List Nat) (nx:Nat) (e1:Nat):Except Nat Pr:=cnt1 b e1 1 64 (RJ b nx e1)
def tO (b:List Nat):Except Nat Pr:=nJ b 3 (RL b)
def Pr.nums (p:Pr):List Nat:=[p.nx,p.cp,p.cr,p.gp]++p.gs++p.cl++p.cu++[p.tk]++p.ts++p.sp
def Pr.secs (p:Pr):List jo:=[qf,⟨qb 0,3,p.e1⟩,⟨qb 1,p.e1,p.e2⟩,⟨qb 2,p.e2,p.e3⟩,⟨qb 3,p.e3,p.e4⟩,⟨qb 4,p.e4,p.e5⟩,⟨qb 5,p.e5,p.e6⟩,⟨qb 6,p.e6,p.e7⟩,⟨⟨#[115,117,109]⟩,p.e7,p.e7+4⟩]
section
variable {α:Type} {b:List Nat} {a n:Nat} {er:Nat}
theorem RN {k:Nat→Nat→Except Nat α} (h:nJ b a k= .error er):er=344∨∃x e,k x e= .error er:=by grind [nJ]
theorem G6 {k:List Nat→Nat→Except Nat α} (h:lZ b n a k= .error er):er=344∨∃x e,k x e= .error er:=by grind [lZ]
theorem RO {k:Nat→Nat→Except Nat α} (h:cnt1 b a c hi k= .error er):(er=344∨er=345)∨∃x e,k x e= .error er:=by grind [cnt1,RN]
end
theorem q5y (h:tO b= .error er):344≤er∧er≤346:=by
 rcases RN h with h|⟨_,_,h⟩; · omega
 rcases RO h with h|⟨_,_,h⟩; · omega
 rcases RN h with h|⟨_,_,h⟩; · omega
 rcases RO h with h|⟨_,_,h⟩; · omega
 rcases G6 h with h|⟨_,_,h⟩; · omega
 rcases G6 h with h|⟨_,_,h⟩; · omega
 rcases G6 h with h|⟨_,_,h⟩; · omega
 rcases RO h with h|⟨_,_,h⟩; · omega
 rcases G6 h with h|⟨_,_,h⟩; · omega
 rcases G6 h with h|⟨_,_,h⟩; · omega
 grind [vH]
def fC (l:List Nat):Except Nat Pr:=
 if abk l<15 then .error 340 else if 16777216<abk l then .error 3 else if zn l=false then .error 341 else
 if ¬(l.getD 0 0=113∧l.getD 1 0=115) then .error 342 else if l.getD 2 0≠1 then .error 343 else tO (l.take (abk l-4))
section
variable {l:List Nat}
def q5z (h:abk l<15):fC l= .error 340:=if_pos h
def za1 (h:¬abk l<15) (h2:16777216<abk l):fC l= .error 3:=by unfold fC;rw [if_neg h,if_pos h2]
def zgm (h:¬abk l<15) (h2:¬16777216<abk l) (h3:zn l=false):fC l= .error 341:=by unfold fC;rw [if_neg h,if_neg h2,if_pos h3]
theorem qr0 (h:¬abk l<15) (h2:¬16777216<abk l) (h3:zn l=true) (h4:¬(l.getD 0 0=113∧l.getD 1 0=115)):fC l= .error 342:=by grind [fC]
theorem qum (h:¬abk l<15) (h2:¬16777216<abk l) (h3:zn l=true) (h4:l.getD 0 0=113∧l.getD 1 0=115) (h5:l.getD 2 0≠1):fC l= .error 343:=by grind [fC]
theorem zgn (h:¬abk l<15) (h2:¬16777216<abk l) (h3:zn l=true) (h4:l.getD 0 0=113∧l.getD 1 0=115) (h5:l.getD 2 0=1):fC l=tO (l.take (abk l-4)):=by grind [fC]
def RP (h:fC l= .error er):1≤er∧er≤346:=by
 unfold fC at h
 split at h
 ·injection h with h;omega
 ·split at h
  ·injection h with h;omega
  ·split at h
   ·injection h with h;omega
   ·split at h
    ·injection h with h;omega
    ·split at h
     ·injection h with h;omega
     ·have:=q5y h;omega
end
section
variable {l:List Nat} {p:Pr} {k:Nat}
end
theorem G7 {B a:Nat} (h:Rd w B 1 A (abk b) (b.map B8)) (d:a≤abk b) (hc:abk b≤c):Rd w B 1 (if c=a then A else A.map (·.add (a*1))) (abk (b.drop a)) ((b.drop a).map B8):=by
 have h1:=h.wP (i:=a) (j:=abk b) d (abo _) hc
 grind
theorem za2 (h:aB l=(x,n,er)) (hr:Rd w w.heap.size 1 A (abk l) (l.map B8)) (d:∀b∈l,b<256) (f:abk l≤200000000000000):
  Calls abl 52 #[.slice A (abk l) c] w (Is w (.tuple #[.int .u64 (x:Int),.int .i64 (n:Int),.int .i64 (er:Int)])):=by
 have:=Nk A (abk l) c l w hr d f
 rw [h] at this
 exact this
def fZ:TypeId:=27
def Md (k:Int) (w:World) (c:Mem W w fs):Calls abl 283 #[.int .i64 k] w (kI W fs (qC fZ k)):=by
 refine xH (vs:=[.int .i64 k]) Tryz.func283 rfl rfl kr (σ0:=[(0,.int .i64 k)]) rfl ?_
 intro a Z
 refine zx ?_
 refine fp Z 1 0 [(2,.int .i64 k)] λa Z=>fy Z c 1 rfl rfl rfl (Yl.makeInterface rfl rfl) λa Z=>?_
 refine fo Z 2 rfl rfl ?_
 refine zgh Z rfl rfl ?_
 exact DY Z ⟨rfl,c⟩
def q50 {gs:List Fact} {i g:Nat} (k x:Int) (w:World) (c:Mem W w fs) (hi:fs[i]?=some (.blk g #[.int .i64 x] fZ)) (f:fs.set i (.blk g #[.int .i64 k] fZ)=gs):CallsD abl 278 [agG (some ⟨g,0,none⟩)].toArray (.panicking (qC fZ k)) w (ow W gs):=by
 subst f
 refine qja agQ rfl rfl kr (σ0:=[(0,.pointer (some ⟨g,0,none⟩))]) rfl λc₀ h a d Z=>?_
 refine wpS_seq (wpS_region ?_)
 refine qi9 (i:=0) (v:= .iface fZ (.int .i64 k)) (cs':={c₀ with mode:= .panicking [{v:= .iface fZ (.int .i64 k),recovered:=true}]}::h) Z rfl rfl rfl rfl de (.inl (by unfold qC at d;simp [recoverD,d])) λa Z=>?_
 refine qrx (i:=1) Z rfl rfl rfl rfl de λa Z=>?_
 refine wpS_of_wp (wp_seq ?_)
 refine zx ?_
 refine fp Z 1 0 [(6,.iface fZ (.int .i64 k))] λa Z=>fy Z c 1 rfl rfl rfl (aa6 rfl rfl) λa Z=>?_
 refine fp Z 5 2 [(2,.int .i64 k),(3,.bool true)] λa Z=>xE rfl ?_
 refine wp_seq (wp_seq ?_)
 refine zx ?_
 refine fp Z 1 0 [(10,.iface fZ (.int .i64 k))] λa Z=>fy Z c 1 rfl rfl rfl (aa7 rfl rfl rfl) λa Z=>?_
 refine fp Z 4 2 [(15,.bool false)] λa Z=>xE rfl ?_
 refine NC Z rfl (wp_skip ?_)
 refine zx ?_
 refine fp Z 1 0 [(17,.int .i64 k)] λa Z=>fo Z 1 rfl rfl ?_
 refine pX Z c (i:=i) rfl rfl rfl rfl kr rfl hi (by simp) λj c=>?_
 refine xE rfl ?_
 exact qry rfl Z ⟨rfl,rfl,c⟩
def q0f {gs:List Fact} {i g:Nat} (x:Int) (w:World) (c:Mem W w fs) (hi:fs[i]?=some (.blk g #[.int .i64 x] fZ)) (f:fs.set i (.blk g #[.int .i64 0] fZ)=gs):CallsD abl 278 [agG (some ⟨g,0,none⟩)].toArray .returning w (ow W gs):=by
 subst f
 refine qja agQ rfl rfl kr (σ0:=[(0,.pointer (some ⟨g,0,none⟩))]) rfl λc₀ h a d Z=>?_
 refine wpS_seq (wpS_region ?_)
 refine qi9 (i:=0) (v:= .nilIface) (cs':=c₀::h) Z rfl rfl rfl rfl de (.inr ⟨by simp [recoverD,d],rfl,rfl⟩) λa Z=>?_
 refine qrx (i:=1) Z rfl rfl rfl rfl de λa Z=>?_
 refine wpS_of_wp (wp_seq ?_)
 refine zx ?_
 refine fp Z 1 0 [(6,.nilIface)] λa Z=>fy Z c 1 rfl rfl rfl (aaS (z:= .int .i64 0) rfl rfl kr) λa Z=>?_
 refine fp Z 5 2 [(2,.int .i64 0),(3,.bool false)] λa Z=>xE rfl ?_
 refine wp_seq (wp_seq ?_)
 refine zx ?_
 refine fp Z 1 0 [(10,.nilIface)] λa Z=>fy Z c 1 rfl rfl rfl (aaQ rfl rfl) λa Z=>?_
 refine fp Z 4 2 [(15,.bool false)] λa Z=>xE rfl ?_
 refine NC Z rfl (wp_skip ?_)
 refine zx ?_
 refine fp Z 1 0 [(17,.int .i64 0)] λa Z=>fo Z 1 rfl rfl ?_
 refine pX Z c (i:=i) rfl rfl rfl rfl kr rfl hi (by simp) λj c=>?_
 refine xE rfl ?_
 have hc:c₀={c₀ with mode:=FrameMode.returning}:=by cases c₀;simp at d;rw [d]
 rw [hc]
 exact qry rfl Z ⟨rfl,rfl,c⟩
section
variable {α:Type} {b:List Nat} {a n:Nat} {p:α}
def qw7 {k:Nat→Nat→Except Nat α} (h:nJ b a k= .ok p):∃x e,bF b a x e∧k x e= .ok p:=by
 rcases D5 b a with h2|⟨x,e,h2⟩
 ·rw [L9 h2] at h;cases h
 ·rw [h2.go1] at h;exact ⟨x,e,h2,h⟩
def G8 {k:List Nat→Nat→Except Nat α} (h:lZ b n a k= .ok p):∃xs e,kN b n a xs e∧k xs e= .ok p:=by
 rcases D6 b n a with h2|⟨x,e,h2⟩
 ·rw [DZ h2] at h;cases h
 ·rw [h2.goK] at h;exact ⟨x,e,h2,h⟩
def RQ {k:Nat→Nat→Except Nat α} (h:cnt1 b a c hi k= .ok p):∃x e,bF b a x e∧(c≤x∧x≤hi)∧k x e= .ok p:=by
 rcases Mc b a c hi with h2|⟨x,e,h2,h3⟩|⟨x,e,h2,h3⟩
 ·rw [Ma h2] at h;cases h
 ·rw [h2.bad h3] at h;cases h
 ·rw [h2.goC h3] at h;exact ⟨x,e,h2,by omega,h⟩
end
section
variable {b:List Nat} {p x e n:Nat} {xs:List Nat}
theorem bF.bytes (h:bF b p x e) (c:∀z∈b,z<256):b.drop p=au x++b.drop e:=by
 rw [Om (λz hz=>c z (abU hz)) h.1]
 have:=ab5 (e-p) (b.drop p)
 rw [ac3,h.eq] at this
 exact this.symm
theorem kN.bytes (h:kN b n p xs e) (c:∀z∈b,z<256):b.drop p=xs.flatMap au++b.drop e∧∀x∈xs,x<18446744073709551616:=by
 obtain ⟨h1,_,h3,_⟩:=qyf n _ xs _ (λz hz=>c z (abU hz)) h.1
 refine ⟨?_,h3⟩
 rw [h1]
 have:=ab5 (e-p) (b.drop p)
 rw [ac3,h.eq] at this
 exact this.symm
end
structure Pr.Fit (p:Pr):Prop where
 cp1:1≤p.cp
 cp2:p.cp≤64
 gp1:1≤p.gp
 G9:p.gp≤256
 tk:p.tk≤65535
 gs:abk p.gs=2*(p.gp-1)
 cl:abk p.cl=p.cp
 cu:abk p.cu=p.cp
 ts:abk p.ts=8*p.tk
 sp:abk p.sp=p.cp+3*p.cp*(p.gp-1)
 lt:∀x∈p.nums,x<18446744073709551616
def zgo {p:Pr} (hb:3≤abk b) (c:∀z∈b,z<256) (h:tO b= .ok p):p.Fit∧b.drop 3=p.nums.flatMap au:=by
 obtain ⟨nx,e1,h1,h⟩:=qw7 h
 obtain ⟨cp,C,h2,j,h⟩:=RQ h
 obtain ⟨cr,D,h3,h⟩:=qw7 h
 obtain ⟨gp,e2,h4,k,h⟩:=RQ h
 obtain ⟨gs,e3,h5,h⟩:=G8 h
 obtain ⟨cl,e4,h6,h⟩:=G8 h
 obtain ⟨cu,e5,h7,h⟩:=G8 h
 obtain ⟨tk,E,h8,v,h⟩:=RQ h
 obtain ⟨ts,e6,h9,h⟩:=G8 h
 obtain ⟨sp,e7,h10,h⟩:=G8 h
 unfold vH at h
 split at h
 ·cases h
 rename_i F
 injection h with h
 subst h
 have w:=h1.in hb
 have y:=h2.in w.2
 have A:=h3.in y.2
 have B:=h4.in A.2
 have l:=h5.in B.2
 have m:=h6.in l.2.2
 have o:=h7.in m.2.2
 have i8:=h8.in o.2.2
 have q:=h9.in i8.2
 have i:=h10.in q.2.2
 have r:=h5.bytes c
 have s:=h6.bytes c
 have t:=h7.bytes c
 have u:=h9.bytes c
 have f:=h10.bytes c
 have g:b.drop e7=[]:=adq om
 refine ⟨⟨j.1,j.2,k.1,k.2,v.2,l.1,m.1,o.1,q.1,i.1,λx d=>?_⟩,?_⟩
 ·simp only [Pr.nums,abV,abQ,acy,or_false] at d
  rcases d with (((((((rfl|rfl|rfl|rfl)|d)|d)|d)|rfl)|d)|d)
  ·exact h1.lt c
  ·exact h2.lt c
  ·exact h3.lt c
  ·exact h4.lt c
  ·exact r.2 x d
  ·exact s.2 x d
  ·exact t.2 x d
  ·exact h8.lt c
  ·exact u.2 x d
  ·exact f.2 x d
 ·rw [h1.bytes c,h2.bytes c,h3.bytes c,h4.bytes c,r.1,s.1,t.1,h8.bytes c,u.1,f.1,g]
  simp [Pr.nums]
def bE (x:Nat):Int:=Go.IntKind.i64.wrap (x:Int)
def aA:Nat:=4611686018427387904
def bQ {α:Type} (n:Nat) (f:Nat→α):List α:=(ac4 n).map f
theorem qV (n:Nat) (f:Nat→α):abk (bQ n f)=n:=by simp [bQ]
theorem yK (n:Nat) (f:Nat→α):bQ (n+1) f=bQ n f++[f n]:=by unfold bQ;rw [agw,abP];rfl
theorem Cv {f:Nat→α} {d:α} (h:i<n):(bQ n f).getD i d=f i:=by grind [bQ]
theorem za3 {β:Type} (n:Nat) (f:Nat→α) (g:α→β):(bQ n f).map g=bQ n λi=>g (f i):=by unfold bQ;rw [aey];rfl
theorem qr1 (h:abk l=n) (f:Nat→Int):(bQ n λi=>f (l.getD i 0))=l.map f:=by
 subst h
 refine aew (by simp [bQ]) λi h1 h2=>?_
 grind [bQ]
def Pr.iq (p:Pr) (g:Nat):Gr:=if g=0 then ⟨0,1⟩ else ⟨bE (p.gs.getD (2*(g-1)) 0),bE (p.gs.getD (2*(g-1)+1) 0)⟩
def Pr.tn (p:Pr) (i j:Nat):Nat:=p.ts.getD (8*i+j) 0
def Pr.rM (p:Pr):Nat→Int
 |0=>0
 |i+1=>if 65535<Go.IntKind.i64.wrap (p.rM i+bE (p.tn i 0)) then 65535 else Go.IntKind.i64.wrap (p.rM i+bE (p.tn i 0))
def Pr.lH (p:Pr) (i:Nat):Int:=Go.IntKind.i64.wrap (p.rM i+bE (p.tn i 0))
def Pr.sQ (p:Pr) (i:Nat):Tk:=⟨p.lH i,bE (p.tn i 1),bE (p.tn i 2),bE (p.tn i 3),p.tn i 4,decide (p.tn i 5=1),p.tn i 6,p.tn i 7%4294967296⟩
def Pr.so (p:Pr) (g c:Nat):Nat:=if g=0 then c else p.cp+3*p.cp*(g-1)+3*c
def Pr.sn (p:Pr) (g c j:Nat):Nat:=p.sp.getD (p.so g c+j) 0
def Pr.qW (p:Pr) (g c:Nat):Sp:=if g=0 then ⟨0,0,p.sn g c 0⟩ else ⟨p.sn g c 0,p.sn g c 1%4294967296,p.sn g c 2⟩
def Pr.row (p:Pr) (g:Nat):List Sp:=bQ p.cp (p.qW g)
def Pr.qD (p:Pr):cO:=⟨bE p.nx,⟨(p.cp:Int),p.cr,none,0,bQ p.gp p.iq,none,0,p.cl.map bE,none,0,p.cu.map bE,none,0,bQ p.tk p.sQ,none,0,bQ p.gp λg=>⟨none,0,p.row g⟩⟩⟩
def dle (x m:Nat):Bool:=decide (x≤m)
def Pr.ok0 (p:Pr):Bool:=(((true&&dle p.nx aA)&&dle p.cp aA)&&dle p.cr 18446744073709551615)&&dle p.gp aA
def Pr.oL (p:Pr):Nat→Bool
 |0=>p.ok0
 |g+1=>if g=0 then p.ok0 else (p.oL g&&dle (p.gs.getD (2*(g-1)) 0) aA)&&dle (p.gs.getD (2*(g-1)+1) 0) aA
def Pr.yL (p:Pr):Nat→Bool
 |0=>p.oL p.gp
 |k+1=>p.yL k&&dle (p.cl.getD k 0) aA
def Pr.vJ (p:Pr):Nat→Bool
 |0=>p.yL p.cp
 |k+1=>p.vJ k&&dle (p.cu.getD k 0) aA
def Pr.jB (p:Pr):Nat→Bool
 |0=>p.vJ p.cp&&dle p.tk aA
 |i+1=>((((((((p.jB i&&dle (p.tn i 0) aA)&&dle (p.tn i 1) aA)&&dle (p.tn i 2) aA)&&dle (p.tn i 3) aA)&&dle (p.tn i 4) 18446744073709551615)&&dle (p.tn i 5) 1)&&dle (p.tn i 6) 18446744073709551615)&&dle (p.tn i 7) 4294967295)&&decide (p.lH i≤65535)
def Pr.lI (p:Pr) (base:Bool) (g:Nat):Nat→Bool
 |0=>base
 |c+1=>if g=0 then p.lI base g c&&dle (p.sn g c 0) 18446744073709551615 else ((p.lI base g c&&dle (p.sn g c 0) 18446744073709551615)&&dle (p.sn g c 1) 4294967295)&&dle (p.sn g c 2) 18446744073709551615
def Pr.mG (p:Pr):Nat→Bool
 |0=>p.jB p.tk
 |g+1=>p.lI (p.mG g) g p.cp
def Pr.okB (p:Pr):Bool:=p.mG p.gp
section
variable {p:Pr} (h:p.Fit)
def Pr.oC (p:Pr):Nat:=4+2*(p.gp-1)
def Pr.oT (p:Pr):Nat:=p.oC+2*p.cp
def Pr.oS (p:Pr):Nat:=p.oT+1+8*p.tk
theorem Me {m:List Nat} (hk:k<abk l):(l++m).getD k 0=l.getD k 0:=by grind
theorem D7 {m:List Nat} {j:Nat} (hk:k=abk l+j):(l++m).getD k 0=m.getD j 0:=by grind
def za4 (p:Pr):p.nums.getD 0 0=p.nx∧p.nums.getD 1 0=p.cp∧p.nums.getD 2 0=p.cr∧p.nums.getD 3 0=p.gp:=by
 unfold Pr.nums
 simp [abz]
include h in
theorem za5:p.nums.length=p.oS+p.sp.length∧p.sp.length=p.cp+3*p.cp*(p.gp-1):=by
 unfold Pr.nums Pr.oS Pr.oT Pr.oC
 simp only [List.length_append,List.length_cons,List.length_nil,h.gs,h.cl,h.cu,h.ts]
 exact ⟨by omega,h.sp⟩
include h in
theorem q51 {j:Nat} (a:j<2*(p.gp-1)):p.nums.getD (4+j) 0=p.gs.getD j 0:=by
 have:=h.gs
 unfold Pr.nums
 rw [List.append_assoc,List.append_assoc,List.append_assoc,List.append_assoc,List.append_assoc,D7 (l:=[p.nx,p.cp,p.cr,p.gp]) (k:=4+j) (j:=j) rfl,Me om]
include h in
theorem zgp {j:Nat} (a:j<p.cp):p.nums.getD (p.oC+j) 0=p.cl.getD j 0:=by
 have:=h.gs
 have:=h.cl
 unfold Pr.nums Pr.oC
 rw [List.append_assoc,List.append_assoc,List.append_assoc,List.append_assoc,D7 (j:=j) (by simp only [List.length_append,List.length_cons,List.length_nil];omega),Me om]
include h in
theorem zgq {j:Nat} (a:j<p.cp):p.nums.getD (p.oC+p.cp+j) 0=p.cu.getD j 0:=by
 have:=h.gs
 have:=h.cl
 have:=h.cu
 unfold Pr.nums Pr.oC
 rw [List.append_assoc,List.append_assoc,List.append_assoc,D7 (j:=j) (by simp only [List.length_append,List.length_cons,List.length_nil];omega),Me om]
include h in
theorem zgr:p.nums.getD p.oT 0=p.tk:=by
 have:=h.gs
 have:=h.cl
 have:=h.cu
 unfold Pr.nums Pr.oT Pr.oC
 rw [List.append_assoc,List.append_assoc,D7 (j:=0) (by simp only [List.length_append,List.length_cons,List.length_nil];omega)]
 rfl
include h in
theorem Af {j:Nat} (a:j<8*p.tk):p.nums.getD (p.oT+1+j) 0=p.ts.getD j 0:=by
 have:=h.gs
 have:=h.cl
 have:=h.cu
 have:=h.ts
 unfold Pr.nums Pr.oT Pr.oC
 rw [List.append_assoc,D7 (j:=j) (by simp only [List.length_append,List.length_cons,List.length_nil];omega),Me om]
include h in
theorem Mf (j:Nat):p.nums.getD (p.oS+j) 0=p.sp.getD j 0:=by
 have:=h.gs
 have:=h.cl
 have:=h.cu
 have:=h.ts
 unfold Pr.nums Pr.oS Pr.oT Pr.oC
 rw [D7 (j:=j) (by simp only [List.length_append,List.length_cons,List.length_nil];omega)]
theorem yM (p:Pr) (c:Nat):p.so 0 c=c:=if_pos rfl
theorem sS (a:0<g) (c:Nat):p.so g c=p.cp+3*p.cp*(g-1)+3*c:=if_neg om
theorem Mg:p.so (g+1) 0=p.so g p.cp:=by
 rw [sS om]
 rcases acn g with h0|h0
 ·subst h0;rw [yM];omega
 ·rw [sS h0,show g+1-1=(g-1)+1 by omega,aeC];omega
include h in
theorem He (a:g<p.gp) (hc:c<p.cp):p.so g c+(if g=0 then 1 else 3)≤p.sp.length:=by
 rw [h.sp]
 rcases Nat.eq_zero_or_pos g with h0|h0
 ·subst h0;rw [yM,if_pos rfl];omega
 ·rw [sS h0,if_neg om]
  have:3*p.cp*(g-1)+3*p.cp≤3*p.cp*(p.gp-1):=by
   rw [←Nat.mul_succ]
   exact Nat.mul_le_mul_left _ om
  omega
end
def dD (A:Option Addr) (c:Nat):Nat→Option Addr
 |0=>A
 |k+1=>if c-k=1 then dD A c k else (dD A c k).map (·.add (1*1))
def RS {B c:Nat} (h:Rd w B 1 A (abk q) (q.map bq)) (hc:abk q≤c):∀k,k≤abk q→Rd w B 1 (dD A c k) (abk q-k) ((q.drop k).map bq)
 |0,_=>h
 |k+1,a=>by
  have h1:=RS h hc k om
  have h2:=h1.mid (i:=1) (j:=abk q-k) (c:=c-k) om (abo _) om
  simp only [ac5] at h2
  rw [←afZ,←aeW,abI (by rw [abH];omega),ac3] at h2
  rw [show abk q- (k+1)=abk q-k-1 by omega]
  exact h2
theorem zjt {B c k m oS:Nat} (h:Rd w B 1 A (abk q) (q.map bq)) (hc:abk q≤c) (hk:k<abk q) (a:dD A c k=some ⟨m,oS,none⟩):w.cell? ⟨m,oS,none⟩=some (.int .u64 (q.getD k 0:Int)):=by
 have h1:=RS h hc k om
 rw [a] at h1
 have h2:=h1.EJ (k:=0) (xI (F:=bq) (x:=q.getD k 0) (by rw [acO,abn,acL,abt hk];rfl))
 rwa [Nat.zero_mul,acL] at h2
theorem Mh (x:Nat):bE x=((x:Int)+9223372036854775808)%18446744073709551616-9223372036854775808:=by unfold bE;rw [aen]
theorem D8 (h:x<18446744073709551616):aH (bE x)=x:=by rw [Mh];unfold aH;omega
theorem zgs (h:x<18446744073709551616) (h0:0≤bE x):bE x=x:=by rw [Mh] at*;omega
theorem RU (h:x≤4611686018427387904):bE x=x:=by rw [Mh];omega
theorem qw8 {a:Int} (h:x<18446744073709551616):aH (Go.IntKind.i64.wrap (a+bE x)-a)=x:=by rw [aen,Mh];unfold aH;omega
def Pr.mR (p:Pr):Nat→Int
 |0=>0
 |i+1=>Go.IntKind.i64.wrap (p.mR i+bE (p.tn i 0))
def Pr.mH (p:Pr) (i:Nat):Tk:=⟨p.mR (i+1),bE (p.tn i 1),bE (p.tn i 2),bE (p.tn i 3),p.tn i 4,decide (0<p.tn i 5),p.tn i 6,p.tn i 7%4294967296⟩
def Pr.jL (p:Pr):cO:=⟨bE p.nx,⟨(p.cp:Int),p.cr,none,0,bQ p.gp p.iq,none,0,p.cl.map bE,none,0,p.cu.map bE,none,0,bQ p.tk p.mH,none,0,bQ p.gp λg=>⟨none,0,p.row g⟩⟩⟩
theorem zdb (p:Pr) (i:Nat):p.rM (i+1)=if 65535<p.lH i then 65535 else p.lH i:=rfl
theorem Hf {p:Pr}:∀i,(∀j,j<i→p.lH j≤65535)→p.rM i=p.mR i
 |0,_=>rfl
 |i+1,h=>by
  have h1:=Hf i λj a=>h j om
  have h2:=h i om
  rw [zdb,if_neg om]
  unfold Pr.lH
  rw [h1]
  rfl
def Hg {p:Pr}:∀i,(∀j,j<i→p.mR (j+1)≤65535)→p.rM i=p.mR i
 |0,_=>rfl
 |i+1,h=>by
  have h1:=Hg i λj a=>h j om
  have h2:=h i om
  have h3:p.lH i=p.mR (i+1):=by unfold Pr.lH;rw [h1];rfl
  rw [zdb,if_neg om,h3]
theorem Ag {p:Pr} (h:p.rM i=p.mR i):p.lH i=p.mR (i+1):=by unfold Pr.lH;rw [h];rfl
theorem RV (l:List α) (o:Nat→Nat) (h0:o 0=0) (a:∀i,o i≤o (i+1)):∀k,(dW k λi=>(l.drop (o i)).take (o (i+1)-o i))=l.take (o k)
 |0=>by rw [BH,h0,List.take_zero]
 |k+1=>by
  rw [q5,RV l o h0 a k,←List.take_add]
  congr 1
  have:=a k
  omega
theorem zgt (l:List Nat):∀(m a:Nat),a+m≤abk l→(l.drop a).take m=(ac4 m).map λj=>l.getD (a+j) 0:=by intro x;induction x<;>grind [abt,agw,adX]
theorem tQ {f g:Nat→List α} (h:∀i,i<k→f i=g i):dW k f=dW k g:=Li k h
theorem Mi (h:abk l=m*k):l=dW k λi=>(ac4 m).map λj=>l.getD (m*i+j) 0:=by
 have h1:=RV l (λi=>m*i) rfl (λi=>by show m*i≤m*(i+1);rw [aeC];omega) k
 rw [abI (show abk l≤m*k by omega)] at h1
 refine h1.symm.trans (tQ λi hi=>?_)
 show (l.drop (m*i)).take (m*(i+1)-m*i)=_
 have h2:m*(i+1)≤m*k:=af7 _ hi
 grind [zgt]
theorem Mj {f g:Nat→List α}:∀k,(∀i,i<k→abk (f i)=abk (g i))→dW k f=dW k g→∀i,i<k→f i=g i:=by intro x;induction x<;>grind [dW,q5,adr,adw,abm,acj]
theorem D9 {f g:Nat→List α}:∀k,(∀i,i<k→abk (f i)=abk (g i))→abk (dW k f)=abk (dW k g)
 |0,_=>rfl
 |k+1,h=>by rw [q5,q5,abm,abm,D9 k (λi hi=>h i om),h k om]
def Pr.sec (p:Pr):Nat→List Nat
 |0=>[p.nx]
 |1=>[p.cp,p.cr,p.gp]
 |2=>p.gs
 |3=>p.cl
 |4=>p.cu
 |5=>p.tk::p.ts
 |6=>p.sp
 |_=>[]
theorem qw9 (p:Pr):p.nums=dW 7 p.sec:=by simp_all [Pr.nums,Pr.sec,q5,BH]
structure Pr.Low (p:Pr):Prop where
 t5:∀i,i<p.tk→p.tn i 5≤1
 t7:∀i,i<p.tk→p.tn i 7≤4294967295
 s1:∀g,g<p.gp→0<g→∀c,c<p.cp→p.sn g c 1≤4294967295
section
variable {p:Pr}
def zju (x:Nat) (h:x∈p.gs):x∈p.nums:=by simp [Pr.nums,h]
def zdc (x:Nat) (h:x∈p.cl):x∈p.nums:=by simp [Pr.nums,h]
def zdd (x:Nat) (h:x∈p.cu):x∈p.nums:=by simp [Pr.nums,h]
def zjv (x:Nat) (h:x∈p.ts):x∈p.nums:=by simp [Pr.nums,h]
def zjw (x:Nat) (h:x∈p.sp):x∈p.nums:=by simp [Pr.nums,h]
theorem Hl (h:∀x∈l,x<n) (a:0<n) (k:Nat):l.getD k 0<n:=by grind [abt,adg,List.getElem_mem,acj]
variable (h:p.Fit)
include h
theorem vK (k:Nat):p.gs.getD k 0<18446744073709551616:=Hl (λx a=>h.lt x (zju x a)) de k
theorem Ho (k:Nat):p.cl.getD k 0<18446744073709551616:=Hl (λx a=>h.lt x (zdc x a)) de k
theorem Ah (k:Nat):p.cu.getD k 0<18446744073709551616:=Hl (λx a=>h.lt x (zdd x a)) de k
theorem iF (i j:Nat):p.tn i j<18446744073709551616:=Hl (λx a=>h.lt x (zjv x a)) de _
theorem vL (g c j:Nat):p.sn g c j<18446744073709551616:=Hl (λx a=>h.lt x (zjw x a)) de _
theorem Ai:p.nx<18446744073709551616:=h.lt _ (by simp [Pr.nums])
theorem vM:p.cr<18446744073709551616:=h.lt _ (by simp [Pr.nums])
theorem za6:p.gs=dW (p.gp-1) λi=>[p.gs.getD (2*i) 0,p.gs.getD (2*i+1) 0]:=Mi h.gs
theorem RX:p.ts=dW p.tk λi=>[p.tn i 0,p.tn i 1,p.tn i 2,p.tn i 3,p.tn i 4,p.tn i 5,p.tn i 6,p.tn i 7]:=Mi h.ts
theorem zjx (d:g<p.gp):(p.sp.drop (p.so g 0)).take (p.so (g+1) 0-p.so g 0)=dW p.cp λc=>if g=0 then [p.sn g c 0] else [p.sn g c 0,p.sn g c 1,p.sn g c 2]:=by
 have hs:=h.sp
 rcases acn g with h0|h0
 ·subst h0
  have e1:p.so (0+1) 0=p.cp:=by rw [Mg,yM]
  rw [e1,yM,Nat.sub_zero,List.drop_zero]
  have a:abk (p.sp.take p.cp)=1*p.cp:=by rw [abu];omega
  refine (Mi a).trans (tQ λc hc=>?_)
  rw [if_pos rfl]
  show [(p.sp.take p.cp).getD (1*c+0) 0]=[p.sp.getD (p.so 0 c+0) 0]
  rw [yM,abn,abn,afl om,Nat.one_mul]
 ·have e1:p.so (g+1) 0=p.so g 0+3*p.cp:=by rw [Mg,sS h0,sS h0,Nat.mul_zero,acL]
  have b:p.so g 0+3*p.cp≤abk p.sp:=by
   rw [sS h0,hs]
   have:3*p.cp*(g-1)+3*p.cp≤3*p.cp*(p.gp-1):=by
    rw [←aeC]
    exact af7 _ om
   omega
  rw [e1,acN]
  have a:abk ((p.sp.drop (p.so g 0)).take (3*p.cp))=3*p.cp:=by rw [abu,abH];omega
  refine (Mi a).trans (tQ λc hc=>?_)
  rw [if_neg om]
  have e2:∀j,j<3→((p.sp.drop (p.so g 0)).take (3*p.cp)).getD (3*c+j) 0=p.sn g c j:=λj e=>by
   unfold Pr.sn
   rw [abn,abn,afl om,acO,sS h0,sS h0]
   congr 2
   omega
  show [((p.sp.drop (p.so g 0)).take (3*p.cp)).getD (3*c+0) 0,((p.sp.drop (p.so g 0)).take (3*p.cp)).getD (3*c+1) 0,((p.sp.drop (p.so g 0)).take (3*p.cp)).getD (3*c+2) 0]=_
  rw [e2 0 om,e2 1 om,e2 2 om]
theorem RY:p.sp=dW p.gp λg=>dW p.cp λc=>if g=0 then [p.sn g c 0] else [p.sn g c 0,p.sn g c 1,p.sn g c 2]:=by
 have h1:=RV p.sp (λg=>p.so g 0) (yM p 0) (λg=>by
  show p.so g 0≤p.so (g+1) 0
  rw [Mg]
  rcases acn g with h0|h0
  ·subst h0;rw [yM];omega
  ·rw [sS h0,sS h0];omega) p.gp
 have h2:p.so p.gp 0=abk p.sp:=by rw [sS h.gp1,h.sp];omega
 rw [h2,adn] at h1
 exact h1.symm.trans (tQ λg a=>zjx h a)
end
theorem Hq (p:Pr) {i:Nat} (hi:i≤p.tk):qo (bQ p.tk p.mH) i=p.mR i:=by
 cases i with
 |zero=>rfl
 |succ i=>rw [qc1,Cv om];rfl
theorem yN {p:Pr} (h:p.Fit):(∀i,i<7→abk (aG p.jL i)=abk (p.sec i))∧((∀i,i<7→aG p.jL i=p.sec i)↔p.Low):=by
 have k:aG p.jL 2=p.gs:=by
  show dW (abk (bQ p.gp p.iq)-1) (tK (bQ p.gp p.iq))=p.gs
  grind [Pr.iq,tK,vK,za6,Cv,qV,D8,tQ]
 have hm:∀l:List Nat,(∀x∈l,x<18446744073709551616)→(l.map bE).map aH=l:=λl a=>by
  rw [aey]
  exact (afX λx b=>D8 (a x b)).trans (List.map_id l)
 have f:aG p.jL 5=p.tk::dW p.tk λi=>[p.tn i 0,p.tn i 1,p.tn i 2,p.tn i 3,p.tn i 4,if decide (0<p.tn i 5)=true then 1 else 0,p.tn i 6,p.tn i 7%4294967296]:=by
  show (abk (bQ p.tk p.mH)::dW (abk (bQ p.tk p.mH)) λi=>l8 (qo (bQ p.tk p.mH) i) ((bQ p.tk p.mH).getD i Tk.zero))=_
  rw [qV]
  congr 1
  refine tQ λi hi=>?_
  rw [Hq p om,Cv hi]
  show [aH (Go.IntKind.i64.wrap (p.mR i+bE (p.tn i 0))-p.mR i),aH (bE (p.tn i 1)),aH (bE (p.tn i 2)),aH (bE (p.tn i 3)),_,_,_,_]=_
  rw [qw8 (iF h i 0),D8 (iF h i 1),D8 (iF h i 2),D8 (iF h i 3)]
  rfl
 have j:aG p.jL 6=dW p.gp λg=>dW p.cp λc=>if g=0 then [p.sn g c 0] else [p.sn g c 0,p.sn g c 1%4294967296,p.sn g c 2]:=by
  show (dW (abk (bQ p.gp λg=>(⟨none,0,p.row g⟩:Rw))) λg=>nA g ((bQ p.gp λg=>(⟨none,0,p.row g⟩:Rw)).getD g Rw.zero).l)=_
  rw [qV]
  refine tQ λg e=>?_
  rw [Cv e]
  show dW (abk (p.row g)) (λc=>mO g ((p.row g).getD c Sp.zero))=_
  grind [Pr.row,Pr.qW,Cv,qV,Pz,La,tQ]
 have h0:aG p.jL 0=p.sec 0:=by show [aH (bE p.nx)]=[p.nx];rw [D8 (Ai h)]
 have h1:aG p.jL 1=p.sec 1:=by
  show [aH (p.cp:Int),p.cr,abk (bQ p.gp p.iq)]=[p.cp,p.cr,p.gp]
  have:=h.cp2
  rw [qV,X7 om]
 have h3:aG p.jL 3=p.sec 3:=hm p.cl λx b=>h.lt x (zdc x b)
 have h4:aG p.jL 4=p.sec 4:=hm p.cu λx b=>h.lt x (zdd x b)
 constructor
 ·intro i hi
  match i,hi with
  |0,_=>rw [h0]
  |1,_=>rw [h1]
  |2,_=>rw [k];rfl
  |3,_=>rw [h3]
  |4,_=>rw [h4]
  |5,_=>
   rw [f]
   refine congrArg (· +1) (af8 ?_ (congrArg adw (RX h).symm))
   exact D9 p.tk λi _=>rfl
  |6,_=>
   rw [j]
   refine af8 ?_ (congrArg adw (RY h).symm)
   exact D9 p.gp λg _=>D9 p.cp λc _=>by split<;>rfl
 ·constructor
  ·intro m
   have e5:=m 5 om
   have e6:=m 6 om
   rw [f] at e5
   rw [j] at e6
   replace e5:=(List.cons.inj e5).2
   rw [RX h] at e5
   replace e6:_=p.sp:=e6
   rw [RY h] at e6
   have n:=Mj p.tk (λi _=>by rfl) e5
   have o:=Mj p.gp (λg _=>D9 p.cp λc _=>by split<;>rfl) e6
   refine ⟨λi hi=>?_,λi hi=>?_,λg e d c hc=>?_⟩
   ·grind
   ·grind
   ·grind [Mj]
  ·intro a i hi
   match i,hi with
   |0,_=>exact h0
   |1,_=>exact h1
   |2,_=>exact k
   |3,_=>exact h3
   |4,_=>exact h4
   |5,_=>
    rw [f]
    show _=p.tk::p.ts
    congr 1
    refine af8 (tQ λi hi=>?_) (RX h).symm
    have q:=a.t5 i hi
    have r:=a.t7 i hi
    grind
   | 6, _ =>
    rw [j]
    refine af8 (tQ λg e=>tQ λc hc=>?_) (RY h).symm
    rcases acn g with d|d
    ·rw [if_pos d,if_pos d]
    ·have:=a.s1 g e d c hc
     grind
theorem Aj {p:Pr} (h:p.Fit):dX p.jL=p.nums↔p.Low:=by
 rw [qw9]
 exact ⟨λe=>(yN h).2.1 (Mj 7 (yN h).1 e),λe=>tQ ((yN h).2.2 e)⟩
theorem oM (h:x≤m):dle x m=true:=decide_eq_true h
theorem zde (h:dle x m=true):x≤m:=of_decide_eq_true h
section
variable {p:Pr}
theorem zjy {b:Bool}:∀k,p.lI b g k=true→b=true∧(0<g→∀c,c<k→p.sn g c 1≤4294967295):=by intro x;induction x<;>grind [Pr.lI,zde]
theorem zdf:∀k,p.mG k=true→p.jB p.tk=true∧∀g,g<k→0<g→∀c,c<p.cp→p.sn g c 1≤4294967295
 |0,h=>⟨h,λg a=>by omega⟩
 |k+1,h=>by
  obtain ⟨h1,h2⟩:=zjy p.cp h
  obtain ⟨h3,h4⟩:=zdf k h1
  grind
theorem zjz:∀k,p.jB k=true→∀i,i<k→p.tn i 5≤1∧p.tn i 7≤4294967295∧p.lH i≤65535:=by intro x;induction x<;>grind [Pr.jB,zde]
theorem q53 (h:p.okB=true):p.Low∧∀i,i<p.tk→p.lH i≤65535:=by
 obtain ⟨h1,h2⟩:=zdf p.gp h
 have h3:=zjz p.tk h1
 exact ⟨⟨λi hi=>(h3 i hi).1,λi hi=>(h3 i hi).2.1,h2⟩,λi hi=>(h3 i hi).2.2⟩
theorem Ak (h:p.Low) (h2:∀i,i≤p.tk→p.rM i=p.mR i):p.qD=p.jL:=by
 have e:bQ p.tk p.sQ=bQ p.tk p.mH:=by
  unfold bQ
  refine afX λi hi=>?_
  rw [afF] at hi
  unfold Pr.sQ Pr.mH
  rw [Ag (h2 i om),show decide (p.tn i 5=1)=decide (0<p.tn i 5) from decide_eq_decide.2 (by have:=h.t5 i hi;omega)]
 unfold Pr.qD Pr.jL
 rw [e]
end
section
variable {p:Pr} (h:p.Fit)
include h
theorem zdg (a:p.nx≤aA):p.ok0=true:=by
 unfold Pr.ok0
 have h1:=h.cp2
 have h2:=h.G9
 have h3:=vM h
 unfold aA at*
 rw [oM a,oM (show p.cp≤4611686018427387904 by omega),oM (show p.cr≤18446744073709551615 by omega),oM (show p.gp≤4611686018427387904 by omega)]
 rfl
theorem zdh (a:p.nx≤aA) (b:∀i,i<2*(p.gp-1)→p.gs.getD i 0≤aA):∀k,k≤p.gp→p.oL k=true
 |0,_=>zdg h a
 | k + 1, c => by
  rw [Pr.oL]
  split
  ·exact zdg h a
  ·rw [zdh a b k om,oM (b _ om),oM (b _ om)]
   rfl
end
section
variable {p:Pr}
theorem zj0 (h0:p.oL p.gp=true) (hc:∀i,i<p.cp→p.cl.getD i 0≤aA):∀k,k≤p.cp→p.yL k=true:=by intro x;induction x<;>grind [Pr.yL,oM]
theorem zj1 (h0:p.yL p.cp=true) (hc:∀i,i<p.cp→p.cu.getD i 0≤aA):∀k,k≤p.cp→p.vJ k=true:=by intro x;induction x<;>grind [Pr.vJ,oM]
theorem zdi (h:p.Fit) (h0:p.vJ p.cp=true) (a:p.Low) (ht:∀i,i<p.tk→p.tn i 0≤aA∧p.tn i 1≤aA∧p.tn i 2≤aA∧p.tn i 3≤aA) (hi:∀i,i<p.tk→p.lH i≤65535):∀k,k≤p.tk→p.jB k=true
 |0,_=>by
  rw [Pr.jB,h0,oM (by have:=h.tk;unfold aA;omega)];rfl
 |k+1,f=>by
  obtain ⟨b,c,d,e⟩:=ht k om
  have g:=iF h k 4
  have j:=iF h k 6
  rw [Pr.jB,zdi h h0 a ht hi k om,oM b,oM c,oM d,oM e,oM (show p.tn k 4≤18446744073709551615 by omega),oM (a.t5 k om),oM (show p.tn k 6≤18446744073709551615 by omega),oM (a.t7 k om),decide_eq_true (hi k om)]
  rfl
theorem zj2 (h:p.Fit) {b:Bool} (hb:b=true) {g:Nat} (a:0<g→∀c,c<p.cp→p.sn g c 1≤4294967295):∀k,k≤p.cp→p.lI b g k=true:=by intro x;induction x<;>grind [Pr.lI,oM,vL]
def zdj (h:p.Fit) (h0:p.jB p.tk=true) (a:p.Low):∀k,k≤p.gp→p.mG k=true
 |0,_=>h0
 |k+1,d=>zj2 h (zdj h h0 a k om) (λb c hc=>a.s1 k om b c hc) p.cp (abo _)
end
def RZ (x:Int):aQ (Go.IntKind.i64.wrap x):=by rw [aen];unfold aQ;omega
def yO (x:Nat):aQ (bE x):=RZ _
def Ea {f:Nat→α} {q:α→Prop} (h:∀i,i<n→q (f i)):∀x∈bQ n f,q x:=by
 intro x a
 obtain ⟨i,hi,rfl⟩:=acd.1 a
 exact h i (afF.1 hi)
section
variable {p:Pr} (h:p.Fit)
include h
theorem zdk (g:Nat):(p.iq g).Ok:=by
 unfold Pr.iq
 split
 ·exact ⟨by unfold aQ;decide,by unfold aQ;decide⟩
 ·exact ⟨yO _,yO _⟩
theorem zj3 (g c:Nat):(p.qW g c).Ok:=by
 have a:=vL h g c 0
 have b:=vL h g c 2
 unfold Pr.qW
 split
 ·exact ⟨show 0<18446744073709551616 by decide,show 0<4294967296 by decide,a⟩
 ·exact ⟨a,adA _ de,b⟩
theorem Al:aQ (p.cp:Int):=by have:=h.cp2;unfold aQ;omega
theorem Mk (l:List Nat):∀x∈l.map bE,aQ x:=by
 intro x a
 obtain ⟨y,_,rfl⟩:=acd.1 a
 exact yO y
theorem rows_ok:∀l∈(bQ p.gp λg=>(⟨none,0,p.row g⟩:Rw)).map aeI,∀x∈l,Sp.Ok x:=by
 intro l a
 obtain ⟨y,b,rfl⟩:=acd.1 a
 obtain ⟨g,_,rfl⟩:=acd.1 b
 exact Ea λc _=>zj3 h g c
theorem zgu (i:Nat):(p.sQ i).Ok:=⟨RZ _,yO _,yO _,yO _,iF h i 4,iF h i 6,adA _ de⟩
theorem zgv (i:Nat):(p.mH i).Ok:=⟨RZ _,yO _,yO _,yO _,iF h i 4,iF h i 6,adA _ de⟩
theorem zdl:p.qD.st.av.Ok:=⟨Al h,vM h,Ea λg _=>zdk h g,Mk h _,Mk h _,Ea λi _=>zgu h i,rows_ok h⟩
theorem zj4:p.jL.st.av.Ok:=⟨Al h,vM h,Ea λg _=>zdk h g,Mk h _,Mk h _,Ea λi _=>zgv h i,rows_ok h⟩
theorem Ml (a:abk l=n) (b:n≤1000000):abk (l.map bE)≤1000000:=by rw [abv];omega
theorem qxa:∀y∈bQ p.gp λg=>(⟨none,0,p.row g⟩:Rw),abk y.l≤1000000:=Ea λg _=>by
 have:=h.cp2
 show abk (p.row g)≤1000000
 unfold Pr.row
 rw [qV]
 omega
theorem R3 (s:cO) (hs:s=p.qD∨s=p.jL):bP s.st:=by
 have h1:=h.cp2
 have h2:=h.G9
 have h3:=h.tk
 rcases hs with rfl|rfl
 ·exact ⟨by show abk (bQ _ _)≤_;rw [qV];omega,Ml h h.cl om,Ml h h.cu om,by show abk (bQ _ _)≤_;rw [qV];omega,by show abk (bQ _ _)≤_;rw [qV];omega,qxa h⟩
 ·exact ⟨by show abk (bQ _ _)≤_;rw [qV];omega,Ml h h.cl om,Ml h h.cu om,by show abk (bQ _ _)≤_;rw [qV];omega,by show abk (bQ _ _)≤_;rw [qV];omega,qxa h⟩
end
theorem q55 {p:Pr} (h:p.Fit) (hk:bJ p.jL=0) (r:p.Low):p.okB=true∧p.qD=p.jL:=by
 have z:=(xg hk).1
 have s:=(xg hk).2
 have d:=BP hk
 have e:aA=4611686018427387904:=rfl
 have big:∀{x:Nat} {n:Int},x<18446744073709551616→0≤bE x→bE x≤n→n≤4611686018427387904→x≤aA:=λ{x n} h1 h2 h3 h4=>by
  rw [zgs h1 h2] at h3;omega
 have E:abk p.jL.st.gs=p.gp:=qV _ _
 have F:abk p.jL.st.ts=p.tk:=qV _ _
 have t:abk p.jL.st.rs=p.gp:=qV _ _
 have u:∀g,g<p.gp→p.jL.st.gs.getD g Gr.zero=p.iq g:=λg v=>Cv v
 have b:∀i,i<p.tk→p.jL.st.ts.getD i Tk.zero=p.mH i:=λi hi=>Cv hi
 obtain ⟨G,H,_,m⟩:=lW d.cfg
 have w:p.nx≤aA:=big (Ai h) (by have:=z.1;show (0:Int)≤p.jL.next;omega) z.2 om
 have I:∀i,i<2*(p.gp-1)→p.gs.getD i 0≤aA:=λi hi=>by
  have v:i/2+1<p.gp:=by omega
  have h1:=(qp m).2.2.2 (i/2+1) om
  have h2:=KY h1 om
  have h3:=o8 m (g:=i/2+1) om
  unfold dS at h2
  rw [u _ v] at h2 h3
  unfold Pr.iq at h2 h3
  rw [if_neg om] at h2 h3
  rw [aej] at h2 h3
  dsimp only at h2 h3
  rcases Nat.mod_two_eq_zero_or_one i with h4|h4
  ·rw [show i=2*(i/2) by omega]
   exact big (n:=256) (vK h _) h2.1 (by have:=h2.2;have:=h.G9;show bE _≤256;omega) om
  ·rw [show i=2*(i/2)+1 by omega]
   exact big (vK h _) (by have:=h3.1;show 0≤bE _;omega) h3.2 om
 have c:∀(l:List Nat) (k:Nat),k<abk l→(l.map bE).getD k 0=bE (l.getD k 0):=λl k hk=>by
  grind
 have J:∀i,i<p.cp→p.cl.getD i 0≤aA:=λi hi=>by
  have o:=h.cl
  have h1:=d.cls i (by show i<abk (p.cl.map bE);rw [abv];omega)
  rw [show p.jL.st.cl.getD i 0=bE (p.cl.getD i 0) from c p.cl i om] at h1
  unfold gU at h1
  rw [decide_eq_true_eq] at h1
  exact big (Ho h _) h1.1 h1.2 om
 have q:∀i,i<p.tk→_:=λi hi=>Dx (d.tk i om)
 have f:∀i,i<p.tk→(1≤p.mR (i+1)∧p.mR (i+1)≤65535)∧p.tn i 1≤aA∧p.tn i 2≤aA∧p.tn i 3≤aA:=λi hi=>by
  have h1:=(q i hi).2
  rw [b i hi] at h1
  unfold dJ lV at h1
  simp only [abC,decide_eq_true_eq] at h1
  obtain ⟨⟨K,L,M,y,N,A⟩,⟨B,O⟩,_⟩:=h1
  rw [kU,t] at y
  have:=h.G9
  have:=h.cp2
  refine ⟨⟨K,L⟩,big (n:=256) (iF h i 1) M (by show bE _≤256;have y:bE (p.tn i 1)<p.gp:=y;omega) om,big (iF h i 2) (by have B:1≤bE (p.tn i 2):=B;omega) O om,big (n:=64) (iF h i 3) N (by have A:bE (p.tn i 3)<(p.cp:Int):=A;omega) om⟩
 have C:∀i,i≤p.tk→p.rM i=p.mR i:=λi hi=>Hg i λj D=>(f j om).1.2
 have P:∀i,i<p.tk→p.lH i≤65535:=λi hi=>by rw [Ag (C i om)];exact (f i hi).1.2
 have h0:∀i,i<p.tk→p.tn i 0≤aA:=λi hi=>by
  have h1:=(q i hi).1
  have h2:0≤p.mR i∧p.mR i<p.mR (i+1):=by
   rcases i with _|i
   ·have:=(f 0 hi).1.1
    exact ⟨afd _,by show (0:Int)<_;omega⟩
   ·have h3:=(f i om).1.1
    rw [aej,b i om,b (i+1) hi] at h1
    rcases h1 with h1|h1
    ·omega
    ·exact ⟨by omega,h1⟩
  have h3:=qw8 (a:=p.mR i) (iF h i 0)
  have h4:Go.IntKind.i64.wrap (p.mR i+bE (p.tn i 0))=p.mR (i+1):=rfl
  grind [aH]
 have Q:∀i,i<p.cp→p.cu.getD i 0≤aA:=λi hi=>by
  have R:=h.cu
  have o:i<abk p.jL.st.cu:=by show i<abk (p.cu.map bE);rw [abv];omega
  unfold kD at s
  rw [abC] at s
  have h1:=uM s.2 (i:=i) o
  rw [abC] at h1
  have h2:=h1.1
  unfold dV at h2
  have hz:p.jL.st.av.cu.getD i 0=bE (p.cu.getD i 0):=c p.cu i om
  rw [hz] at h2
  rw [adE,decide_eq_true_eq] at h2
  rcases h2 with h2|h2
  ·exact big (Ah h _) om (Int.le_of_eq h2) om
  ·split at h2
   ·rename_i j D
    obtain ⟨h3,h4⟩:=Pq D
    have h3:j<p.tk:=by have:j<abk p.jL.st.ts:=h3;omega
    rw [show p.jL.st.av.ts.getD j Tk.zero=p.mH j from b j h3] at h4
    have h5:=(f j h3).1
    have h4:p.mR (j+1)=bE (p.cu.getD i 0):=h4
    exact big (n:=65535) (Ah h _) om om om
   ·cases h2
 refine ⟨zdj h (zdi h (zj1 (zj0 (zdh h w I p.gp (abo _)) J p.cp (abo _)) Q p.cp (abo _)) r (λi hi=>⟨h0 i hi,(f i hi).2⟩) P p.tk (abo _)) r p.gp (abo _),Ak r C⟩
theorem q56 {p:Pr} (hb:p.okB=true):p.qD=p.jL:=by grind [Hf,q53,Ak]
theorem za7 {ys:List Nat} (a:∀x∈xs,x<18446744073709551616) (hy:∀x∈ys,x<18446744073709551616) (b:abk xs=abk ys) (h:xs.flatMap au=ys.flatMap au):xs=ys:=by
 have h1:=Ws xs [] a
 grind [Ws]
theorem R4 {p:Pr} (d:∀z∈l,z<256) (h:fC l= .ok p):15≤abk l∧abk l≤16777216∧p.Fit∧l=bA ([113,115,1]++p.nums.flatMap au):=by
 unfold fC at h
 split at h
 ·cases h
 rename_i h1
 split at h
 ·cases h
 rename_i h2
 split at h
 ·cases h
 rename_i h3
 split at h
 ·cases h
 rename_i h4
 split at h
 ·cases h
 rename_i h5
 have h4:l.getD 0 0=113∧l.getD 1 0=115:=afj h4
 have h5:l.getD 2 0=1:=afj h5
 have hs:zn l=true:=by cases hq:zn l with|true=>rfl|false=>exact absurd hq h3
 have f:abk (l.take (abk l-4))=abk l-4:=by rw [abu];omega
 obtain ⟨g,i⟩:=zgo om (λz hz=>d z (ach hz)) h
 refine ⟨by omega,by omega,g,?_⟩
 rw [←i]
 have e:([113,115,1]:List Nat)=(l.take (abk l-4)).take 3:=by
  rw [List.take_take,show min 3 (abk l-4)=3 by omega]
  match l,h1,h4,h5 with
  |a::b::c::r,_,h4,h5=>
   grind
  |[],h1,_,_=>exact absurd de h1
  |[_],h1,_,_=>exact absurd (by simp) h1
  |[_,_],h1,_,_=>exact absurd (by simp) h1
 rw [e,ab5,VO d hs]
def za8 {a:List Nat} (h:bA a=bA b):a=b:=by
 have h1:=congrArg adw h
 rw [uq,uq] at h1
 exact (adr h om).1
theorem q57 {p:Pr} (b:∀z∈l,z<256) (h:fC l= .ok p):(p.okB=true∧bJ p.qD=0)↔(bJ p.jL=0∧dh p.jL=l):=by
 obtain ⟨_,_,a,c⟩:=R4 b h
 constructor
 ·grind [dA,Aj,q53,q56,DF]
 ·rintro ⟨h1,h2⟩
  rw [DF h1] at h2
  have h3:=za8 (h2.trans c)
  unfold dA at h3
  have h4:=za7 (Ld (zj4 a) (R3 a _ (.inr rfl))) a.lt (by rw [qw9];exact D9 7 (yN a).1) (aft h3)
  grind [Aj,q55]
def oz (l:List Nat):Nat:=match fC l with
 | .ok p=>if p.okB=true∧bJ p.qD=0 then 0 else 347
 | .error k=>k
def vO:cO:=⟨0,⟨0,0,none,0,[],none,0,[],none,0,[],none,0,[],none,0,[]⟩⟩
def lJ (l:List Nat):cO:=match fC l with
 | .ok p=>if p.okB=true∧bJ p.qD=0 then p.qD else vO
 | .error _=>vO
section
variable {l:List Nat} {p:Pr} {k:Nat}
theorem vR (h:fC l= .error k):oz l=k∧lJ l=vO:=by unfold oz lJ;rw [h];exact ⟨rfl,rfl⟩
theorem Mq (h:fC l= .ok p) (h2:¬(p.okB=true∧bJ p.qD=0)):oz l=347∧lJ l=vO:=by unfold oz lJ;rw [h];exact ⟨if_neg h2,if_neg h2⟩
theorem R5 (h:fC l= .ok p) (h2:p.okB=true∧bJ p.qD=0):oz l=0∧lJ l=p.qD:=by unfold oz lJ;rw [h];exact ⟨if_pos h2,if_pos h2⟩
theorem zgw (a:∀z∈l,z<256) (h:fC l= .ok p) (h2:bJ p.jL=0∧dh p.jL=l):oz l=0∧lJ l=p.jL:=by
 have h3:=(q57 a h).2 h2
 rw [←q56 h3.1]
 exact R5 h h3
end
section
variable {a b:List Nat} {p q:Pr} {k:Nat} {X Y:List jo} {i:Nat}
end
theorem Mem.Cw (h:Mem W w []):Mem W w (iU vO.st):=((((h.nil 176 1).nil 232 8).nil 3 1).nil 3 1).nil 198 2
def qxb:fq vO.st:=⟨abo _,abo _,abo _,abo _,abo _,λy c=>by cases c⟩
def qr2 (s:cO):eU s s:=uZ rfl (qzc _)
def Mr (w:World) (er:Nat) (s:cO) (r:Ending) (c:World):Prop:=∃z:cO,r= .returned (.tuple #[.agg z.cells,.int .i64 (er:Int)])∧eU s z∧fq z.st∧Mem w c (iU z.st)
def R6 {s:cO} (h:er=k∧s=vO) (hr:r= .returned (.tuple #[.agg vO.cells,.int .i64 (k:Int)])) (c:Mem w W []):Mr w er s r W:=by
 obtain ⟨rfl,rfl⟩:=h
 exact ⟨vO,hr,qr2 _,qxb,c.Cw⟩
def q59 {s t z:cO} (h:er=0∧s=t) (hr:r= .returned (.tuple #[.agg z.cells,.int .i64 0])) (hz:eU t z) (hc:fq z.st) (c:Mem w W (iU z.st)):Mr w er s r W:=by
 obtain ⟨rfl,rfl⟩:=h
 exact ⟨z,hr,hz,hc,c⟩
theorem zdm {s z:cO} (h:eU s z) (c:s.st.av.Ok):z.st.av.Ok:=by rw [Lg (Lh h)];exact c
structure Pl where
 nx:Nat
 sn:Nat
 st:Nat
 en:Nat
deriving DecidableEq
def Pl.zero:Pl:=⟨0,0,0,0⟩
def Pl.cells (p:Pl):Array Value:= #[.int .i64 (p.nx:Int),.int .i64 (p.sn:Int),.int .i64 (p.st:Int),.int .i64 (p.en:Int)]
def j6 (p:Pl):List Value:=[.int .i64 (p.nx:Int),.int .i64 (p.sn:Int),.int .i64 (p.st:Int),.int .i64 (p.en:Int)]
theorem tT (p:Pl):abk (j6 p)=4:=rfl
def dF (b:List Nat) (p m:Nat):Nat:=bK m (b.drop p)
def bg (b:List Nat) (p:Nat):Nat:=p+(aB (b.drop p)).2.1
def eO (b:List Nat) (p m:Nat):Bool:=ji m (b.drop p)
section
variable {b:List Nat} {p m k last sum q s a:Nat} {l:List Pl}
theorem R7:dF b p m≤m:=zK _ _
def R8:p≤bg b p:=adZ _ _
theorem qc4 (h:p≤abk b):bg b p≤abk b:=by grind [bg,y8]
theorem Ms (hb:∀x∈b,x<256) (c:p≤abk b) (h:eO b p m=true):b.take (bg b p)=b.take p++au (dF b p m):=by
 obtain ⟨h1,h2⟩:=of_decide_eq_true h
 grind [bg,dF,bK,aB,Om]
def sU (b:List Nat) (p:Nat):Bool:=eO b p 4611686018427387904&& (eO b (bg b p) 16777216&&eO b (bg b (bg b p)) 16777216)
def rowP (b:List Nat) (p:Nat):Nat:=bg b (bg b (bg b p))
def kW (b:List Nat) (p:Nat):Nat:=dF b p 4611686018427387904
def kX (b:List Nat) (p:Nat):Nat:=dF b (bg b p) 16777216
def mI (b:List Nat) (p:Nat):Nat:=dF b (bg b (bg b p)) 16777216
def zgx (h:p≤abk b):rowP b p≤abk b:=qc4 (qc4 (qc4 h))
def jU (b:List Nat):Nat→Nat→Nat→Nat→Option (List Pl×Nat×Nat)
 |0,p,_,sum=>some ([],p,sum)
 | k + 1, p, last, sum => if sU b p = true ∧ last ≤ kW b p then
   (jU b k (rowP b p) (kW b p) (sum+kX b p+mI b p)).map λr=>(⟨kW b p,sum,sum+kX b p,sum+kX b p+mI b p⟩::r.1,r.2)
  else none
def kJ (b:List Nat) (ok:Bool) (k p last sum:Nat):Option (List Pl×Nat×Nat):=if ok=true then jU b k p last sum else none
theorem q6a:kJ b false k p last sum=none:=rfl
theorem Hr:kJ b true k p last sum=jU b k p last sum:=rfl
def Pl.up (a:Nat) (x:Pl):Pl:=⟨x.nx,x.sn+a,x.st+a,x.en+a⟩
def bW (b:List Nat):List Pl×Nat:=
 if 16777216<abk b then ([],3)
 else if ¬(b.take 3=[113,97,1]) then ([],410)
 else match kJ b (eO b 3 1024) (dF b 3 1024) (bg b 3) 0 0 with
  |none=>([],410)
  |some (l,p,s)=>if p+4≤abk b∧zn (b.take (p+4))=true∧p+4+s=abk b then (l.map (Pl.up (p+4)),0) else ([],410)
def za9 (h:16777216<abk b):bW b=([],3):=by unfold bW;rw [if_pos h]
def qxd (h:¬16777216<abk b) (h2:¬(b.take 3=[113,97,1])):bW b=([],410):=by unfold bW;rw [if_neg h,if_pos h2]
def R9 (h:¬16777216<abk b) (h2:b.take 3=[113,97,1]) (h3:kJ b (eO b 3 1024) (dF b 3 1024) (bg b 3) 0 0=none):bW b=([],410):=by unfold bW;rw [if_neg h,if_neg (λx=>x h2),h3]
theorem Sc (h:¬16777216<abk b) (h2:b.take 3=[113,97,1]) (h3:kJ b (eO b 3 1024) (dF b 3 1024) (bg b 3) 0 0=some (l,p,s)) (h4:¬(p+4≤abk b∧zn (b.take (p+4))=true∧p+4+s=abk b)):bW b=([],410):=by grind [bW]
theorem zdn (h:¬16777216<abk b) (h2:b.take 3=[113,97,1]) (h3:kJ b (eO b 3 1024) (dF b 3 1024) (bg b 3) 0 0=some (l,p,s)) (h4:p+4≤abk b∧zn (b.take (p+4))=true∧p+4+s=abk b):bW b=(l.map (Pl.up (p+4)),0):=by grind [bW]
def jM:Nat→Nat→List Pl→Nat→Prop
 |_,sum,[],s=>sum=s
 |last,sum,x::t,s=>(x.sn=sum∧x.sn≤x.st∧x.st≤x.en∧last≤x.nx∧x.nx≤4611686018427387904)∧jM x.nx x.en t s
theorem jM.le:∀{l:List Pl} {last sum s:Nat},jM last sum l s→sum≤s
 |[],_,_,_,h=>Nat.le_of_eq h
 |x::t,_,_,_,h=>by have:=jM.le h.2;have:=h.1;omega
theorem jM.mem:∀{l:List Pl} {last sum s:Nat},jM last sum l s→∀x∈l,sum≤x.sn∧x.sn≤x.st∧x.st≤x.en∧x.en≤s∧x.nx≤4611686018427387904
 |[],_,_,_,_=>λx c=>by cases c
 |y::t,_,_,_,h=>λx c=>by
  have h1:=h.1
  have h2:=jM.le h.2
  rcases abQ.1 c with rfl|c
  ·omega
  ·have:=jM.mem h.2 x c;omega
def yP (x:Pl):List Nat:=[x.nx,x.st-x.sn,x.en-x.st]
theorem qnh (hb:∀x∈b,x<256):∀(k p last sum:Nat) {l:List Pl} {q s:Nat},p≤abk b→jU b k p last sum=some (l,q,s)→abk l=k∧jM last sum l s∧p≤q∧q≤abk b∧b.take q=b.take p++(l.flatMap yP).flatMap au
 |0,p,last,sum,l,q,s,c,h=>by
  have h:some (([]:List Pl),p,sum)=some (l,q,s):=h
  injection h with h;injection h with h1 h;injection h with h2 h3
  subst h1 h2 h3
  exact ⟨rfl,rfl,abo _,c,by simp⟩
 | k + 1, p, last, sum, l, q, s, c, h => by
  rw [jU] at h
  split at h
  ·rename_i hc
   obtain ⟨d,e⟩:=hc
   obtain ⟨⟨u,v,w⟩,h1,h2⟩:=Option.map_eq_some_iff.1 h
   injection h2 with h2 h3;injection h3 with h3 h4
   dsimp only at h2 h3 h4
   subst h2 h3 h4
   obtain ⟨f,g,i,j,n⟩:=qnh hb k _ _ _ (zgx c) h1
   unfold sU at d
   rw [abC,abC] at d
   have o:=Ms hb c d.1
   have r:=Ms hb (qc4 c) d.2.1
   have t:=Ms hb (qc4 (qc4 c)) d.2.2
   refine ⟨by rw [abX,f],⟨⟨rfl,adZ _ _,adZ _ _,e,R7⟩,g⟩,?_,j,?_⟩
   ·exact acS (acS R8 (acS R8 R8)) i
   ·rw [n]
    show b.take (bg b (bg b (bg b p)))++_=_
    rw [t,r,o,abL]
    unfold yP kW kX mI
    simp_all
  ·cases h
structure vT (b:List Nat) (L:List Pl):Prop where
 form:∃(l:List Pl) (p s:Nat),L=l.map (Pl.up (p+4))∧jM 0 0 l s∧p+4+s=abk b∧abk l≤1024∧b.take (p+4)=bA ([113,97,1]++(abk l::l.flatMap yP).flatMap au)
 few:abk b≤16777216
theorem qxe (hb:∀x∈b,x<256) {L:List Pl} (h:bW b=(L,0)):vT b L:=by
 unfold bW at h
 split at h
 ·injection h with _ h;cases h
 ·rename_i d
  split at h
  ·injection h with _ h;cases h
  ·rename_i c
   have c:b.take 3=[113,97,1]:=Classical.not_not.1 c
   split at h
   ·injection h with _ h;cases h
   ·rename_i l p s hi
    split at h
    ·rename_i hc
     obtain ⟨o,f,g⟩:=hc
     injection h with h _
     have h3:3≤abk b:=by
      grind
     have e:eO b 3 1024=true:=by
      grind [q6a,eO]
     rw [e,Hr] at hi
     obtain ⟨i,j,r,u,v⟩:=qnh hb _ _ _ _ (qc4 h3) hi
     have t:=Ms hb h3 e
     refine ⟨⟨l,p,s,h.symm,j,g,by rw [i];exact R7,?_⟩,by omega⟩
     have h5:=VO (l:=b.take (p+4)) (λx n=>hb x (ach n)) f
     grind
    ·injection h with _ h;cases h
end
def bT (b:List Nat) (i j:Nat):List Nat:=(b.take j).drop i
theorem Ht {j:Nat} (h:j≤abk b):abk (bT b i j)=j-i:=by grind [bT]
theorem Sd (h:∀x∈b,x<256) (i j:Nat):∀x∈bT b i j,x<256:=λx c=>h x (ach (abU c))
def kg (b:List Nat) (x:Pl):Nat:=
 if oz (bT b x.sn x.st)≠0 then oz (bT b x.sn x.st)
 else if (lJ (bT b x.sn x.st)).next≠(x.nx:Int) then 412
 else (readAll (bT b x.st x.en)).2
def zgy {x:Pl} (h:oz (bT b x.sn x.st)≠0):kg b x=oz (bT b x.sn x.st):=by unfold kg;rw [if_pos h]
def zgz {x:Pl} (h:oz (bT b x.sn x.st)=0) (h2:(lJ (bT b x.sn x.st)).next≠(x.nx:Int)):kg b x=412:=by unfold kg;rw [if_neg (λn=>n h),if_pos h2]
def q6b {x:Pl} (h:oz (bT b x.sn x.st)=0) (h2:(lJ (bT b x.sn x.st)).next=(x.nx:Int)):kg b x=(readAll (bT b x.st x.en)).2:=by unfold kg;rw [if_neg (λn=>n h),if_neg (λn=>n h2)]
structure Pv where
 s:cO
 bs:List Bk
def Pv.zero:Pv:=⟨vO,[]⟩
def ko:List Pv→Int→Nat→Int×Nat
 |[],_,_=>(-1,0)
 |x::t,last,i=>if bJ x.s≠0 then ((i:Int),bJ x.s) else if dN x.bs≠0 then ((i:Int),dN x.bs) else if x.s.next<last then ((i:Int),411) else ko t x.s.next (i+1)
def mU (l:List Pv):Int×Nat:=if 1024<abk l then (-1,5) else ko l 0 0
def jm (x:Pv):List Nat:=[aH x.s.next,abk (dh x.s),(zc x.bs).1.length]
def lK (l:List Pv) (i:Nat):List Nat:=abk l::(l.take i).flatMap jm
def pO (d:List Nat×Bool) (x:Pv):List Nat×Bool:=
 if (d.2||decide ((zc x.bs).2≠0)||decide (16777216<abk d.1+abk (dh x.s)+(zc x.bs).1.length))=true then (d.1,true) else (d.1++dh x.s++(zc x.bs).1,false)
def stA (l:List Pv):Nat→List Nat×Bool
 |0=>([],false)
 |i+1=>pO (stA l i) (l.getD i Pv.zero)
def headA (l:List Pv):List Nat:=bA ([113,97,1]++(lK l (abk l)).flatMap au)
def nK (l:List Pv):List Nat×Nat:=
 if (mU l).2≠0 then ([],(mU l).2)
 else if (stA l (abk l)).2=true∨16777216<abk (headA l)+(stA l (abk l)).1.length then ([],3)
 else (headA l++(stA l (abk l)).1,0)
theorem zj5 (c:∀z∈l,z<256) (h:oz l=0):bJ (lJ l)=0∧dh (lJ l)=l:=by
 cases ho:fC l with
 |error k=>
  rw [(vR ho).1] at h
  have:=RP ho
  omega
 | ok p =>
  by_cases h2:p.okB=true∧bJ p.qD=0
  ·grind [q57,zgw]
  ·rw [(Mq ho h2).1] at h
   cases h
structure Sg (b:List Nat) (L:List Pl) (l:List Pv):Prop where
 len:abk l=abk L
 s:∀i,i<abk L→eU (lJ (bT b (L.getD i Pl.zero).sn (L.getD i Pl.zero).st)) (l.getD i Pv.zero).s
 bs:∀i,i<abk L→(l.getD i Pv.zero).bs=(readAll (bT b (L.getD i Pl.zero).st (L.getD i Pl.zero).en)).1
section
variable {b:List Nat} {L:List Pl} {l:List Pv} {a:Nat}
def sV (a:Nat) (L:List Pl) (i:Nat):Nat:=match i with
 |0=>a
 |i+1=>(L.getD i Pl.zero).en
theorem jM.at:∀{l:List Pl} {last sum s i:Nat},jM last sum l s→i<abk l→(l.getD i Pl.zero).sn=sV sum l i∧(0<i→(l.getD (i-1) Pl.zero).nx≤(l.getD i Pl.zero).nx)∧(i=0→last≤(l.getD i Pl.zero).nx)
 |x::t,last,sum,s,0,h,_=>⟨h.1.1,λh=>absurd h (Nat.lt_irrefl 0),λ_=>h.1.2.2.2.1⟩
 | x :: t, last, sum, s, i + 1, h, hi => by
  have hi:i<abk t:=Nat.lt_of_succ_lt_succ hi
  obtain ⟨h1,h2,h3⟩:=jM.at h.2 hi
  refine ⟨?_,λ_=>?_,λh=>absurd h (Nat.succ_ne_zero i)⟩
  ·show (t.getD i Pl.zero).sn=_
   rw [h1]
   cases i with
   |zero=>rfl
   |succ i=>rfl
  ·grind
theorem jM.last:∀{l:List Pl} {last sum s:Nat},jM last sum l s→sV sum l (abk l)=s
 |[],_,_,_,h=>h
 |x::t,last,sum,s,h=>by
  have h1:=jM.last h.2
  rw [←h1]
  cases t with
  |nil=>rfl
  |cons y t=>rfl
theorem Mt (h:i<abk L):(L.map (Pl.up a)).getD i Pl.zero=(L.getD i Pl.zero).up a:=by grind
def q6c {s:Nat} (h:i≤abk L):sV (s+a) (L.map (Pl.up a)) i=sV s L i+a:=by
 cases i with
 |zero=>rfl
 |succ i=>show ((L.map (Pl.up a)).getD i Pl.zero).en=_;rw [Mt om];rfl
theorem zj6 (x:Pl):yP (x.up a)=yP x:=by grind [Pl.up,yP]
structure Si (b:List Nat) (L:List Pl) (a:Nat):Prop where
 sn:∀i,i<abk L→(L.getD i Pl.zero).sn=sV a L i∧(L.getD i Pl.zero).sn≤(L.getD i Pl.zero).st∧(L.getD i Pl.zero).st≤(L.getD i Pl.zero).en∧(L.getD i Pl.zero).en≤abk b∧(L.getD i Pl.zero).nx≤4611686018427387904
 nx:∀i,0<i→i<abk L→(L.getD (i-1) Pl.zero).nx≤(L.getD i Pl.zero).nx
 low:a≤abk b
 last:sV a L (abk L)=abk b
 few:abk L≤1024
 head:b.take a=bA ([113,97,1]++(abk L::L.flatMap yP).flatMap au)
theorem vT.at (h:vT b L):∃a,Si b L a:=by
 obtain ⟨l,p,s,rfl,hc,g,d,e⟩:=h.form
 have c:abk (l.map (Pl.up (p+4)))=abk l:=abv ..
 refine ⟨p+4,λi hi=>?_,λi h0 hi=>?_,by omega,?_,by rw [c];exact d,?_⟩
 ·rw [c] at hi
  have h1:=hc.at hi
  have h2:=hc.mem _ (qe Pl.zero hi)
  have h3:=q6c (a:=p+4) (s:=0) (L:=l) (i:=i) om
  grind [Pl.up,Mt]
 ·rw [c] at hi
  rw [Mt hi,Mt om]
  exact (hc.at hi).2.1 h0
 ·have h3:=q6c (a:=p+4) (s:=0) (L:=l) (i:=abk l) (abo _)
  rw [aco] at h3
  rw [c,h3,hc.last]
  omega
 ·rw [c,e]
  have h4:(l.map (Pl.up (p+4))).flatMap yP=l.flatMap yP:=by
   rw [aeY]
   exact congrArg (λf=>l.flatMap f) (funext λx=>zj6 x)
  rw [h4]
end
structure Pm where
 z:cO
 A:Option Addr
 c:Nat
 q:List Hb
def Pm.zero:Pm:=⟨vO,none,0,[]⟩
def Pm.v (p:Pm):Pv:=⟨p.z,p.q.map ac0⟩
def Pm.cells (p:Pm):Array Value:= #[.int .i64 p.z.next,.int .i64 p.z.st.ak,.int .u64 (p.z.st.aj:Int),.slice p.z.st.gA (abk p.z.st.gs) p.z.st.gc,.slice p.z.st.lA (abk p.z.st.cl) p.z.st.lc,.slice p.z.st.uA (abk p.z.st.cu) p.z.st.uc,.slice p.z.st.tA (abk p.z.st.ts) p.z.st.tc,.slice p.z.st.sA (abk p.z.st.rs) p.z.st.sc,.slice p.A (abk p.q) p.c]
def iB (p:Pm):List Value:=p.cells.toList
theorem qc5 (p:Pm):abk (iB p)=9:=rfl
structure dL (w:World) (p:Pm):Prop where
 st:eD w p.z.st
 bl:Rd w w.heap.size 5 p.A (abk p.q) (p.q.flatMap hbL)
 ev:nW w p.q
theorem dL.old {p:Pm} (h:dL W p) (a:Mem W w fs):dL w p:=⟨h.st.old a,a.old h.bl,h.ev.old a⟩
structure gq (p:Pm):Prop where
 ok:p.z.st.av.Ok
 few:bP p.z.st
 cap:fq p.z.st
 nx:aQ p.z.next
 Cx:∀h∈p.q,h.b.Ok
 Eb:∀h∈p.q,abk h.b.evs≤1000000
 len:abk p.q≤1000000
 pc:abk p.q≤p.c
def jV (p:Pm):List Fact:=iU p.z.st++(.row (.slice p.A (abk p.q) p.c) (abk p.q) (p.q.flatMap hbL) 85 5::gJ 73 p.q)
def dn (l:List Pm):List Fact:=l.flatMap jV
section
variable {W w w':World} {F T:List Fact} {p:Pm} {l:List Pm}
theorem Mem.yQ (h:Mem W w F) (hs:∀f∈jV p,f∈F):dL w p:=
 ⟨h.yu λf a=>hs f (acZ _ a),h.jQ (hs _ (acA _ (acB ..))),h.Fb λf a=>hs f (acA _ (ab2 _ a))⟩
theorem Mem.Am (h:Mem W w F) (hs:∀f∈dn l,f∈F):∀p∈l,dL w p:=λp a=>h.yQ λf b=>hs f (acK.2 ⟨p,a,b⟩)
theorem q6d:dn (l++[p])=dn l++jV p:=by unfold dn;rw [abO];simp
end
theorem bU:SI abl 53 9:=⟨by kernel_rfl,by kernel_rfl⟩
def pQ:EI abl 24 53 (.agg #[.int .i64 0,.int .i64 0,.int .u64 0,.slice none 0 0,.slice none 0 0,.slice none 0 0,.slice none 0 0,.slice none 0 0,.slice none 0 0]) 9 168:=⟨by kernel_rfl,by kernel_rfl,rfl,by omega⟩
theorem rO:SI abl 57 4:=⟨by kernel_rfl,by kernel_rfl⟩
theorem Ao:EI abl 35 57 (.agg #[.int .i64 0,.int .i64 0,.int .i64 0,.int .i64 0]) 4 32:=⟨by kernel_rfl,by kernel_rfl,rfl,by omega⟩
def zg0:SI abl 131 5:=⟨by kernel_rfl,by kernel_rfl⟩
theorem Ec (p:Pm):∀v∈p.cells.toList,v.oneCell'=true:=by
 intro v a
 simp only [Pm.cells,abQ,acy,or_false] at a
 rcases a with rfl|rfl|rfl|rfl|rfl|rfl|rfl|rfl|rfl<;>rfl
def zj7 (p:Pl):∀v∈p.cells.toList,v.oneCell'=true:=by
 intro v a
 simp only [Pl.cells,abQ,acy,or_false] at a
 rcases a with rfl|rfl|rfl|rfl<;>rfl
section
variable {l:List Pm} {i:Nat} {last:Int}
theorem Sj (h:i<abk l):ko ((l.map Pm.v).drop i) last i=if bJ (l.getD i Pm.zero).z≠0 then ((i:Int),bJ (l.getD i Pm.zero).z) else if dN ((l.getD i Pm.zero).q.map ac0)≠0 then ((i:Int),dN ((l.getD i Pm.zero).q.map ac0)) else if (l.getD i Pm.zero).z.next<last then ((i:Int),411) else ko ((l.map Pm.v).drop (i+1)) (l.getD i Pm.zero).z.next (i+1):=by
 rw [acu (by rw [abv];exact h),ko,afi,abn,abt h]
 rfl
theorem q6e:ko ((l.map Pm.v).drop (abk l)) last i=(-1,0):=by
 rw [adq (by rw [abv];exact abo _)]
 rfl
theorem Au {R:Int×Nat} {v n:Int} (h:R=(v,m)) (a:n=(m:Int)) (hb:Below w.heap.size w w'):Is w (.tuple #[.int .i64 R.1,.int .i64 (R.2:Int)]) (.returned (.tuple #[.int .i64 v,.int .i64 n])) w':=by
 subst h a
 exact ⟨rfl,hb⟩
end
theorem qxf (s:cO):abk (dh s)≤6000007:=by grind [bJ,BP,P7,Yq,DF]
section
variable {l:List Pm} {lv:List Pv} {i:Nat} {x:Pm} {d wb:List Nat} {lg:Bool} {we ce:Nat} {ci:Int}
theorem qux (hi:i<abk l) (c:l.getD i Pm.zero=x) (a:stA (l.map Pm.v) i=(d,lg)) (e:zc (x.q.map ac0)=(wb,we)) (h:lg=true∨we≠0∨16777216<abk d+abk (dh x.z)+abk wb):stA (l.map Pm.v) (i+1)=(d,true):=by grind [Pm.v,Pm.zero,Pv.zero,getD_at,stA,pO]
theorem zj8 (hi:i<abk l) (c:l.getD i Pm.zero=x) (a:stA (l.map Pm.v) i=(d,lg)) (e:zc (x.q.map ac0)=(wb,we)) (h:¬(lg=true∨we≠0∨16777216<abk d+abk (dh x.z)+abk wb)):stA (l.map Pm.v) (i+1)=(d++dh x.z++wb,false):=by grind [Pm.v,Pm.zero,Pv.zero,getD_at,stA,pO]
def bS (l:List Pm) (i:Nat):List Nat:=abk l::(l.take i).flatMap λp=>jm p.v
theorem q0g (hi:i<abk l) (a:l.getD i Pm.zero=x) (c:zc (x.q.map ac0)=(wb,we)):bS l (i+1)=bS l i++[aH x.z.next,abk (dh x.z),abk wb]:=by grind [Pm.v,Pm.zero,bS,dh,jm,xV,aH]
theorem q6f:bS l (abk l)=lK (l.map Pm.v) (abk (l.map Pm.v)):=by grind [bS,lK,aeY,abv,adn]
theorem Hu:∀i,i≤abk l→abk (bS l i)=1+3*i:=λi h=>by
 unfold bS
 rw [abX]
 have key:∀m:List Pm,abk (m.flatMap λp=>jm p.v)=3*abk m:=λm=>by
  induction m with
  |nil=>rfl
  |cons a t b=>rw [abL,abm,b,abX];show 3+_=_;omega
 grind
theorem q6g:0<abk ((bS l i).flatMap au):=by grind [bS,Fh]
theorem zba (h:abk l≤1000000):∀i,∀x∈bS l i,x<18446744073709551616:=λi x c=>by
 rcases abQ.1 c with rfl|c
 ·omega
 ·obtain ⟨p,_,a⟩:=acK.1 c
  have h1:=qxf p.z
  have h2:=KU (p.q.map ac0)
  rcases abQ.1 a with rfl|a
  ·exact BI _
  ·rcases abQ.1 a with rfl|a
   ·show abk (dh p.z)<_;omega
   ·grind [zc]
theorem qnj (h:mU lv=(ci,ce)) (a:ce≠0):nK lv=([],ce):=by unfold nK;rw [h];exact if_pos a
theorem qle (h:mU lv=(ci,ce)) (b:ce=0) (a:stA lv (abk lv)=(d,lg)) (c:lg=true∨16777216<abk (headA lv)+abk d):nK lv=([],3):=by grind [nK]
theorem q6h (h:mU lv=(ci,ce)) (b:ce=0) (a:stA lv (abk lv)=(d,lg)) (c:¬(lg=true∨16777216<abk (headA lv)+abk d)):nK lv=(headA lv++d,0):=by grind [nK]
end
def AA (W:World) (d e f:Nat) (b:List Nat) (A:Option Addr) (c p:Nat) (a:Bool) (most:Nat) (fr:List Fact) (r:Ending) (g:World):Prop:=
 r= .returned (.int .i64 (dF b p most:Int))∧Mem W g (.blk d #[.slice A (abk b) c] 30:: .blk e #[.int .i64 (bg b p:Int)] 3:: .blk f #[.bool (a&&eO b p most)] 4::fr)
theorem Tj {a d:Bool} {fr:List Fact} {q:Nat} (h1:bg b p=q) (h2:(a&&eO b p most)=d)
  (e:Mem W w (.blk m #[.slice A (abk b) c] 30:: .blk g #[.int .i64 (q:Int)] 3:: .blk n #[.bool d] 4::fr)):AA W m g n b A c p a most fr (.returned (.int .i64 (dF b p most:Int))) w:=by
 subst h1 h2
 exact ⟨rfl,e⟩
section
variable {b:List Nat} {p k last sum i K p0:Nat} {ok ok0 o1 o2 o3:Bool} {out:List Pl}
def gM (b:List Nat) (ok0:Bool) (K p0:Nat) (ok:Bool) (k p last sum:Nat) (out:List Pl):Prop:=kJ b ok0 K p0 0 0=(kJ b ok k p last sum).map λr=>(out++r.1,r.2)
def zg7:gM b ok0 K p0 ok0 K p0 0 0 []:=by
 unfold gM
 cases kJ b ok0 K p0 0 0<;>rfl
def lM (b:List Nat) (p sum:Nat):Pl:=⟨kW b p,sum,sum+kX b p,sum+kX b p+mI b p⟩
theorem gM.step (h:gM b ok0 K p0 ok (k+1) p last sum out) (a:(((ok&&eO b p 4611686018427387904)&&eO b (bg b p) 16777216)&&eO b (bg b (bg b p)) 16777216)=true) (c:last≤kW b p):gM b ok0 K p0 true k (rowP b p) (kW b p) (sum+kX b p+mI b p) (out++[lM b p sum]):=by
 rw [ad2,ad2,abC] at a
 unfold gM at h⊢
 rw [h,a.1,Hr,Hr,jU,if_pos ⟨by unfold sU;rw [←ad2];rw [←ad2] at a;exact a.2,c⟩,Option.map_map]
 congr 1
 funext r
 show (out++(_::r.1),r.2)=((out++[_])++r.1,r.2)
 rw [abz]
 rfl
theorem gM.stop (h:gM b ok0 K p0 ok (k+1) p last sum out) (a:¬((((ok&&eO b p 4611686018427387904)&&eO b (bg b p) 16777216)&&eO b (bg b (bg b p)) 16777216)=true∧last≤kW b p)):kJ b ok0 K p0 0 0=none:=by
 unfold gM at h
 rw [h]
 cases ok with
 |false=>rfl
 | true =>
  rw [Hr,jU,if_neg]
  ·rfl
  ·rintro ⟨h1,h2⟩
   refine a ⟨?_,h2⟩
   unfold sU at h1
   rw [acF,ad2]
   exact h1
theorem gM.fin (h:gM b ok0 K p0 true 0 p last sum out):kJ b ok0 K p0 0 0=some (out,p,sum):=by grind [gM,Hr,jU]
theorem gM.bad (h:gM b ok0 K p0 false k p last sum out):kJ b ok0 K p0 0 0=none:=by
 unfold gM at h
 rw [h,q6a]
 rfl
def zg8:kW b p≤4611686018427387904:=zK _ _
def zg9:kX b p≤16777216:=zK _ _
def zha:mI b p≤16777216:=zK _ _
end
def Eh (w:World) (R:List Pl×Nat) (r:Ending) (a:World):Prop:=
 (∃A c,r= .returned (.tuple #[.slice A (abk R.1) c,.int .i64 (R.2:Int)])∧a.ownsRow w.heap.size 57 4 (.slice A (abk R.1) c) (abk R.1) (R.1.flatMap j6)∧abk R.1≤c)∧Below w.heap.size w a
def yV {R:List Pl×Nat} {n:Int} (hb:Below w.heap.size w W) (a:R=([],er)) (c:n=er):Eh w R (.returned (.tuple #[.slice none 0 0,.int .i64 n])) W:=by
 subst a c
 exact ⟨⟨none,0,rfl,acQ _ _ _ _,abo _⟩,hb⟩
def q6v {R:List Pl×Nat} {L:List Pl} (a:R=(L,0)) (d:n=abk L) (e:W.ownsRow w.heap.size 57 4 (.slice A n c) n (L.flatMap j6)) (hc:n≤c) (hb:Below w.heap.size w W):Eh w R (.returned (.tuple #[.slice A n c,.int .i64 0])) W:=by
 subst a d
 exact ⟨⟨A,c,rfl,e,hc⟩,hb⟩
def Pl.yX (a:Nat) (x:Pl):Pl:={x with sn:=x.sn+a}
def Pl.CW (a:Nat) (x:Pl):Pl:={x with sn:=x.sn+a,st:=x.st+a}
theorem q6w {f:Pl→Pl} {l:List Pl} (h:abk l≤k):fH f l k=l.map f:=by grind [fH,adq,abI]
def vZ (W:World) (g p:Nat) (A:Option Addr) (c:Nat) (b q:List Nat) (h:Value) (fs:List Fact) (r:Ending) (d:World):Prop:=
 (∃x e f a,bF b p x e∧r= .returned (vQ x)∧abk (q++[x])≤a∧Mem W d (.blk g #[.slice A (abk b) c,vI e,.slice f (abk (q++[x])) a,h] 300:: .row (.slice f (abk (q++[x])) a) (abk (q++[x])) ((q++[x]).map bq) 41 1::fs))∨((aB (b.drop p)).2.2≠0∧kI W fs (qC fZ 344) r d)
def zbe (h:(aB (b.drop p)).2.2≠0) (a:kI W fs (qC fZ 344) r w):vZ W g p A c b q z fs r w:= .inr ⟨h,a⟩
theorem zbf (h:bF b p x e) (hr:r= .returned (vQ x)) (hc:abk (q++[x])≤m) (hm:Mem W w (.blk g #[.slice A (abk b) c,vI e,.slice E (abk (q++[x])) m,z] 300:: .row (.slice E (abk (q++[x])) m) (abk (q++[x])) ((q++[x]).map bq) 41 1::fs)):vZ W g p A c b q z fs r w:= .inl ⟨x,e,E,m,h,hr,hc,hm⟩
def qnl (W w:World) (g p:Nat) (A D:Option Addr) (c E:Nat) (b q:List Nat) (m:Value) (fs:List Fact) (I:Mem W w (.blk g #[.slice A (abk b) c,vI p,.slice D (abk q) E,m] 300:: abh D q E bq 41 1::fs)) (o:Rd W W.heap.size 1 A (abk b) (b.map B8)) (r:abk b≤c) (J:∀z∈b,z<256) (hb:abk b≤16777216) (F:p≤abk b) (R:abk q≤p):
    Calls abl 280 #[vP g 0] w (vZ W g p A c b q m fs):=by
 refine (dY Tryz.func280 42) ?_
 refine (JC (h:=by exact λd=>I)) ?_
 have l:∃x n s,aB (b.drop p)=(x,n,s):=⟨_,_,_,rfl⟩
 obtain ⟨x,n,s,l⟩:=l
 have t:∀z∈b.drop p,z<256:=λz hz=>J z (abU hz)
 have K:abk (b.drop p)=abk b-p:=abH
 refine (JP∘Jp 1∘Jj) λa Z d=>?_
 refine wp_seq ?_
 refine Jb Z d ((Vs .n []) λL=>(Vp [0,4]∘Vn 1∘Vf 2 0∘Vc 3 O0∘Vn 5∘Vf 6 1∘Vc 7 O0∘Vy 8 (v:= .slice (if c=p then A else A.map (·.add (p*1))) (abk b-p) (c-p)) (h:=by exact aag aX (j:=p) rfl rfl rfl om)∘Vo (.slice (if c=p then A else A.map (·.add (p*1))) (abk (b.drop p)) (c-p)) (by rw [abH])∘VI 9 .n (h:=by exact λd=>za2 l (G7 (d.old o) F r) t om)) λM N=>(Vp [10]∘Vx 11∘Vx 12∘Vx 13∘Vp [14,15,16]∘Vd∘JQ∘JP∘Jp 2∘bG∘Jj) (Jh (λf=>?_) λf=>?_))
 ·
  refine (JT∘JR) λa Z d=>?_
  refine fo Z 0 rfl rfl ?_
  exact ou Z [vI 344] rfl (Md 344 _ (d.pt 2 [])) λS d=>DY Z (zbe (q5w l f) ⟨rfl,d⟩)
 have u:s=0:=by omega
 subst u
 have G:=qw5 F l
 refine (JF∘aD∘JP∘Jp 1∘Jn∘Jg 1 O0∘Jp 1∘Ja∘Jn∘Jf 1∘JW aU fO) λH=>(iA∘Jr∘Jp 2∘Jn∘Jg 2 O0∘Jp 1∘JU kP #[vQ x]) λO P=>(JD [bq x] 2 (λ_ _=>iO) kP (hr:=by exact λd=>d.aW (i:=0) (n:=1) (size:=1) rfl rfl) (h1:=by simp [acf,bq,B8])) λQ y B k=>(Jn∘Jf 2∘JW fO iO) λC=>(iA∘Jq) ?_
 have e:abk q+1=abk (q++[x]):=nC rfl
 rw [e] at k
 exact (JC (h:=by exact λd=>d.aT (i:=2) (ys:=(q++[x]).map bq) rfl e (by simp))∘JC (h:=by exact λd=>d.dO (i:=1) (ds:= #[abg A b c,vI (p+n:Nat),abg y (q++[x]) B,m]) rfl (by rw [e];try rfl))∘JG∘JP∘Jp 2∘lT∘Jj∘JZ∘aZ) λd=>zbf (.of l) rfl k (d.pt 3 [1,2])
def MC (W w:World) (g p:Nat) (A d:Option Addr) (c a:Nat) (b q:List Nat) (f:Value) (fs:List Fact) (l:Mem W w (.blk g #[.slice A (abk b) c,vI p,.slice d (abk q) a,f] 300:: .row (.slice d (abk q) a) (abk q) (q.map bq) 41 1::fs)) (i:Rd W W.heap.size 1 A (abk b) (b.map B8)) (j:abk b≤c) (m:∀z∈b,z<256) (hb:abk b≤16777216) (n:p≤abk b) (o:abk q≤p) {x e:Nat} (h:bF b p x e):
  Calls abl 280 #[vP g 0] w (λr k=>r= .returned (vQ x)∧∃d a,abk (q++[x])≤a∧Mem W k (.blk g #[.slice A (abk b) c,vI e,.slice d (abk (q++[x])) a,f] 300:: .row (.slice d (abk (q++[x])) a) (abk (q++[x])) ((q++[x]).map bq) 41 1::fs)):=
 (qnl W w g p A d c a b q f fs l i j m hb n o).mono λr k h1 => by
  rcases h1 with ⟨s,e2,d,a,h2,h3,h4,h5⟩|⟨h2,_⟩
  ·obtain ⟨rfl,rfl⟩:=bF.one h h2
   exact ⟨h3,d,a,h4,h5⟩
  ·rw [h.1] at h2;exact absurd rfl h2
def ME (W w:World) (g p:Nat) (A a:Option Addr) (c d:Nat) (b q:List Nat) (i:Value) (fs:List Fact) (j:Mem W w (.blk g #[.slice A (abk b) c,vI p,.slice a (abk q) d,i] 300:: .row (.slice a (abk q) d) (abk q) (q.map bq) 41 1::fs)) (e:Rd W W.heap.size 1 A (abk b) (b.map B8)) (f:abk b≤c) (k:∀z∈b,z<256) (hb:abk b≤16777216) (l:p≤abk b) (m:abk q≤p) (h:(aB (b.drop p)).2.2≠0):
  Calls abl 280 #[vP g 0] w (kI W fs (qC fZ 344)):=
 (qnl W w g p A a c d b q i fs j e f k hb l m).mono λr n h1 => by
  rcases h1 with ⟨o,e2,a,d,h2,h3,h4,h5⟩|⟨_,h2⟩
  ·rw [h2.1] at h;exact absurd rfl h
  ·exact h2
def rQ (W:World) (g p:Nat) (A:Option Addr) (c:Nat) (b q:List Nat) (i:Value) (f hi:Nat) (fs:List Fact) (r:Ending) (a:World):Prop:=
 (∃x e h d,bF b p x e∧¬(x<f∨hi<x)∧r= .returned (vI x)∧abk (q++[x])≤d∧Mem W a (.blk g #[.slice A (abk b) c,vI e,.slice h (abk (q++[x])) d,i] 300:: .row (.slice h (abk (q++[x])) d) (abk (q++[x])) ((q++[x]).map bq) 41 1::fs))∨((∃x e,bF b p x e∧(x<f∨hi<x))∧kI W fs (qC fZ 345) r a)∨((aB (b.drop p)).2.2≠0∧kI W fs (qC fZ 344) r a)
def zbg (h:(aB (b.drop p)).2.2≠0) (a:kI W fs (qC fZ 344) r w):rQ W g p A c b q z m hi fs r w:= .inr (.inr ⟨h,a⟩)
def qr7 (h:bF b p x e) (h2:x<m∨hi<x) (a:kI W fs (qC fZ 345) r w):rQ W g p A c b q z m hi fs r w:= .inr (.inl ⟨⟨x,e,h,h2⟩,a⟩)
def zbh (h:bF b p x e) (h2:¬(x<m∨hi<x)) (hr:r= .returned (vI x)) (hc:abk (q++[x])≤n) (hm:Mem W w (.blk g #[.slice A (abk b) c,vI e,.slice E (abk (q++[x])) n,z] 300:: .row (.slice E (abk (q++[x])) n) (abk (q++[x])) ((q++[x]).map bq) 41 1::fs)):rQ W g p A c b q z m hi fs r w:= .inl ⟨x,e,E,n,h,h2,hr,hc,hm⟩
def SS (W w:World) (g p:Nat) (A m:Option Addr) (c n:Nat) (b q:List Nat) (o:Value) (fs:List Fact) (u hi:Nat) (C:hi<9223372036854775808) (D:Mem W w (.blk g #[.slice A (abk b) c,vI p,.slice m (abk q) n,o] 300:: abh m q n bq 41 1::fs)) (i:Rd W W.heap.size 1 A (abk b) (b.map B8)) (j:abk b≤c) (r:∀z∈b,z<256) (hb:abk b≤16777216) (v:p≤abk b) (y:abk q≤p):
    Calls abl 281 #[vP g 0,vQ u,vQ hi] w (rQ W g p A c b q o u hi fs):=by
 refine (wU Tryz.func281 21) ?_
 refine (JC (h:=by exact λd=>D)∘JP∘Jp 1∘Jj∘JQ) λa Z d=>?_
 rcases D5 b p with f|⟨x,e,f⟩
 ·
  refine Jb Z d ((JR∘Jp 1) λa Z d=>?_)
  refine fo Z 1 rfl rfl ?_
  exact ou Z [vP g 0] rfl (ME W _ g p A m c n b q o _ (d.pt 2 [0,1]) i j r hb v y f) λB d=>DY Z (zbg f ⟨rfl,(d)⟩)
 ·
  have E:=f.lt r
  refine Jb Z d ((JR∘Jp 1∘JL (h:=by exact λd=>MC W _ g p A m c n b q o _ (d.pt 2 [0,1]) i j r hb v y f)) ?_)
  rintro d _ F ⟨rfl,G,H,s,t⟩
  refine ⟨_,rfl,_,t,?_⟩
  refine (Jp 1∘bG∘Jj∘JQ∘JP∘Jp 4) (Ji (λk=>?_) λk=>?_)
  ·
   refine (Jp 4∘aF∘Jj∘JT∘JR) λa Z d=>?_
   refine fo Z 0 rfl rfl ?_
   exact ou Z [vI 345] rfl (Md 345 _ (d.pt 2 [])) λB d=>DY Z (qr7 f (.inl om) ⟨rfl,d⟩)
  refine (Jp 4∘aF∘Jj) (Ji (λl=>?_) λl=>?_)
  ·
   refine (JT∘JR) λa Z d=>?_
   refine fo Z 0 rfl rfl ?_
   exact ou Z [vI 345] rfl (Md 345 _ (d.pt 2 [])) λB d=>DY Z (qr7 f (.inr om) ⟨rfl,d⟩)
  exact (JF∘aD∘JP∘Jp 1∘Jw .i64∘Jp 1∘bG∘Jj∘JZ∘aZ) λd=>zbh f om rfl s (d.pt 2 [0,1])
def MF (W w:World) (g p:Nat) (A d:Option Addr) (c a:Nat) (b q:List Nat) (f:Value) (fs:List Fact) (i hi:Nat) (j:hi<9223372036854775808) (n:Mem W w (.blk g #[.slice A (abk b) c,vI p,.slice d (abk q) a,f] 300:: .row (.slice d (abk q) a) (abk q) (q.map bq) 41 1::fs)) (k:Rd W W.heap.size 1 A (abk b) (b.map B8)) (l:abk b≤c) (o:∀z∈b,z<256) (hb:abk b≤16777216) (s:p≤abk b) (t:abk q≤p) {x e:Nat} (h:bF b p x e) (u:¬(x<i∨hi<x)):
  Calls abl 281 #[vP g 0,vQ i,vQ hi] w (λr m=>r= .returned (vI x)∧∃d a,abk (q++[x])≤a∧Mem W m (.blk g #[.slice A (abk b) c,vI e,.slice d (abk (q++[x])) a,f] 300:: .row (.slice d (abk (q++[x])) a) (abk (q++[x])) ((q++[x]).map bq) 41 1::fs)):=
 (SS W w g p A d c a b q f fs i hi j n k l o hb s t).mono λr m h1 => by
  rcases h1 with ⟨v,e2,d,a,h2,_,h3,h4,h5⟩|⟨⟨v,e2,h2,h3⟩,_⟩|⟨h2,_⟩
  ·obtain ⟨rfl,rfl⟩:=bF.one h h2
   exact ⟨h3,d,a,h4,h5⟩
  ·obtain ⟨rfl,rfl⟩:=bF.one h h2
   exact absurd h3 u
  ·rw [h.1] at h2;exact absurd rfl h2
def SV (W w:World) (g p:Nat) (A a:Option Addr) (c d:Nat) (b q:List Nat) (l:Value) (fs:List Fact) (f hi:Nat) (i:hi<9223372036854775808) (m:Mem W w (.blk g #[.slice A (abk b) c,vI p,.slice a (abk q) d,l] 300:: .row (.slice a (abk q) d) (abk q) (q.map bq) 41 1::fs)) (j:Rd W W.heap.size 1 A (abk b) (b.map B8)) (k:abk b≤c) (n:∀z∈b,z<256) (hb:abk b≤16777216) (o:p≤abk b) (s:abk q≤p) {x e:Nat} (h:bF b p x e) (t:x<f∨hi<x):
  Calls abl 281 #[vP g 0,vQ f,vQ hi] w (kI W fs (qC fZ 345)):=
 (SS W w g p A a c d b q l fs f hi i m j k n hb o s).mono λr u h1 => by
  rcases h1 with ⟨v,e2,a,d,h2,h3,_⟩|⟨_,h2⟩|⟨h2,_⟩
  ·obtain ⟨rfl,rfl⟩:=bF.one h h2
   exact absurd t h3
  ·exact h2
  ·rw [h.1] at h2;exact absurd rfl h2
def SX (W w:World) (g p:Nat) (A a:Option Addr) (c d:Nat) (b q:List Nat) (j:Value) (fs:List Fact) (k hi:Nat) (e:hi<9223372036854775808) (l:Mem W w (.blk g #[.slice A (abk b) c,vI p,.slice a (abk q) d,j] 300:: .row (.slice a (abk q) d) (abk q) (q.map bq) 41 1::fs)) (f:Rd W W.heap.size 1 A (abk b) (b.map B8)) (i:abk b≤c) (m:∀z∈b,z<256) (hb:abk b≤16777216) (n:p≤abk b) (o:abk q≤p) (h:(aB (b.drop p)).2.2≠0):
  Calls abl 281 #[vP g 0,vQ k,vQ hi] w (kI W fs (qC fZ 344)):=
 (SS W w g p A a c d b q j fs k hi e l f i m hb n o).mono λr t h1 => by
  rcases h1 with ⟨s,e2,a,d,h2,_⟩|⟨⟨s,e2,h2,_⟩,_⟩|⟨_,h2⟩
  ·rw [h2.1] at h;exact absurd rfl h
  ·rw [h2.1] at h;exact absurd rfl h
  ·exact h2
def SY (W:World) (g p:Nat) (A:Option Addr) (c:Nat) (b q:List Nat) (h:Value) (n:Nat) (fs:List Fact) (r:Ending) (d:World):Prop:=
 (∃xs e f a,kN b n p xs e∧r= .returned (.tuple #[])∧abk (q++xs)≤a∧Mem W d (.blk g #[.slice A (abk b) c,vI e,.slice f (abk (q++xs)) a,h] 300:: .row (.slice f (abk (q++xs)) a) (abk (q++xs)) ((q++xs).map bq) 41 1::fs))∨((bD n (b.drop p)).2.2≠0∧kI W fs (qC fZ 344) r d)
theorem q6o (h:(bD n (b.drop p)).2.2≠0) (a:kI W fs (qC fZ 344) r w):SY W g p A c b q z n fs r w:= .inr ⟨h,a⟩
def q6p (h:kN b n p xs e) (hr:r= .returned (.tuple #[])) (hc:abk (q++xs)≤m) (hm:Mem W w (.blk g #[.slice A (abk b) c,vI e,.slice E (abk (q++xs)) m,z] 300:: .row (.slice E (abk (q++xs)) m) (abk (q++xs)) ((q++xs).map bq) 41 1::fs)):SY W g p A c b q z n fs r w:= .inl ⟨xs,e,E,m,h,hr,hc,hm⟩
def qxk (W w:World) (g p:Nat) (A i:Option Addr) (c f:Nat) (b q:List Nat) (o:Value) (fs:List Fact) (n:Nat) (F:n≤1000000) (l:abk q≤f) (G:Mem W w (.blk g #[.slice A (abk b) c,vI p,.slice i (abk q) f,o] 300:: abh i q f bq 41 1::fs)) (r:Rd W W.heap.size 1 A (abk b) (b.map B8)) (s:abk b≤c) (C:∀z∈b,z<256) (hb:abk b≤16777216) (H:p≤abk b) (N:abk q≤p):
    Calls abl 282 #[vP g 0,vI n] w (SY W g p A c b q o n fs):=by
 refine (iX Tryz.func282 10) ?_
 refine (JC (h:=by exact λd=>G)∘JP∘Jp 2∘Jq) λa Z d=>?_
 rw [←abN q] at d
 refine Jb Z d ((JG∘JB) λa Z d=>?_)
 refine qg (λD I J=>∃(k:Nat) (xs:List Nat) (e:Nat) (i:Option Addr) (f:Nat),(kN b k p xs e)∧(k≤n)∧(abk (q++xs)≤f)∧D=n-k∧Fr I 10 [] [(0,vP g 0),(4,vI n),(5,vI k)]∧Mem W J (.blk g #[abg A b c,vI e,abg i (q++xs) f,o] 300:: abh i (q++xs) f bq 41 1::fs)) (m:=n-0) ⟨0,[],p,i,f,kN.nil b p,abx _,(by rw [abN];exact l),rfl,Z.sub kr,d.pt 2 [0,1]⟩ ?_
 clear Z d;rintro D a O ⟨k,xs,e,i,f,j,K,l,rfl,Z,d⟩
 have E:=j.in H
 refine Jb Z d ((JP∘Jp 1∘Jj∘JQ) (Ji (λv=>?_) λv=>?_))
 ·
  refine (JT∘aD∘JQ∘JB) ?_
  have t:k<n:=by omega
  intro a Z d
  rcases D5 b e with u|⟨x,e2,u⟩
  ·
   refine Jb Z d ((JR∘Jp 1) λa Z d=>?_)
   refine fo Z 1 rfl rfl ?_
   exact ou Z [vP g 0] rfl (ME W _ g e A i c f b (q++xs) o _ (d.pt 2 [0,1]) r s C hb om (by rw [abm];omega) u) λP d=>DY Z (q6o (j.stuck t u) ⟨rfl,d⟩)
  ·
   refine Jb Z d ((JR∘Jp 1∘JL (h:=by exact λd=>MC W _ g e A i c f b (q++xs) o _ (d.pt 2 [0,1]) r s C hb om (by rw [abm];omega) u)) ?_)
   rintro d _ Q ⟨rfl,L,M,y,B⟩
   refine ⟨_,rfl,_,B,?_⟩
   refine (mM∘Jq) λa Z d=>?_
   rw [abz] at d
   refine Jb Z d ((JG∘JR∘cK 1∘Jp 1∘aK∘Jq) λa Z d=>?_)
   exact ⟨_,om,k+1,(xs++[x]),e2,L,M,j.snoc u,t,(by rwa [abz] at y),rfl,Z.sub kr,d.pt 2 [0,1]⟩
 refine (JF∘JX) ?_
 obtain rfl:k=n:=by omega
 intro a Z d
 exact gQ rfl Z (q6p j rfl l d)
theorem Ia (W w:World) (g p:Nat) (A d:Option Addr) (c a:Nat) (b q:List Nat) (f:Value) (fs:List Fact) (n:Nat) (i:n≤1000000) (j:abk q≤a) (o:Mem W w (.blk g #[.slice A (abk b) c,vI p,.slice d (abk q) a,f] 300:: .row (.slice d (abk q) a) (abk q) (q.map bq) 41 1::fs)) (k:Rd W W.heap.size 1 A (abk b) (b.map B8)) (l:abk b≤c) (s:∀z∈b,z<256) (hb:abk b≤16777216) (t:p≤abk b) (u:abk q≤p) {xs:List Nat} {e:Nat} (h:kN b n p xs e):
  Calls abl 282 #[vP g 0,vI n] w (λr m=>r= .returned (.tuple #[])∧∃d a,abk (q++xs)≤a∧Mem W m (.blk g #[.slice A (abk b) c,vI e,.slice d (abk (q++xs)) a,f] 300:: .row (.slice d (abk (q++xs)) a) (abk (q++xs)) ((q++xs).map bq) 41 1::fs)):=
 (qxk W w g p A d c a b q f fs n i j o k l s hb t u).mono λr m h1 => by
  rcases h1 with ⟨v,e2,d,a,h2,h3,h4,h5⟩|⟨h2,_⟩
  ·obtain ⟨rfl,rfl⟩:=kN.one h h2
   exact ⟨h3,d,a,h4,h5⟩
  ·rw [h.1] at h2;exact absurd rfl h2
def Ib (W w:World) (g p:Nat) (A d:Option Addr) (c a:Nat) (b q:List Nat) (k:Value) (fs:List Fact) (n:Nat) (e:n≤1000000) (f:abk q≤a) (l:Mem W w (.blk g #[.slice A (abk b) c,vI p,.slice d (abk q) a,k] 300:: .row (.slice d (abk q) a) (abk q) (q.map bq) 41 1::fs)) (i:Rd W W.heap.size 1 A (abk b) (b.map B8)) (j:abk b≤c) (m:∀z∈b,z<256) (hb:abk b≤16777216) (o:p≤abk b) (s:abk q≤p) (h:(bD n (b.drop p)).2.2≠0):
  Calls abl 282 #[vP g 0,vI n] w (kI W fs (qC fZ 344)):=
 (qxk W w g p A d c a b q k fs n e f l i j m hb o s).mono λr t h1 => by
  rcases h1 with ⟨u,e2,d,a,h2,h3,h4,h5⟩|⟨_,h2⟩
  ·rw [h2.1] at h;exact absurd rfl h
  ·exact h2
def zkb (W w:World) (g p:Nat) (u y:Value) (q:Option Addr) (sc:Nat) (l:List jo) (nm:ByteArray) (fs:List Fact) (D:Mem W w (.blk g #[u,vI p,y,abg q l sc] 300:: abj q l sc gK 435 3::fs)) (E:abk l≤1000):
    Calls abl 279 #[vP g 0,.string nm] w (λr F=>r= .returned (.tuple #[])∧∃q sc,abk (l++[(⟨nm,kV l,p⟩:jo)])≤sc∧Mem W F (.blk g #[u,vI p,y,.slice q (abk (l++[(⟨nm,kV l,p⟩:jo)])) sc] 300:: .row (.slice q (abk (l++[(⟨nm,kV l,p⟩:jo)])) sc) (abk (l++[(⟨nm,kV l,p⟩:jo)])) ((l++[(⟨nm,kV l,p⟩:jo)]).flatMap gK) 435 3::fs)):=by
 refine (iX Tryz.func279 38) ?_
 refine (JC (h:=by exact λb=>D)∘JP∘Jp 1∘Jj∘JQ∘JP∘Jp 1∘Jn∘Jg 3 O0∘Jl∘Jp 1∘gG∘Jr∘Jp 2∘aK∘Jj) (Ji (λs=>?_) λs=>?_)
 ·
  refine (JT∘JR∘Jp 1∘Jn∘Jg 3 O0∘Jp 1∘xQ 1) ?_
  repeat (first|clear Z|clear b)
  intro a Z b
  obtain ⟨G,rfl⟩:=b.rat 1 (abk l-1)
  refine Jb Z b ((lU (abk l-1) 3∘Jf 2∘Jy (v:=vI ((l.getD (abk l-1) jo.zero).to)) (h:=by exact Pd rfl rfl kr (λ_ h=>h.qu q9j (i:=1) rfl (k:=(abk l-1)) (off:=2) (x:=(l.getD (abk l-1) jo.zero)) ((getD_at jo.zero om)) rfl))∘Jo (vI (kV l)) (by exact rfl)∘Jp 1∘aF∘Jj∘Vs (.t (.f .n)) [16]) λz=>(Vp [0,1,5,6,7]∘Vn 2∘Vf 3 3∘Vc 4 O0∘Vn 8∘Vf 9 1∘Vc 10 O0∘Vy 11 (v:= .agg #[.string nm,vI (kV l),vI p]) (h:=by exact Yl.build (vs:=[(0,.string nm),(1,vI (kV l)),(2,vI p)]) rfl kr kr)) λa Z b m=>?_)
  refine s_on Z 12 rfl (iW Z b MB [(0,.agg #[.string nm,vI (kV l),vI p])] #[.string nm,vI (kV l),vI p] ?_)
  clear Z b;intro a A B Z b
  refine ay (b.pt 3 [1]) (λm=>?_)
  refine s_on Z 13 rfl (qF Z b (i:=2) rfl MB rfl rfl rfl (news:=([(⟨nm,kV l,p⟩:jo)].flatMap gK)) (b.aW (i:=0) (n:=1) (size:=3) rfl rfl) (Yr _) om om rfl de ?_)
  clear Z b;intro a C e j Z b d
  refine ay (b.pt 3 [1]) (λm=>?_)
  refine Vb Z b m ((Vn 14∘Vf 15 3) λa Z b m=>?_)
  refine s_on Z 16 rfl (fJ Z b 1 λo b=>?_)
  refine dM kr ?_
  refine qd kr ?_
  have c:abk l+1=abk (l++[(⟨nm,kV l,p⟩:jo)]):=nC rfl
  rw [c] at d
  replace b:=b.aT (i:=2) (ys:=(l++[(⟨nm,kV l,p⟩:jo)]).flatMap gK) rfl c (List.flatMap_append.symm)
  replace Z:=Z.sp 35 (abg e (l++[(⟨nm,kV l,p⟩:jo)]) j) rfl (gF c)
  replace b:=b.dO (i:=1) (ds:= #[u,vI p,y,abg e (l++[(⟨nm,kV l,p⟩:jo)]) j]) rfl (by rw [c];try rfl)
  exact gQ rfl Z ⟨rfl,e,j,d,b.pt 3 [1,2]⟩
 intro a Z b
 replace Z:=Z.sp 4 (vI (kV l)) rfl (by rw [za0 (l:=l) om];rfl)
 refine Jb Z b ((JF∘aD∘Vs (.t (.f .n)) [16]) λz=>(Vp [0,1,5,6,7]∘Vn 2∘Vf 3 3∘Vc 4 O0∘Vn 8∘Vf 9 1∘Vc 10 O0∘Vy 11 (v:= .agg #[.string nm,vI (kV l),vI p]) (h:=by exact Yl.build (vs:=[(0,.string nm),(1,vI (kV l)),(2,vI p)]) rfl kr kr)) λa Z b m=>?_)
 refine s_on Z 12 rfl (iW Z b MB [(0,.agg #[.string nm,vI (kV l),vI p])] #[.string nm,vI (kV l),vI p] ?_)
 clear Z b;intro a A B Z b
 refine ay (b.pt 3 [1]) (λm=>?_)
 refine s_on Z 13 rfl (qF Z b (i:=2) rfl MB rfl rfl rfl (news:=([(⟨nm,kV l,p⟩:jo)].flatMap gK)) (b.aW (i:=0) (n:=1) (size:=3) rfl rfl) (Yr _) om om rfl de ?_)
 clear Z b;intro a C e j Z b d
 refine ay (b.pt 3 [1]) (λm=>?_)
 refine Vb Z b m ((Vn 14∘Vf 15 3) λa Z b m=>?_)
 refine s_on Z 16 rfl (fJ Z b 1 λo b=>?_)
 refine dM kr ?_
 refine qd kr ?_
 have c:abk l+1=abk (l++[(⟨nm,kV l,p⟩:jo)]):=nC rfl
 rw [c] at d
 replace b:=b.aT (i:=2) (ys:=(l++[(⟨nm,kV l,p⟩:jo)]).flatMap gK) rfl c (List.flatMap_append.symm)
 replace Z:=Z.sp 35 (abg e (l++[(⟨nm,kV l,p⟩:jo)]) j) rfl (gF c)
 replace b:=b.dO (i:=1) (ds:= #[u,vI p,y,abg e (l++[(⟨nm,kV l,p⟩:jo)]) j]) rfl (by rw [c];try rfl)
 exact gQ rfl Z ⟨rfl,e,j,d,b.pt 3 [1,2]⟩
end Go.Proofs.YtekiimhdnigmcaaGreatDoor
