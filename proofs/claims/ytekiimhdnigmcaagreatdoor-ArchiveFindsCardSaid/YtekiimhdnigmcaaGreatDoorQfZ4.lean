/- Parts. -/
import Derived.Test.YtekiimhdnigmcaaGreatDoorQfCrcP
import Derived.Test.YtekiimhdnigmcaaGreatDoorQfCheck
import Derived.Test.YtekiimhdnigmcaaGreatDoorQfVarint
import Derived.Test.YtekiimhdnigmcaaGreatDoorQfRef06f
import Derived.Test.YtekiimhdnigmcaaGreatDoorQfRWith
import Derived.Test.YtekiimhdnigmcaaGreatDoorQfCodV
import Derived.Test.YtekiimhdnigmcaaGreatDoorQfRef01
import Derived.Test.YtekiimhdnigmcaaGreatDoorQfDoorE
import Derived.Test.YtekiimhdnigmcaaGreatDoorQfZ3
set_option linter.all false
set_option maxRecDepth 100000
set_option maxHeartbeats 1000000
namespace Go.Proofs.YtekiimhdnigmcaaGreatDoor
open Go.RowKit
open List renaming length→abl
open _root_.Go.Proofs.Tryz renaming prog→abm,func278→agK
open _root_.List renaming length_append→abn,getD_eq_getElem?_getD→abo,getElem?_eq_getElem→abp,length_take→abr,length_map→abu,getElem?_eq_some_iff→abv,append_assoc→aby,replicate→abD,mem_of_getElem?→abM,length_drop→abN,length_set→abO,take_of_length_le→abP,flatMap_cons→abT,append_nil→abU,map_append→abV,mem_of_mem_drop→abZ,mem_cons→ab0,length_cons→ab1,flatMap_append→ab2,length_replicate→ab4,mem_append→ab5,mem_map→ab6,take_append_drop→ab9,mem_of_mem_take→acg,mem_cons_of_mem→aci,drop_eq_getElem_cons→acn,not_mem_nil→acr,mem_cons_self→acs,getElem_of_mem→acB,mem_flatMap→acE,getElem?_drop→acI,eq_of_mem_replicate→acP,map_cons→acS,drop_drop→acV,range→acW,mem_map_of_mem→ac1,getElem?_map→ac3,mem_append_right→ac5,getElem?_eq_none→ac6,take_length→ada,drop_eq_nil_of_le→adf,perm_middle→adh,append_inj→adi,getElem?_append_right→adt,length_eq_zero_iff→adx,length→adz,getElem?_cons_succ→adC,take_add_one→adP,mem_append_left→adQ,getElem?_append_left→aea,mem_singleton→aek,ext_getElem→aen,map_map→aep,map_drop→aeQ,flatMap_map→aeS,set_cons_zero→aeW,getElem_map→afc,getElem?_take_of_lt→afi,set_append→afp,append_cancel_left→afq,getElem?_replicate→afr,head?_eq_getElem?→afx,mem_range→afB,map_congr_left→afS,map_take→afU,range_succ→agp
open Nat renaming le_refl→abq,zero_le→abw,lt_or_ge→ab7,eq_zero_or_pos→ach,zero_add→acj,add_zero→acF,add_sub_cancel_left→acH,le_trans→acM,mul_one→acX,min_eq_left→adb,succ_mul→adj,mod_lt→adr,sub_self→adK,le_add_right→adS,pow_le_pow_right→adV,add_sub_cancel→aec,mul_succ→aev,mul_le_mul_left→af2,mul_comm→agN
open Bool renaming and_eq_true→abF,true_and→acz,or_eq_true→adw,and_assoc→adU
open Int renaming toNat_natCast→abG,toNat_of_nonneg→abS,toNat→aeY,le_refl→ae7,tmod→ae8,tmod_eq_of_lt→agk
open Value renaming int→abQ,bool→abX,oneCell'→acd,pointer→agA
open Go renaming IntKind→acf
open World renaming ownsRow_nil→acK
open Addr renaming add_mid→acN
open Hb renaming b→acZ
open DataW renaming trod→ads,trod_int→adR
open Go.IntKind renaming wrap_i64→aeg
open Rw renaming l→aeB
open Classical renaming byContradiction→aeR
open Lit renaming int→ae6
open Decidable renaming of_not_not→afd
open List.Perm renaming cons→afV
open Eq renaming trans→af3
open Fact renaming blk→agy
open List.Sublist renaming refl→agE,append→agT
variable {W w w':World} {l b xs q:List Nat} {F fs:List Fact} {α:Type} {A gA E:Option Addr} {k g c n x m e i cr most cpu f er p hi:Nat} {o:bC} {s:aW} {z:Value} {B:List Value} {bs:List Bk} {r:Ending}
def q4r {g n c i:Nat} {l:List Tk} {L:List Fact} (O:kY (fT (some ⟨g,0,none⟩) n c l) (fT (some ⟨g,0,none⟩) (n-1) c (l.eraseIdx i)) F L) (d:Mem W w F) (e:abl l=n) (a:n≤1000000) (hi:i<n):
  Calls abm 209 #[.slice (some ⟨g,0,none⟩) n c,vI i,vI ((i+1:Nat):Int)] w (λr b=>r= .returned (.slice (some ⟨g,0,none⟩) (n-1) c)∧Mem W b L):=by
 obtain ⟨p,q,rfl,rfl⟩:=O.split
 have h2:=d.perm adh
 obtain ⟨f,j,h3,h4⟩:=CO (h2.own (i:=0) rfl)
 injection h3 with _ _ h5
 subst h5
 exact (qrl W w g n c i l (p++q) e a hi h4 h2).mono λr b h=>⟨h.1,h.2.perm List.perm_middle.symm⟩
theorem At.mem {a:α} {l:List α} (h:At l a):a∈l:=by
 induction h with
 |z=>exact acs ..
 |s _ b=>exact aci _ b
def Y5 {n c i m:Nat} {l:List Tk} {k:Option Addr→Nat→List Fact} (t:Tk) (j:Nat) (O:∀e d,kY (fT A n c l) (fT e (n+1) d (iH l i t)) F (k e d)) (V:At F (.blk m t.cells 232)) (C:Mem W w F) (D:l.length=n) (o:n≤1000000) (hi:i≤n) (x:F[j]?=some (fT A n c l):=by exact rfl) (E:(λe d=>F.set j (fT e (n+1) d (iH l i t)))=k:=by kernel_rfl):
  Calls abm 205 #[.slice A n c,vI i,.slice (some ⟨m,0,none⟩) 1 1] w (λr y=>∃e d,r= .returned (.slice e (n+1) d)∧n+1≤d∧Mem W y (k e d)):=by
 have f:=(abv.1 x).1
 obtain ⟨p,q,z,g⟩:∃p q,F=p++fT A n c l::q∧∀b,F.set j b=p++b::q:=⟨F.take j,F.drop (j+1),by rw [←(abv.1 x).2,←acn f,ab9],λb=>by rw [List.set_eq_take_append_cons_drop,if_pos f]⟩
 have h2:=(z▸C).perm (adh (l₁:=p) (a:=fT A n c l) (l₂:=q))
 obtain ⟨e,d,h3,h4⟩:=CO (h2.own (i:=0) rfl)
 injection h3 with _ _ h5
 subst h5
 have B:=V.mem
 rw [z] at B
 have v:agy m t.cells 232∈p++q:=by
  rcases ab5.1 B with h|h
  ·exact adQ _ h
  ·rcases ab0.1 h with h|h
   ·cases h
   ·exact ac5 _ h
 obtain ⟨s,u,hs⟩:=List.append_of_mem v
 rw [hs] at h2
 have h6:=h2.perm (afV _ (adh (l₁:=s) (a:=agy m t.cells 232) (l₂:=u)))
 refine (qrk W w A n c i l t m (s++u) D o hi h4 h6).mono λr y ⟨e,d,e1,e2,e3⟩=>⟨e,d,e1,e2,?_⟩
 have h7:=e3.perm (afV _ (adh (l₁:=s) (a:=agy m t.cells 232) (l₂:=u)).symm)
 rw [←hs] at h7
 have h8:=h7.perm (adh (l₁:=p) (l₂:=q)).symm
 rw [←g] at h8
 have h9:=congrFun (congrFun E e) d
 rw [←h9]
 exact h8
def zfo {L:List Fact} (t t1:Tk) (x:En) (h1:t.put x=t1) (O:kY (.blk g t.cells 232) (.blk g t1.cells 232) F L) (a:Mem W w F) (b:x.Ok):
  Calls abm 202 #[vP g 0,.agg x.cells] w (λr c=>r= .returned (.tuple #[])∧Mem W c L):=by
 subst h1
 exact zfb t x O a b
def q4s {l:List Tk} {t:Tk} (a:abl l=n) (hr:Rd w w.heap.size 8 A n (l.flatMap bI)) (b:abl l≤1000000) (d:w.heap[g]?=some (.cells t.cells 232 (0,0))):Calls abm 203 #[.slice A n c,.func (.func 204) #[] #[vP g 0]] w (rz w l t.id):=by
 subst a
 exact qzr A c l t g w hr b d
theorem Lr {x:aC} {b a xV Gm:Nat} {Gn:Option Addr} {ts':List Tk} (h:qZ x c m n b a) (ht:abl ts'=xV):qZ {x with tA:=Gn,tc:=Gm,ts:=ts'} c m n xV a:=⟨h.g,h.l,h.u,ht,h.s⟩
theorem Ls {cp:Int} (hc:cp=(c:Int)) (h:1≤o.weight∧o.weight≤65536∧o.mask≠0∧¬2^c≤o.mask):¬(lN o.weight=false∨o.mask=0∨wM o.mask cp=true):=by
 subst hc
 rintro (h1|h1|h1)
 ·exact of_decide_eq_false h1 ⟨h.1,h.2.1⟩
 ·exact h.2.2.1 h1
 ·exact h.2.2.2 (of_decide_eq_true h1)
theorem q95 {cp:Int} (hc:cp=(c:Int)) (h:¬(1≤o.weight∧o.weight≤65536∧o.mask≠0∧¬2^c≤o.mask)):lN o.weight=false∨o.mask=0∨wM o.mask cp=true:=by
 subst hc
 by_cases h1:1≤o.weight∧o.weight≤65536
 ·by_cases h2:o.mask=0
  ·exact .inr (.inl h2)
  ·exact .inr (.inr (decide_eq_true (aeR λh3=>h ⟨h1.1,h1.2,h2,h3⟩)))
 ·exact .inl (decide_eq_false h1)
def Y6 (W w:World) (x:aC) (gm:Nat) (J K I D L:Nat) (p:dz x J K I D L) (o:bC) (E:o.Ok) (T:List Fact) (b:Mem W w (jm gm x J K I D L++T)) (M:∀c,c<abl x.cu→dR x.av c=true):
    Calls abm 150 #[vP gm 0,.agg o.cells] w (jX W gm T (qX x.av o)):=by
 obtain ⟨cp,cr,gA,gc,gs,lA,lc,cl,uA,uc,cu,tA,tc,ts,sA,sc,rs⟩:=x
 replace b:Mem W w (fM gm cp cr gA J gc lA K lc uA I uc tA D tc sA L sc::fG gA J gc gs::fI lA K lc cl::fI uA I uc cu::fT tA D tc ts::fS sA L sc rs::(fR rs++(T))):=b
 obtain ⟨N,O,A,B,P⟩:=p.ln
 replace N:abl gs=J:=N;replace O:abl cl=K:=O;replace A:abl cu=I:=A;replace B:abl ts=D:=B;replace P:abl rs=L:=P
 have d:=p.ln
 have hsp:dX gs cp rs:=p.spots
 have hrg:abl rs=abl gs:=p.sh.rs
 have hcr:cr<18446744073709551616:=p.ok.aj
 obtain ⟨F,G,_,C⟩:=lX p.sh.cfg
 replace F:1≤cp:=F;replace G:cp≤64:=G;replace C:bU gs=true:=C
 have nA:=(qp C).1;have nC:=(qp C).2.1
 have o7:(abl cl:Int)=cp:=p.sh.cl;have nX:(abl cu:Int)=cp:=p.sh.cu
 have nD:abl ts≤1000000:=p.few.t
 have hoc:=E.cpu;have hot:=E.task;have hog:=E.group;have how:=E.weight;have Q:=E.to;have R:=E.ticks;have xZ:=E.mask;have o8:=E.kind;unfold aR at hoc hot hog how Q R
 have S:=p.ok.cu
 obtain ⟨j,rfl⟩:=zj (b.own (i:=3) rfl) om
 refine (lQ b Tryz.func150 60) ?_
 refine (JP∘JE) λw3 g3=>(Jp 2∘Jj∘JQ∘JP∘Jp 1∘Jg 1 O0∘JI (h:=by exact λb=>Dq 1 b rfl p o.cpu)) λwK hbw=>(Jp 1∘dQ∘Jj) (oz (λe=>?_) λe=>?_)
 ·
  exact (JT∘JP∘Jp 2∘Jj∘JZ∘bG) λb=>by exact qt (y:=(⟨cp,cr,gA,gc,gs,lA,lc,cl,some ⟨j,0,none⟩,uc,cu,tA,tc,ts,sA,sc,rs⟩:aC)) 1 b rfl d (if_pos (decide_eq_false e))
 replace e:0≤o.cpu∧o.cpu<cp:=e
 obtain ⟨c,q⟩:∃n:Nat,o.cpu=(n:Int):=⟨o.cpu.toNat,by omega⟩
 have qL:((c:Nat):Int)<cp:=by omega
 obtain ⟨id,m⟩:∃z,cu.getD c 0=z:=⟨_,rfl⟩
 have U:aR id:=by rw [←m];exact S _ (qe 0 (by show c<abl cu;omega))
 intro a Z b
 unfold aR at U
 refine Jb Z b ((JF∘aD) λa Z b=>?_)
 refine wp_seq ?_
 refine Jb Z b ((Vs .n []) λwd3=>(Vp [0]∘Vf 5 1∘Vn 1∘Vf 2 0∘Vf 3 4∘Vc 4 O1∘Vc 6 O0∘Vo (vI c) (by rw [q])∘Vy 7 (h:=by exact Yl.iw j c 1 rfl rfl rfl)∘Vy 8 (v:=vI (cu.getD c 0)) (h:=by exact aae 4 c 0 om rfl rfl rfl)∘Vo (vI id) (by rw [m])∘Vp [9]∘Vd∘aG∘JQ∘JP∘Jp 2∘aK∘Jj) (Je (λV=>?_) λV=>?_))
 ·
  exact (JT∘JP∘Jp 2∘Jj∘JZ∘bG) λb=>by exact qt (y:=(⟨cp,cr,gA,gc,gs,lA,lc,cl,some ⟨j,0,none⟩,uc,cu,tA,tc,ts,sA,sc,rs⟩:aC)) 1 b rfl d ((if_neg (nf (decide_eq_true e))).trans (if_pos (by show cu.getD o.cpu.toNat 0=0;rw [q,abG,m];omega)))
 have r:id≠0:=by omega
 have H:=YV (x:=(⟨cp,cr,gA,gc,gs,lA,lc,cl,some ⟨j,0,none⟩,uc,cu,tA,tc,ts,sA,sc,rs⟩:aC)) (M c (by show c<abl cu;omega)) (by show cu.getD c 0≠0;rw [m];exact r)
 rw [show (aC.cu (⟨cp,cr,gA,gc,gs,lA,lc,cl,some ⟨j,0,none⟩,uc,cu,tA,tc,ts,sA,sc,rs⟩:aC)).getD c 0=id from m] at H
 obtain ⟨k,t,X,ht,Y,yg⟩:=H
 replace X:fidx ts id=(k:Int):=X;replace ht:ts[k]?=some t:=ht;replace Y:k<abl ts:=Y
 repeat (first|clear Z|clear b)
 intro a Z b
 obtain ⟨u,rfl⟩:=b.rat 5 k (hk:=(by omega:k<D))
 refine Jb Z b ((JF∘aD∘JP∘Jp 2∘JI (h:=by exact λb=>YU 1 b rfl p id k X)) λF6 hbw=>(Jp 1∘dQ∘Jj) λa Z b=>?_)
 refine wp_seq ?_
 refine Jb Z b ((Vs (.t (.t (.t (.t (.f .n))))) [17]) λVg=>(Vp [0]∘Vf 5 1∘Vp [7,12]∘Vn 1∘Vf 2 0∘Vf 3 4∘Vc 4 O1∘Vc 6 O0∘Vo (vI c) (by rw [q])∘Vn 8∘Vf 9 0∘Vf 10 5∘Vc 11 O1∘Vy 13 (h:=by exact Yl.iw j c 1 rfl rfl rfl)) λa Z b HS=>?_)
 refine s_on Z 14 rfl ?_
 refine zd Z b (i:=4) rfl rfl rfl rfl kr rfl rfl (by rw [abu];omega) λY7 b=>?_
 replace b:=b.bR (i:=4) (ys:=(cu.set c 0).map aP) rfl (Ka aP cu c 0 om)
 refine ay (b.pt 7 [0,1,2,3,5,6]) (λHS=>?_)
 refine Vb Z b HS ((Vu 15 (h:=by exact λ_=>Yl.iw u k 8 rfl rfl rfl)∘Vf 16 5) λa Z b HS=>?_)
 refine s_on Z 17 rfl ?_
 refine zd Z b (i:=5) rfl rfl rfl rfl kr rfl rfl (by rw [pO bI 8 qk];omega) λY8 b=>?_
 replace b:=b.bR (i:=5) (ys:=(ts.set k {t with ready:=false}).flatMap bI) rfl (tL bI 8 qk ts k t {t with ready:=false} ht 5 de _ rfl)
 refine dJ kr ?_
 refine qd kr ?_
 refine Jb Z b ((JQ∘JP∘Jg 0 O0∘Jp 1∘aG∘Jj) (Je (λuh=>?_) λuh=>?_))
 ·
  exact (JT∘JR∘Jp 2∘Jn∘Jf 0∘Jg 5 O1∘Jp 2∘bT 1∘JO (h:=by exact λb=>q4r tX b (by rw [abO];exact B) om om)) λw55=>(Jn∘Jf 0∘Jf 5∘JW fU tX) λY9=>(iE∘Jr∘Jp 3∘Jj∘JZ∘bG) λb=>by exact qt (y:=(⟨cp,cr,gA,gc,gs,lA,lc,cl,some ⟨j,0,none⟩,uc,(cu.set c 0),some ⟨u,0,none⟩,tc,((ts.set k {t with ready:=false}).eraseIdx k),sA,sc,rs⟩:aC)) 1 b rfl ⟨d.g,d.l,by show abl (cu.set _ _)=I;rw [abO];exact A,by show abl ((ts.set k _).eraseIdx k)=D-1;rw [List.length_eraseIdx,abO,if_pos om];omega,d.s⟩ (q9o (x:=(⟨cp,cr,gA,gc,gs,lA,lc,cl,some ⟨j,0,none⟩,uc,cu,some ⟨u,0,none⟩,tc,ts,sA,sc,rs⟩:aC)) (decide_eq_true e) q m r X ht om)
 exact (JF∘aD∘JP∘Jp 3∘Jj∘JZ∘bG) λb=>by exact qt (y:=(⟨cp,cr,gA,gc,gs,lA,lc,cl,some ⟨j,0,none⟩,uc,(cu.set c 0),some ⟨u,0,none⟩,tc,(ts.set k {t with ready:=false}),sA,sc,rs⟩:aC)) 1 b rfl ⟨d.g,d.l,by show abl (cu.set _ _)=I;rw [abO];exact A,by show abl (ts.set k _)=D;rw [abO];exact B,d.s⟩ (qzd (x:=(⟨cp,cr,gA,gc,gs,lA,lc,cl,some ⟨j,0,none⟩,uc,cu,some ⟨u,0,none⟩,tc,ts,sA,sc,rs⟩:aC)) (decide_eq_true e) q m r X ht om)
def qt5 (W w:World) (x:aC) (H:Nat) (M N O E J:Nat) (R:dz x M N O E J) (o:bC) (ho:o.Ok) (T:List Fact) (b:Mem W w (jm H x M N O E J++T)):
    Calls abm 148 #[vP H 0,.agg o.cells] w (jX W H T (xK x.av o)):=by
 obtain ⟨cp,cr,gA,gc,gs,lA,lc,cl,uA,uc,cu,tA,tc,ts,sA,sc,rs⟩:=x
 replace b:Mem W w (fM H cp cr gA M gc lA N lc uA O uc tA E tc sA J sc::fG gA M gc gs::fI lA N lc cl::fI uA O uc cu::fT tA E tc ts::fS sA J sc rs::(fR rs++(T))):=b
 obtain ⟨l5,hll,ny,hlt,hls⟩:=R.ln
 replace l5:abl gs=M:=l5;replace hll:abl cl=N:=hll;replace ny:abl cu=O:=ny;replace hlt:abl ts=E:=hlt;replace hls:abl rs=J:=hls
 have u:=R.ln
 have hsp:dX gs cp rs:=R.spots
 have hrg:abl rs=abl gs:=R.sh.rs
 have hcr:cr<18446744073709551616:=R.ok.aj
 obtain ⟨hcp1,S,_,V⟩:=lX R.sh.cfg
 replace hcp1:1≤cp:=hcp1;replace S:cp≤64:=S;replace V:bU gs=true:=V
 have nA:=(qp V).1;have nC:=(qp V).2.1
 have o7:(abl cl:Int)=cp:=R.sh.cl;have nX:(abl cu:Int)=cp:=R.sh.cu
 have nD:abl ts≤1000000:=R.few.t
 have hoc:=ho.cpu;have hot:=ho.task;have hog:=ho.group;have how:=ho.weight;have nY:=ho.to;have nZ:=ho.ticks;have xZ:=ho.mask;have o8:=ho.kind;unfold aR at hoc hot hog how nY nZ
 obtain ⟨cn,X⟩:∃n:Nat,cp=(n:Int):=⟨cp.toNat,by omega⟩
 obtain ⟨d,rfl⟩:=zj (b.own (i:=5) rfl) om
 refine (lQ b Tryz.func148 139) ?_
 refine (JP∘JE) λw3 g3=>(Jp 2∘Jr∘Jp 1∘Jn∘Jf 0∘Jp 1∘dQ∘Jj∘JQ∘JB∘JP∘Jp 1∘Jg 1 O0∘JI (h:=by exact λb=>Dq 1 b rfl R o.cpu)) λQg I=>(Jp 2∘gu∘Jj) (oz (λk=>?_) λk=>?_)
 ·
  exact (JT∘JP∘Jp 2∘Jj∘JZ∘bG) λb=>by exact qt (y:=(⟨cp,cr,gA,gc,gs,lA,lc,cl,uA,uc,cu,tA,tc,ts,some ⟨d,0,none⟩,sc,rs⟩:aC)) 1 b rfl u (if_pos (decide_eq_false k))
 replace k:0≤o.cpu∧o.cpu<cp:=k
 obtain ⟨c,F⟩:∃n:Nat,o.cpu=(n:Int):=⟨o.cpu.toNat,by omega⟩
 have qL:((c:Nat):Int)<cp:=by omega
 refine (JF∘JP∘Jg 2 O0∘JI (h:=by exact λb=>K8 o.task _)) λw24 I=>(Jp 2∘dQ∘Jj) (oz (λB=>?_) λB=>?_)
 ·
  exact (JT∘JP∘Jp 2∘Jj∘JZ∘bG) λb=>by exact qt (y:=(⟨cp,cr,gA,gc,gs,lA,lc,cl,uA,uc,cu,tA,tc,ts,some ⟨d,0,none⟩,sc,rs⟩:aC)) 1 b rfl u ((if_neg (nf (decide_eq_true k))).trans (if_pos (decide_eq_false B)))
 refine (JF) λa Z b=>?_
 refine q9 (λaS wS=>Fr aS 139 [] [(26,.bool (!(decide (0≤o.group∧o.group<abl rs)))),(21,.bool false),(15,.bool false),(6,vP H 0),(5,vI 0),(4,vI 0),(3,vP g3 0),(0,vP H 0)]∧Mem W wS (.blk g3 o.cells 214::fM H cp cr gA M gc lA N lc uA O uc tA E tc (some ⟨d,0,none⟩) J sc::fG gA M gc gs::fI lA N lc cl::fI uA O uc cu::fT tA E tc ts::fS (some ⟨d,0,none⟩) J sc rs::(fR rs++(T)))) ?_ ?_
 ·
  refine Jb Z b ((Vs .n []) λLp=>(Vf 0 3∘Vc 1 O0∘Vp [2,3]) λa Z b e=>?_)
  rcases Z.tf 30 rfl with ⟨BP,Z⟩|⟨BP,Z⟩
  ·
   have Qz:=of_decide_eq_true BP
   refine Vb Z b e ((Vq [4,5,6,7,8,9,10,11,12,13] [(26,.bool true)]∘Vd∘l8) λa Z b=>?_)
   have Z:=Z.sp 26 (.bool (!(decide (0≤o.group∧o.group<abl rs)))) rfl (congrArg abX (by rw [decide_eq_false om];rfl))
   exact ⟨Z.sub kr,b.pt 7 [0,1,2,3,4,5,6]⟩
  have Qz:=of_decide_eq_false BP
  refine ap Z (λ_=>e) [4,6] (bf 14 [0,1,2,3,4,6]) [(33,vP H 0),(31,vP g3 3)] λa Z=>?_
  refine dO Z e 5 0 (v:=vI o.group) λa Z=>?_
  refine nR Z e 7 λa Z=>?_
  refine ap Z (λ_=>e) [8] (bt 14 [9,10,11,12,13]) [(35,vP H 6)] λa Z=>?_
  refine dO Z e 9 1 λa Z=>?_
  refine xw Z e 10 λa Z=>?_
  refine ap Z (λ_=>e) [11,12,13] (bt 14 []) [(26,.bool (decide ((o.group:Int)≥(J:Int))))] λa Z=>?_
  refine qd kr ?_
  have Z:=Z.sp 26 (.bool (!(decide (0≤o.group∧o.group<abl rs)))) rfl (congrArg abX (by rw [←decide_not];exact decide_eq_decide.2 om))
  exact ⟨Z.sub kr,b.pt 7 [0,1,2,3,4,5,6]⟩
 clear Z b;rintro a w6 ⟨Z,b⟩
 refine Jb Z b (oz (λD=>?_) λD=>?_)
 ·
  exact (JT∘JP∘Jp 2∘Jj∘JZ∘bG) λb=>by exact qt (y:=(⟨cp,cr,gA,gc,gs,lA,lc,cl,uA,uc,cu,tA,tc,ts,some ⟨d,0,none⟩,sc,rs⟩:aC)) 1 b rfl u ((if_neg (nf (decide_eq_true k))).trans ((if_neg (nf (decide_eq_true B))).trans (if_pos (by show ¬(0≤o.group∧o.group<(abl (rs.map aeB):Nat));rw [abu];exact D))))
 obtain ⟨g,hgg⟩:∃n:Nat,o.group=(n:Int):=⟨o.group.toNat,by omega⟩
 refine (JF) λa Z b=>?_
 refine q9 (λaS wS=>Fr aS 139 [] [(40,.bool (!(decide (1≤o.weight∧o.weight≤65536∧o.mask≠0∧¬2^cn≤o.mask)))),(26,.bool false),(21,.bool false),(15,.bool false),(6,vP H 0),(5,vI 0),(4,vI 0),(3,vP g3 0),(0,vP H 0)]∧Mem W wS (.blk g3 o.cells 214::fM H cp cr gA M gc lA N lc uA O uc tA E tc (some ⟨d,0,none⟩) J sc::fG gA M gc gs::fI lA N lc cl::fI uA O uc cu::fT tA E tc ts::fS (some ⟨d,0,none⟩) J sc rs::(fR rs++(T)))) ?_ ?_
 ·
  refine Jb Z b ((Vs .n []) λLi=>(Vf 0 4∘Vc 1 O0) λa Z b e=>?_)
  refine s_on Z 2 rfl ?_
  refine kL Z [vI o.weight] rfl rfl (KQ o.weight _) ?_
  rintro _ XA ⟨rfl,I⟩
  refine ⟨_,rfl,?_⟩
  replace b:=b.call I
  clear Z;intro a Z
  refine ay (b.pt 7 [0,1,2,3,4,5,6]) (λe=>?_)
  refine Vb Z b e ((Vp [3,4]) λa Z b e=>?_)
  rcases Z.tf 45 rfl with ⟨BQ,Z⟩|⟨BQ,Z⟩
  ·
   have uh:=of_decide_eq_false ((Bool.not_eq_true' _).mp BQ)
   refine Vb Z b e ((Vq [5,6,7,8,9,10,11,12,13,14,15,16,17,18,19] [(40,.bool true)]∘Vd∘aG) λa Z b=>?_)
   have Z:=Z.sp 40 (.bool (!(decide (1≤o.weight∧o.weight≤65536∧o.mask≠0∧¬2^cn≤o.mask)))) rfl (congrArg abX (by rw [decide_eq_false (λh=>by omega)];rfl))
   exact ⟨Z.sub kr,b.pt 7 [0,1,2,3,4,5,6]⟩
  have uh:=of_decide_eq_true ((Bool.not_eq_false' _).mp BQ)
  refine ap Z (λ_=>e) [5] (bf 20 [0,1,2,3,4,5]) [(46,vP g3 7)] λa Z=>?_
  refine dO Z e 6 0 (v:=vQ o.mask) λa Z=>?_
  refine ap Z (λ_=>e) [7,8,9] (bf 20 [0,1,2,3,4,5,6,7,8,9]) [(50,.bool ((o.mask:Int)==(0:Int)))] λa Z=>?_
  refine Jb Z b (Je (λQA=>?_) λQA=>?_)
  ·
   intro a Z b
   refine ap Z (λ_=>e) [10,11,12,13,14,15,16,17,18,19] (bt 20 []) [(40,.bool true)] λa Z=>?_
   refine qd kr ?_
   have Z:=Z.sp 40 (.bool (!(decide (1≤o.weight∧o.weight≤65536∧o.mask≠0∧¬2^cn≤o.mask)))) rfl (congrArg abX (by rw [decide_eq_false (λh=>by omega)];rfl))
   exact ⟨Z.sub kr,b.pt 7 [0,1,2,3,4,5,6]⟩
  intro a Z b
  refine ap Z (λ_=>e) [10,12] (bt 20 [11,13,14,15,16,17,18,19]) [(53,vP H 0),(51,vP g3 7)] λa Z=>?_
  refine dO Z e 11 0 (v:=vQ o.mask) λa Z=>?_
  refine nR Z e 13 λa Z=>?_
  refine ap Z (λ_=>e) [14,15] (bt 20 [16,17,18,19]) [(56,vP H 0)] λa Z=>?_
  refine dO Z e 16 1 λa Z=>?_
  replace Z:=Z.sp 57 (vI cn) rfl (by rw [X];try rfl)
  refine s_on Z 17 rfl (iR Z b [vQ o.mask,vI cn] (.bool (decide (2^cn≤o.mask))) rfl rfl (Xx o.mask cn xZ ⟨by omega,by omega⟩ _) λLu I b a Z=>?_)
  refine ay (b.pt 7 [0,1,2,3,4,5,6]) (λe=>?_)
  refine ap Z (λ_=>e) [18,19] (bt 20 []) [(40,.bool (decide (2^cn≤o.mask)))] λa Z=>?_
  refine qd kr ?_
  have Z:=Z.sp 40 (.bool (!(decide (1≤o.weight∧o.weight≤65536∧o.mask≠0∧¬2^cn≤o.mask)))) rfl (congrArg abX (by rw [←decide_not];exact decide_eq_decide.2 ⟨λh1 h2=>h2.2.2.2 h1,λh1=>aeR λh2=>h1 ⟨by omega,by omega,by omega,h2⟩⟩))
  exact ⟨Z.sub kr,b.pt 7 [0,1,2,3,4,5,6]⟩
 clear Z b;rintro a w8 ⟨Z,b⟩
 refine Jb Z b (oz (λG=>?_) λG=>?_)
 ·
  exact (JT∘JP∘Jp 2∘Jj∘JZ∘bG) λb=>by exact qt (y:=(⟨cp,cr,gA,gc,gs,lA,lc,cl,uA,uc,cu,tA,tc,ts,some ⟨d,0,none⟩,sc,rs⟩:aC)) 1 b rfl u ((if_neg (nf (decide_eq_true k))).trans ((if_neg (nf (decide_eq_true B))).trans ((if_neg (by show ¬¬(0≤o.group∧o.group<(abl (rs.map aeB):Nat));rw [abu];exact not_not_intro D)).trans (if_pos (q95 X G)))))
 obtain ⟨z,wU⟩:∃n:Nat,o.weight=(n:Int):=⟨o.weight.toNat,by omega⟩
 have hz:1≤z∧z≤65536:=by omega
 have hmb:=Nat.div_le_self o.mask (2^c)
 refine (JF∘JP∘Jp 1∘Jg 2 O0∘JI (h:=by exact λb=>FX 1 b rfl R o.task)) λw64 I=>(Jp 2∘gu∘Jj) (Ji (λK=>?_) λK=>?_)
 ·
  replace K:fidx ts o.task≥0:=K
  exact (JT∘JP∘Jp 2∘Jj∘JZ∘bG) λb=>by exact qt (y:=(⟨cp,cr,gA,gc,gs,lA,lc,cl,uA,uc,cu,tA,tc,ts,some ⟨d,0,none⟩,sc,rs⟩:aC)) 1 b rfl u ((if_neg (nf (decide_eq_true k))).trans ((if_neg (nf (decide_eq_true B))).trans ((if_neg (by show ¬¬(0≤o.group∧o.group<(abl (rs.map aeB):Nat));rw [abu];exact not_not_intro D)).trans ((if_neg (Ls X G)).trans (if_pos (by show 0≤fidx ts o.task;omega))))))
 replace K:¬(fidx ts o.task≥0):=K
 refine (JF∘JP∘Jg 7 O0∘Jf 1∘Jc O0∘Jo (vI c) (by rw [F])∘Jy (v:=vQ (o.mask/2^c:Nat)) (h:=by exact aao (m:=o.mask) (n:=c) rfl rfl rfl (by show _≤64;omega))∘Jp 1∘Jo (vQ ((o.mask/2^c)%2:Nat)) (by exact Ke (n:=1) (j:=1) rfl de om)∘Jp 2∘aG∘Jj) (Je (λQB=>?_) λQB=>?_)
 ·
  exact (JT∘JP∘Jp 2∘Jj∘JZ∘bG) λb=>by exact qt (y:=(⟨cp,cr,gA,gc,gs,lA,lc,cl,uA,uc,cu,tA,tc,ts,some ⟨d,0,none⟩,sc,rs⟩:aC)) 1 b rfl u ((if_neg (nf (decide_eq_true k))).trans ((if_neg (nf (decide_eq_true B))).trans ((if_neg (by show ¬¬(0≤o.group∧o.group<(abl (rs.map aeB):Nat));rw [abu];exact not_not_intro D)).trans ((if_neg (Ls X G)).trans ((if_neg (by show ¬0≤fidx ts o.task;omega)).trans (if_pos (YZ rfl F om)))))))
 obtain ⟨em,hem⟩:∃l,kH (⟨cp,cr,gA,gc,gs,lA,lc,cl,uA,uc,cu,tA,tc,ts,some ⟨d,0,none⟩,sc,rs⟩:aC).av g c=l:=⟨_,rfl⟩
 have sD:=λh hh=>PZ (x:=(⟨cp,cr,gA,gc,gs,lA,lc,cl,uA,uc,cu,tA,tc,ts,some ⟨d,0,none⟩,sc,rs⟩:aC)) R (by omega:g<J) hem h hh
 have sF:=P5 (x:=(⟨cp,cr,gA,gc,gs,lA,lc,cl,uA,uc,cu,tA,tc,ts,some ⟨d,0,none⟩,sc,rs⟩:aC)) R (by omega:g<J) hem
 obtain ⟨⟨yA,yc,yl⟩,hy⟩:∃y,rs.getD g Rw.zero=y:=⟨_,rfl⟩
 have hys:=hsp g om;rw [hy] at hys
 have hyl:(abl yl:Int)=cp:=hys.1
 repeat (first|clear Z|clear b)
 intro a Z b
 obtain ⟨gy,rfl⟩:=b.jv 7 rfl om hy om
 obtain ⟨Y,hyz⟩:∃z,yl[c]?=some z:=⟨_,abp om⟩
 have mK:=hys.2 Y (abM hyz)
 have hyv:=mK.1.v;have pU:=mK.1.r;have rA:=mK.1.floor
 obtain ⟨C,ht1⟩:∃t,(⟨o.task,o.group,0,o.cpu,o.mask,true,0,0⟩:Tk).put (⟨Y.floor,0,z⟩:En)=t:=⟨_,rfl⟩
 have Gp:C.id=o.task:=by rw [←ht1];rfl
 refine Jb Z b ((JF∘aD∘JP∘Jp 1∘Jf 3∘Jc O0∘Jo (vI g) (by rw [hgg])∘Jf 1∘Jc O0∘Jo (vI c) (by rw [F])∘JK (h:=by exact λb=>PY 1 b rfl R (by show ((c:Nat):Int)<cp;omega) om hem)) λGq Gs XF QC=>(Jp 1∘aG∘Jr∘Jg 2 O1∘Jg 3 O1∘Jg 1 O1∘Jg 7 O1∘fu #[vI o.task,vI o.group,vI 0,vI o.cpu,vQ o.mask,.bool true,vQ 0,vW 0]∘JA #[vI 0,vI 0,vI 0,vI 0,vQ 0,.bool false,vQ 0,vW 0]) λw8 g8=>(JV eU aT) λQD=>(l8∘Jj) λa Z b=>?_)
 refine q9 (λaS wS=>∃(g9:Nat),Fr aS 139 [] [(9,vP g9 0),(8,vP g8 0),(7,abh Gq em Gs),(66,.bool false),(60,.bool false),(40,.bool false),(26,.bool false),(21,.bool false),(15,.bool false),(6,vP H 0),(5,vI 0),(4,vI 0),(3,vP g3 0),(0,vP H 0)]∧Mem W wS (.blk g9 ((⟨Y.floor,0,z⟩:En).cells) 333:: .blk g8 #[vI o.task,vI o.group,vI 0,vI o.cpu,vQ o.mask,.bool true,vQ 0,vW 0] 232:: abj Gq em Gs dD 3 1:: .blk g3 o.cells 214::fM H cp cr gA M gc lA N lc uA O uc tA E tc (some ⟨d,0,none⟩) J sc::fG gA M gc gs::fI lA N lc cl::fI uA O uc cu::fT tA E tc ts::fS (some ⟨d,0,none⟩) J sc rs::(fR rs++(T)))) ?_ ?_
 ·
  refine Jb Z b ((Vs .n [20]) λFL=>(Vp [0]∘Vf 4 3∘Vf 8 1∘Vf 13 4∘Vn 1∘Vf 2 6∘Vc 3 O3∘Vc 5 O2∘Vo (vI g) (by rw [hgg])∘Vy 6 (h:=by exact Yl.iw d g 1 rfl rfl rfl)∘Vy 7 (v:= .slice ((rs.getD g Rw.zero).A) ((rs.getD g Rw.zero).l.length) ((rs.getD g Rw.zero).c)) (h:=by exact aae 8 g Rw.zero om rfl rfl rfl)∘Vo (vS gy (abl yl) yc) (by rw [hy])∘Vc 9 O2∘Vo (vI c) (by rw [F])∘Vy 10 (h:=by exact Yl.iw gy c 3 rfl rfl rfl)∘Vf 11 2∘Vy 12 (v:=vQ Y.floor) (h:=by exact Pd rfl rfl kr (λ_ h=>h.sU 9 (j:=2) rfl om hy (hyz) rfl))∘Vc 14 O2∘Vo (vI z) (by rw [wU])) λa Z b e=>?_)
  refine zc [15,19] kr rfl ?_
  refine all_cons ?_ ?_
  ·refine qu Z (i:=15) rfl rfl ?_
   refine iR Z b [vQ Y.floor,vI z] (.tuple #[.agg ((⟨Y.floor,0,z⟩:En).cells),vI 0]) rfl rfl (Yn Y.floor z rA hz _) λGt I b a Z=>?_
   refine ay (b.pt 9 [0,1,2,3,4,5,6,7,8]) (λe=>?_)
   refine Vb Z b e ((Vp [16]∘Vx 17∘Vx 18∘VA 19 .n #[vQ 0,vW 0,vW 0]) λw9 g9=>λa Z b e=>?_)
   refine s_on Z 20 rfl (cK Z b 0 rfl rfl rfl rfl rfl qm rfl rfl (lS (⟨Y.floor,0,z⟩:En)) λBR b=>?_)
   refine dJ kr ?_
   refine ap Z (bM kr) [21] (bt 22 []) [] λa Z=>?_
   refine qd kr ?_
   exact ⟨g9,Z.sub kr,b.pt 10 [0,1,2,3,4,5,6,7,8,9]⟩
  refine all_cons ?_ all_nil
  refine qu Z (i:=19) rfl rfl ?_
  refine gN Z b #[vQ 0,vW 0,vW 0] ?_
  clear Z b;intro a w9 g9 Z b
  refine ay (b.pt 10 [1,2,3,4,5,6,7,8,9]) (λe=>?_)
  refine Vb Z b e ((VI 15 (.f .n) (h:=by exact λb=>Yn Y.floor z rA hz _)) λGt I=>(Vp [16]∘Vx 17∘Vx 18) λa Z b e=>?_)
  refine s_on Z 20 rfl (cK Z b 0 rfl rfl rfl rfl rfl qm rfl rfl (lS (⟨Y.floor,0,z⟩:En)) λBR b=>?_)
  refine dJ kr ?_
  refine ap Z (bM kr) [21] (bt 22 []) [] λa Z=>?_
  refine qd kr ?_
  exact ⟨g9,Z.sub kr,b.pt 10 [0,1,2,3,4,5,6,7,8,9]⟩
 clear Z b;rintro a w16 ⟨g9,Z,b⟩
 refine Jb Z b ((JP∘d9 qm O0∘JO (h:=by exact λb=>zfo (⟨o.task,o.group,0,o.cpu,o.mask,true,0,0⟩:Tk) C (⟨Y.floor,0,z⟩:En) ht1 fU b (Px rA hz))) λQE=>(mI∘Jr∘Jp 1∘Jn∘Jg 5 O4∘Jy (h:=by exact Yl.makeFunc (fst:=[]) (caps:=[vP g8 0]) rfl rfl rfl)∘JL (h:=by exact λb=>q4s hlt (b.rd (i:=8) rfl) nD (b.blk (i:=1) rfl))) ?_)
 rintro b _ QF ⟨⟨ii,rfl,U,hi1,hi2⟩,I⟩
 refine ⟨_,rfl,_,b.call I,?_⟩
 refine (Jp 1∘l8∘Jj∘JQ∘JP∘Jp 2∘aK∘Jj) (Ji (λGu=>?_) λGu=>?_)
 ·
  obtain ⟨ix,hix⟩:∃n,uS ts C.id=n:=⟨_,rfl⟩
  have BS:=Yu ts C.id
  rw [hix] at U BS
  rw [if_pos om] at U
  refine (JT∘JR∘Jp 1∘Jn∘Jg 5 O4∘Jl∘Jo (vI ix) (by rw [show E=ix by omega])∘Jp 1∘gu∘Jj) λa Z b=>?_
  refine wp_seq ?_
  refine Jb Z b ((Vs (.t (.t (.t (.t (.t (.t (.t (.t (.f .n))))))))) [11]) λGv=>(Vp [0,1,5]∘Vn 2∘Vf 3 5∘Vc 4 O4∘qF 6 eU O1) λa Z b e=>?_)
  refine s_on Z 7 rfl (iT Z b bW [(0,.agg C.cells)] C.cells ?_)
  clear Z b;intro a QG L Z b
  refine ay (b.pt 11 [1,2,3,4,5,6,7,8,10]) (λe=>?_)
  refine s_on Z 8 rfl ?_
  refine kL Z [.slice tA E tc,vI ix,vS L 1 1] rfl rfl (Y5 (i:=ix) (l:=ts) C 9 (λ_ _=>Ns) O0 b hlt om om) ?_
  rintro _ QI ⟨p,q,rfl,Gw,P⟩
  refine ⟨_,rfl,?_⟩
  replace b:=P
  clear Z;intro a Z
  refine ay (b.pt 11 [1,2,3,4,5,6,7,8,10]) (λe=>?_)
  refine Vb Z b e ((Vn 9∘Vf 10 5) λa Z b e=>?_)
  refine s_on Z 11 rfl (fE Z b 5 λBU b=>?_)
  refine dJ kr ?_
  refine qd kr ?_
  refine Jb Z b ((JP∘Jp 2∘Jf 1∘Jc O4∘Jo (vI c) (by rw [F])∘JL (h:=by exact λb=>Ll 5 b rfl (j:=3) rfl de (Lr (Gn:=p) (Gm:=q) (ts':=iH ts ix C) (xV:=E+1) u (by rw [Lb om];omega)) (sD) (sF) V hrg hsp hcr S (by show ((c:Nat):Int)<cp;omega))) ?_)
  rintro b _ BX ⟨Q,rfl,hl2,hsp2,nE,P⟩
  refine ⟨_,rfl,_,(show Mem W BX (.blk L C.cells 232:: .blk g9 ((⟨Y.floor,0,z⟩:En).cells) 333:: .blk g8 C.cells 232:: abj Gq em Gs dD 3 1:: .blk g3 o.cells 214::fM H cp cr gA M gc lA N lc uA O uc p (E+1) q (some ⟨d,0,none⟩) J sc::fG gA M gc gs::fI lA N lc cl::fI uA O uc cu::fT p (E+1) q (iH ts ix C)::fS (some ⟨d,0,none⟩) J sc Q::(fR Q++(T))) from P),?_⟩
  exact (iE∘Jr∘Jp 2∘Jj∘JZ∘bG) λb=>by exact qt (y:=(⟨cp,cr,gA,gc,gs,lA,lc,cl,uA,uc,cu,p,q,(iH ts ix C),some ⟨d,0,none⟩,sc,Q⟩:aC)) 5 b rfl (K9 (Lr (Gn:=p) (Gm:=q) (ts':=iH ts ix C) (xV:=E+1) u (by rw [Lb om];omega)) hl2) ((Yy (x:=(⟨cp,cr,gA,gc,gs,lA,lc,cl,uA,uc,cu,tA,tc,ts,some ⟨d,0,none⟩,sc,rs⟩:aC)) (t1:=C) (decide_eq_true k) (decide_eq_true B) D (Ls X G) (by show fidx ts o.task<0;omega) (Qi F om) hgg F (congrArg Sp.floor (wP (x:=(⟨cp,cr,gA,gc,gs,lA,lc,cl,uA,uc,cu,tA,tc,ts,some ⟨d,0,none⟩,sc,rs⟩:aC)) (by show g<abl rs;omega) hy hyz)) (by rw [←ht1,wU];rfl) hem).trans (by rw [show uS ts o.task=ix by rw [←Gp];exact hix];exact congrArg (λs=>(s,(0:Int),0)) nE.symm))
 obtain ⟨ix,hix⟩:∃n,uS ts C.id=n:=⟨_,rfl⟩
 have BS:=Yu ts C.id
 rw [hix] at U BS
 rw [if_neg om] at U
 refine (Jk 11 (vI ix) (h:=by rw [show ii=(ix:Int) by omega])∘JF∘aD) λa Z b=>?_
 refine wp_seq ?_
 refine Jb Z b ((Vs (.t (.t (.t (.t (.t (.t (.t (.t (.f .n))))))))) [11]) λGv=>(Vp [0,1,5]∘Vn 2∘Vf 3 5∘Vc 4 O4∘qF 6 eU O1) λa Z b e=>?_)
 refine s_on Z 7 rfl (iT Z b bW [(0,.agg C.cells)] C.cells ?_)
 clear Z b;intro a QG L Z b
 refine ay (b.pt 11 [1,2,3,4,5,6,7,8,10]) (λe=>?_)
 refine s_on Z 8 rfl ?_
 refine kL Z [.slice tA E tc,vI ix,vS L 1 1] rfl rfl (Y5 (i:=ix) (l:=ts) C 9 (λ_ _=>Ns) O0 b hlt om om) ?_
 rintro _ QI ⟨p,q,rfl,Gw,P⟩
 refine ⟨_,rfl,?_⟩
 replace b:=P
 clear Z;intro a Z
 refine ay (b.pt 11 [1,2,3,4,5,6,7,8,10]) (λe=>?_)
 refine Vb Z b e ((Vn 9∘Vf 10 5) λa Z b e=>?_)
 refine s_on Z 11 rfl (fE Z b 5 λBU b=>?_)
 refine dJ kr ?_
 refine qd kr ?_
 refine Jb Z b ((JP∘Jp 2∘Jf 1∘Jc O4∘Jo (vI c) (by rw [F])∘JL (h:=by exact λb=>Ll 5 b rfl (j:=3) rfl de (Lr (Gn:=p) (Gm:=q) (ts':=iH ts ix C) (xV:=E+1) u (by rw [Lb om];omega)) (sD) (sF) V hrg hsp hcr S (by show ((c:Nat):Int)<cp;omega))) ?_)
 rintro b _ BX ⟨Q,rfl,hl2,hsp2,nE,P⟩
 refine ⟨_,rfl,_,(show Mem W BX (.blk L C.cells 232:: .blk g9 ((⟨Y.floor,0,z⟩:En).cells) 333:: .blk g8 C.cells 232:: abj Gq em Gs dD 3 1:: .blk g3 o.cells 214::fM H cp cr gA M gc lA N lc uA O uc p (E+1) q (some ⟨d,0,none⟩) J sc::fG gA M gc gs::fI lA N lc cl::fI uA O uc cu::fT p (E+1) q (iH ts ix C)::fS (some ⟨d,0,none⟩) J sc Q::(fR Q++(T))) from P),?_⟩
 exact (iE∘Jr∘Jp 2∘Jj∘JZ∘bG) λb=>by exact qt (y:=(⟨cp,cr,gA,gc,gs,lA,lc,cl,uA,uc,cu,p,q,(iH ts ix C),some ⟨d,0,none⟩,sc,Q⟩:aC)) 5 b rfl (K9 (Lr (Gn:=p) (Gm:=q) (ts':=iH ts ix C) (xV:=E+1) u (by rw [Lb om];omega)) hl2) ((Yy (x:=(⟨cp,cr,gA,gc,gs,lA,lc,cl,uA,uc,cu,tA,tc,ts,some ⟨d,0,none⟩,sc,rs⟩:aC)) (t1:=C) (decide_eq_true k) (decide_eq_true B) D (Ls X G) (by show fidx ts o.task<0;omega) (Qi F om) hgg F (congrArg Sp.floor (wP (x:=(⟨cp,cr,gA,gc,gs,lA,lc,cl,uA,uc,cu,tA,tc,ts,some ⟨d,0,none⟩,sc,rs⟩:aC)) (by show g<abl rs;omega) hy hyz)) (by rw [←ht1,wU];rfl) hem).trans (by rw [show uS ts o.task=ix by rw [←Gp];exact hix];exact congrArg (λs=>(s,(0:Int),0)) nE.symm))
def Gx:EI abm 277 215 .nilFunc 1 8:=⟨by kernel_rfl,by kernel_rfl,rfl,by omega⟩
def o9 (k:Nat):FuncId:=[148,149,150,150,151,152,153,154,155,156].getD k 0
def fewer (h:k<10):k=0∨k=1∨k=2∨k=3∨k=4∨k=5∨k=6∨k=7∨k=8∨k=9:=by omega
def qzs (h:k<10):callable abm (o9 k)=true:=by
 rcases fewer h with rfl|rfl|rfl|rfl|rfl|rfl|rfl|rfl|rfl|rfl<;>kernel_rfl
theorem zfp (gm:Nat) {k:Nat} (h:k<10):(#[.func (.func 148) #[vP gm 0] #[],.func (.func 149) #[vP gm 0] #[],.func (.func 150) #[vP gm 0] #[],.func (.func 150) #[vP gm 0] #[],.func (.func 151) #[vP gm 0] #[],.func (.func 152) #[vP gm 0] #[],.func (.func 153) #[vP gm 0] #[],.func (.func 154) #[vP gm 0] #[],.func (.func 155) #[vP gm 0] #[],.func (.func 156) #[vP gm 0] #[]]:Array Value)[k]?=some (.func (.func (o9 k)) #[vP gm 0] #[]):=by
 rcases fewer h with rfl|rfl|rfl|rfl|rfl|rfl|rfl|rfl|rfl|rfl<;>rfl
section
variable {W w:World} {F T:List Fact} {x y:aC} {ng nl nu nt ns gm:Nat} {o:bC}
def qzt (n:Nat) (f:Mem W w F) (g:F.drop n=jm gm x ng nl nu nt ns++T) (c:dz x ng nl nu nt ns) (e:GoodS x.av) (d:o.Ok) (h:k<10) (hk:o.kind=k+1):Calls abm (o9 k) #[vP gm 0,.agg o.cells] w (jX W gm (F.take n++T) (bX x.av o)):=by
 have a:=f.front n g
 have b:=(Ld e.sh.sort).2 e.cur
 unfold bX
 rcases fewer h with rfl|rfl|rfl|rfl|rfl|rfl|rfl|rfl|rfl|rfl<;>rw [hk]
 ·exact qt5 W w x gm ng nl nu nt ns c o d _ a
 ·exact qt2 W w x gm ng nl nu nt ns c o d _ a
 ·exact Y6 W w x gm ng nl nu nt ns c o d _ a b
 ·exact Y6 W w x gm ng nl nu nt ns c o d _ a b
 ·exact qzm W w x gm ng nl nu nt ns c o d _ a b
 ·exact qzl W w x gm ng nl nu nt ns c o d _ a
 ·exact qlu W w x gm ng nl nu nt ns c o d _ a
 ·exact qoj W w x gm ng nl nu nt ns c o d _ a
 ·exact qol W w x gm ng nl nu nt ns c o d _ a
 ·exact qom W w x gm ng nl nu nt ns c o d _ a
def zi0 (c:Mem W w (mo gm y++T)) (hy:GoodS y.av):Calls abm 157 #[vP gm 0] w (λr b=>∃z:aC,r= .returned (.tuple #[])∧z.av=eX y.av∧Mem W b (mo gm z++T)):=
 (qzk W w y gm _ _ _ _ _ (Le hy.sh) T c).mono λr b ⟨a,e,d,_,hs,hm⟩=>⟨{y with rs:=a},e,hs,Mem.toB hm ⟨rfl,rfl,rfl,rfl,d⟩⟩
def uZ (s:aW) (out:gT):Prop:=out.2.2≠0→out.1=s∧out.2.1=0
def qzu (s:aW) (o:bC):uZ s (bX s o):=by
 have key:∀e:Nat,uZ s (s,0,e):=λe _=>⟨rfl,rfl⟩
 have a:∀(t:aW) (g:Int),uZ s (t,g,0):=λt g h=>absurd rfl h
 unfold bX
 split
 ·unfold xK;repeat' split
  all_goals first|exact key _|exact a _ _
 ·unfold xL;repeat' split
  all_goals first|exact key _|exact a _ _
 ·unfold qX;repeat' split
  all_goals first|exact key _|exact a _ _
 ·unfold qX;repeat' split
  all_goals first|exact key _|exact a _ _
 ·unfold jq;repeat' split
  all_goals first|exact key _|exact a _ _|(dsimp only;split<;>exact a _ _)
 ·unfold ku;repeat' split
  all_goals first|exact key _|exact a _ _
 ·unfold xM;repeat' split
  all_goals first|exact key _|exact a _ _
 ·unfold xO;repeat' split
  all_goals first|exact key _|exact a _ _
 ·unfold xP;repeat' split
  all_goals first|exact key _|exact a _ _
 ·unfold uK;repeat' split
  all_goals first|exact key _|exact a _ _
 ·exact key _
theorem q4t (h:(bX s o).2.2≠0):(bX s o).1=s∧(bX s o).2.1=0:=qzu s o h
def Za (h:o.kind<1∨10<o.kind):qY s o=(s,0,2):=by
 have e:bX s o=(s,0,2):=by
  unfold bX
  split<;>first|rfl|omega
 unfold qY
 rw [e]
 rfl
theorem QJ (h:(bX s o).2.2≠0):qY s o=(s,0,(bX s o).2.2):=by unfold qY;rw [if_pos h]
theorem QK (h:(bX s o).2.2=0):qY s o=(eX (bX s o).1,(bX s o).2.1,0):=by unfold qY;rw [if_neg om]
end
def q96 (W w:World) (x:aC) (gm:Nat) (ng nl nu nt ns:Nat) (B:dz x ng nl nu nt ns) (J:GoodS x.av) (o:bC) (C:o.Ok) (T:List Fact) (b:Mem W w (jm gm x ng nl nu nt ns++T)):
    Calls abm 102 #[vP gm 0,.agg o.cells] w (jX W gm T (qY x.av o)):=by
 obtain ⟨cp,cr,gA,gc,gs,lA,lc,cl,uA,uc,cu,tA,tc,ts,sA,sc,rs⟩:=x
 replace b:Mem W w (fM gm cp cr gA ng gc lA nl lc uA nu uc tA nt tc sA ns sc::fG gA ng gc gs::fI lA nl lc cl::fI uA nu uc cu::fT tA nt tc ts::fS sA ns sc rs::(fR rs++(T))):=b
 obtain ⟨n,p,q,r,s⟩:=B.ln
 replace n:abl gs=ng:=n;replace p:abl cl=nl:=p;replace q:abl cu=nu:=q;replace r:abl ts=nt:=r;replace s:abl rs=ns:=s
 have K:=C.kind
 refine (lQ b Tryz.func102 67) ?_
 refine (JP∘JE) λN D=>(Jp 2∘Jj∘JQ∘JP∘Jp 1∘Jy (v:= .bool false) (h:=by exact aaC rfl rfl rfl)∘Jp 2∘Jn∘Jg 7 O1∘Jp 2∘aG∘Jj∘JF∘aD∘JP∘Jp 1∘Jy (h:=by exact Yl.makeFunc (fst:=[vP gm 0]) (caps:=[]) rfl rfl rfl)∘Jp 1∘Jy (h:=by exact Yl.makeFunc (fst:=[vP gm 0]) (caps:=[]) rfl rfl rfl)∘Jp 1∘Jy (h:=by exact Yl.makeFunc (fst:=[vP gm 0]) (caps:=[]) rfl rfl rfl)∘Jp 1∘Jy (h:=by exact Yl.makeFunc (fst:=[vP gm 0]) (caps:=[]) rfl rfl rfl)∘Jp 1∘Jy (h:=by exact Yl.makeFunc (fst:=[vP gm 0]) (caps:=[]) rfl rfl rfl)∘Jp 1∘Jy (h:=by exact Yl.makeFunc (fst:=[vP gm 0]) (caps:=[]) rfl rfl rfl)∘Jp 1∘Jy (h:=by exact Yl.makeFunc (fst:=[vP gm 0]) (caps:=[]) rfl rfl rfl)∘Jp 1∘Jy (h:=by exact Yl.makeFunc (fst:=[vP gm 0]) (caps:=[]) rfl rfl rfl)∘Jp 1∘Jy (h:=by exact Yl.makeFunc (fst:=[vP gm 0]) (caps:=[]) rfl rfl rfl)∘Jp 1∘Jy (h:=by exact Yl.makeFunc (fst:=[vP gm 0]) (caps:=[]) rfl rfl rfl)∘JU Gx #[.func (.func 148) #[vP gm 0] #[],.func (.func 149) #[vP gm 0] #[],.func (.func 150) #[vP gm 0] #[],.func (.func 150) #[vP gm 0] #[],.func (.func 151) #[vP gm 0] #[],.func (.func 152) #[vP gm 0] #[],.func (.func 153) #[vP gm 0] #[],.func (.func 154) #[vP gm 0] #[],.func (.func 155) #[vP gm 0] #[],.func (.func 156) #[vP gm 0] #[]]) λL e=>(Jp 1∘aG∘Jj∘JQ∘JP∘Jg 0 O1∘Jp 2) (Ji (λt=>?_) λt=>?_)
 ·
  exact (Jp 7∘aG∘Jj∘JT∘JP∘Jp 2∘Jj∘JZ∘bG) λb=>by exact qt (y:=(⟨cp,cr,gA,gc,gs,lA,lc,cl,uA,uc,cu,tA,tc,ts,sA,sc,rs⟩:aC)) 2 b rfl B.ln (Za om)
 refine (Jg 0 O1∘Jw .i64∘Jp 1∘Jl∘Jp 2∘aG∘Jj) (Ji (λu=>?_) λu=>?_)
 ·
  exact (JT∘JP∘Jp 2∘Jj∘JZ∘bG) λb=>by exact qt (y:=(⟨cp,cr,gA,gc,gs,lA,lc,cl,uA,uc,cu,tA,tc,ts,sA,sc,rs⟩:aC)) 2 b rfl B.ln (Za om)
 obtain ⟨k,E⟩:∃k:Nat,o.kind=k+1:=⟨o.kind-1,by omega⟩
 have g:k<10:=by omega
 refine (JF∘aD) λa Z b=>?_
 refine wp_seq ?_
 refine Em b [.blk e #[.func (.func 148) #[vP gm 0] #[],.func (.func 149) #[vP gm 0] #[],.func (.func 150) #[vP gm 0] #[],.func (.func 150) #[vP gm 0] #[],.func (.func 151) #[vP gm 0] #[],.func (.func 152) #[vP gm 0] #[],.func (.func 153) #[vP gm 0] #[],.func (.func 154) #[vP gm 0] #[],.func (.func 155) #[vP gm 0] #[],.func (.func 156) #[vP gm 0] #[]] 215,.blk D o.cells 214] [0,1] [] λb j=>?_
 refine ap Z (λ_=>j) [0,1] (bf 13 [0,1]) [(52,vP D 0),(51,vS e 10 10)] λa Z=>?_
 refine dO Z j 2 1 (v:=vB o.kind) λa Z=>?_
 refine rQ Z (λ_=>j) (i:=3) rfl rfl (d:=54) rfl de kr (λ_ _ _ h=>h) (v:=vB (IntKind.u8.wrap ((o.kind:Int)-1))) (λ_=>Yl.pure kr) λa Z=>?_
 replace Z:=Z.sp 54 (vB k) rfl (by rw [IntKind.wrap_u8];congr 1;omega)
 refine jG Z j 4 rfl (v:=vP e (k*1)) (Yl.iw e k 1 rfl rfl rfl) λa Z=>?_
 refine jG Z j 5 rfl (v:= .func (.func (o9 k)) #[vP gm 0] #[]) (Pd rfl rfl kr (λ_ h=>h.cell (i:=0) rfl (by rw [acX];exact zfp gm g))) λa Z=>?_
 refine jG Z j 6 rfl (v:= .agg o.cells) (Pe rfl rfl mh rfl (λ_ h=>qi (h.blk (i:=1) rfl))) λa Z=>?_
 refine s_on Z 7 rfl ?_
 refine mU Z (f:=(o9 k)) (vs:=[.agg o.cells]) (fst:=[vP gm 0]) (caps:=[]) rfl rfl rfl (qzs g) rfl de (qzt 2 b rfl B J C g E) ?_
 rintro _ G ⟨y,rfl,l,m⟩
 refine ⟨_,rfl,?_⟩
 replace b:=(show Mem W G (.blk e #[.func (.func 148) #[vP gm 0] #[],.func (.func 149) #[vP gm 0] #[],.func (.func 150) #[vP gm 0] #[],.func (.func 150) #[vP gm 0] #[],.func (.func 151) #[vP gm 0] #[],.func (.func 152) #[vP gm 0] #[],.func (.func 153) #[vP gm 0] #[],.func (.func 154) #[vP gm 0] #[],.func (.func 155) #[vP gm 0] #[],.func (.func 156) #[vP gm 0] #[]] 215:: .blk D o.cells 214::(mo gm y++(T))) from m.back)
 clear Z;intro a Z
 refine ay (b.pk [0,1]) (λj=>?_)
 refine ap Z (λ_=>j) [8,9,10,11,12] (bt 13 []) [(8,vI ((bX (⟨cp,cr,gA,gc,gs,lA,lc,cl,uA,uc,cu,tA,tc,ts,sA,sc,rs⟩:aC).av o).2.2)),(7,vI ((bX (⟨cp,cr,gA,gc,gs,lA,lc,cl,uA,uc,cu,tA,tc,ts,sA,sc,rs⟩:aC).av o).2.1))] λa Z=>?_
 refine qd kr ?_
 refine Jb Z b ((JQ∘JP∘Jp 2∘aK∘Jj) (Jh (λc=>?_) λc=>?_))
 ·
  replace c:(bX (⟨cp,cr,gA,gc,gs,lA,lc,cl,uA,uc,cu,tA,tc,ts,sA,sc,rs⟩:aC).av o).2.2≠0:=by omega
  exact (JT∘JP∘Jp 3∘Jj∘JZ∘bG) λb=>by rw [QJ c];exact ⟨y,rfl,l.trans (q4t c).1,b.iA 2 rfl⟩
 replace c:(bX (⟨cp,cr,gA,gc,gs,lA,lc,cl,uA,uc,cu,tA,tc,ts,sA,sc,rs⟩:aC).av o).2.2=0:=by omega
 have A:=c
 have H:GoodS y.av:=by rw [l];exact PV C J A
 refine (JF∘aD∘JP∘Jp 1∘JL (h:=by exact λb=>zi0 (b.iA 2 rfl) H)) ?_
 rintro b _ M ⟨z,rfl,I,m⟩
 refine ⟨_,rfl,_,m,?_⟩
 exact (mI∘Jr∘Jp 3∘Jj∘JZ∘bG) λb=>by rw [QK A];exact ⟨z,rfl,I.trans (by rw [l]),b⟩
def BZ (w:World) (e:TypeId) (sz n:Nat) (xs:List Value) (r:Ending) (a:World):Prop:=
 (∃A c,r= .returned (.slice A n c)∧a.ownsRow w.heap.size e sz (.slice A n c) n xs∧n≤c)∧Below w.heap.size w a
def Lv {e:TypeId} {sz:Nat} {xs:List Value} (hr:Rd w w.heap.size sz A n xs) (h:A.isNone=true) (hb:Below w.heap.size w W):BZ w e sz n xs (.returned (.slice none 0 0)) W:=by
 have a:n=0:=by
  rcases ach n with h0|h0
  ·exact h0
  ·obtain ⟨c,rfl,_⟩:=hr.row h0
   cases h
 subst a
 have b:xs=[]:=adx.1 (by rw [hr.len];omega)
 subst b
 exact ⟨⟨none,0,rfl,acK _ _ _ _,abq _⟩,hb⟩
def jI (z:List Rw) (m:Nat):List Rw:=z++abD m Rw.zero
theorem Zb (z:List Rw) (m:Nat):abl (jI z m)=abl z+m:=by unfold jI;rw [abn,ab4]
def Zc (F:α→Value) (z:α) (m:Nat):(madeCells #[F z] (m*1)).toList=(abD m z).map F:=by
 rw [acX]
 unfold madeCells
 refine aen (by simp) λi h1 h2=>?_
 simp [Nat.mod_one]
def q4v (m:Nat):(madeCells #[.slice none 0 0] (m*1)).toList=(jI [] m).map aac:=Zc aac Rw.zero m
theorem qzv (m:Nat):(madeCells (Value.slice none 0 0).cells (m*1)).toList=(jI [] m).map aac:=q4v m
theorem q97 {z:List Rw} (y:Rw) (h:0<m):(jI z m).set (abl z) y=jI (z++[y]) (m-1):=by
 obtain ⟨k,rfl⟩:∃k,m=k+1:=⟨m-1,by omega⟩
 unfold jI
 rw [afp,if_neg om,adK,List.replicate_succ,aeW,aby]
 rfl
theorem q4w (z:List Rw):jI z 0=z:=by unfold jI;rw [List.replicate_zero,abU]
def q4x {x:aC} {z:List Rw} {gc lc uc tc:Nat} {lA uA tA:Option Addr} (hz:abl z=i) (hi:i=n) (h1:abl x.gs≤gc) (h2:abl x.cl≤lc) (h3:abl x.cu≤uc) (h4:abl x.ts≤tc) (h5:∀q∈z,abl q.l≤q.c) (h6:x.rs.map aeB=z.map aeB)
  (hm:Mem w W (.row (.slice gA (abl x.gs) gc) (abl x.gs) (x.gs.flatMap eO) 198 2:: .row (.slice lA (abl x.cl) lc) (abl x.cl) (x.cl.map aP) 3 1:: .row (.slice uA (abl x.cu) uc) (abl x.cu) (x.cu.map aP) 3 1:: .row (.slice tA (abl x.ts) tc) (abl x.ts) (x.ts.flatMap bI) 232 8:: .row (.slice (some ⟨g,0,none⟩) n n) n ((jI z (n-i)).map aac) 176 1::kI 200 z)):
  XT w x (.returned (.agg #[.int .i64 x.ak,.int .u64 (x.aj:Int),.slice gA (abl x.gs) gc,.slice lA (abl x.cl) lc,.slice uA (abl x.cu) uc,.slice tA (abl x.ts) tc,.slice (some ⟨g,0,none⟩) n n])) W:=by
 subst hz
 subst hi
 rw [adK,q4w] at hm
 exact ⟨⟨x.ak,x.aj,gA,gc,x.gs,lA,lc,x.cl,uA,uc,x.cu,tA,tc,x.ts,some ⟨g,0,none⟩,abl z,z⟩,rfl,⟨⟨rfl,rfl,rfl⟩,rfl,rfl,rfl,h6⟩,⟨h1,h2,h3,h4,abq _,h5⟩,hm⟩
def qt8 (A:Option Addr) (c:Nat) (l:List Gr) (w:World) (hr:Rd w w.heap.size 2 A (abl l) (l.flatMap eO)) (k:abl l≤1000000):
    Calls abm 192 #[abh A l c] w (BZ w 198 2 (abl l) (l.flatMap eO)):=by
 refine (dV Tryz.func192 8) ?_
 refine (JP∘Jp 1∘Jj∘JQ∘JP∘Jp 1∘Jy (v:= .bool A.isNone) (h:=by exact aas rfl rfl rfl)∘aK∘Jj) (Ju (λe=>?_) λe=>?_)
 ·
  exact (JT∘JP∘Jp 1∘Jj∘JZ∘aZ) λb=>Lv hr (by simpa using e) b.below
 refine (JF∘aD∘JP) λa Z b=>?_
 refine fo Z 0 rfl rfl ?_
 refine J6 Z b rfl iO rfl de ?_
 clear Z b;intro a m n Z b
 refine Jb Z b ((Jp 1∘JD (l.flatMap eO) 0 (λ_ _=>aT) iO (hr:=by exact λb=>b.old hr) (h1:=by exact FQ _)) λo g j f=>?_)
 have d:0+abl l=abl l:=acj _
 rw [d] at f
 exact (JC (h:=by exact λb=>b.aY (i:=0) (ys:=l.flatMap eO) rfl d (rfl))∘Jk 7 (.slice g (abl l) j) (h:=by exact iy d)∘Jp 1∘gu∘Jj∘JZ∘aZ) λb=>by exact ⟨⟨_,_,rfl,b.own (i:=0) rfl,f⟩,b.below⟩
def Zd (A:Option Addr) (c:Nat) (l:List Int) (w:World) (hr:Rd w w.heap.size 1 A (abl l) (l.map aP)) (k:abl l≤1000000):
    Calls abm 193 #[abh A l c] w (BZ w 3 1 (abl l) (l.map aP)):=by
 refine (dV Tryz.func193 8) ?_
 refine (JP∘Jp 1∘Jj∘JQ∘JP∘Jp 1∘Jy (v:= .bool A.isNone) (h:=by exact aas rfl rfl rfl)∘aK∘Jj) (Ju (λe=>?_) λe=>?_)
 ·
  exact (JT∘JP∘Jp 1∘Jj∘JZ∘aZ) λb=>Lv hr (by simpa using e) b.below
 refine (JF∘aD∘JP) λa Z b=>?_
 refine fo Z 0 rfl rfl ?_
 refine J6 Z b rfl zu rfl de ?_
 clear Z b;intro a m n Z b
 refine Jb Z b ((Jp 1∘JD (l.map aP) 0 (λ_ _=>aT) zu (hr:=by exact λb=>b.old hr) (h1:=by exact Pg _)) λo g j f=>?_)
 have d:0+abl l=abl l:=acj _
 rw [d] at f
 exact (JC (h:=by exact λb=>b.aY (i:=0) (ys:=l.map aP) rfl d (rfl))∘Jk 7 (.slice g (abl l) j) (h:=by exact iy d)∘Jp 1∘gu∘Jj∘JZ∘aZ) λb=>by exact ⟨⟨_,_,rfl,b.own (i:=0) rfl,f⟩,b.below⟩
def qt9 (A:Option Addr) (c:Nat) (l:List Tk) (w:World) (hr:Rd w w.heap.size 8 A (abl l) (l.flatMap bI)) (k:abl l≤1000000):
    Calls abm 194 #[abh A l c] w (BZ w 232 8 (abl l) (l.flatMap bI)):=by
 refine (dV Tryz.func194 8) ?_
 refine (JP∘Jp 1∘Jj∘JQ∘JP∘Jp 1∘Jy (v:= .bool A.isNone) (h:=by exact aas rfl rfl rfl)∘aK∘Jj) (Ju (λe=>?_) λe=>?_)
 ·
  exact (JT∘JP∘Jp 1∘Jj∘JZ∘aZ) λb=>Lv hr (by simpa using e) b.below
 refine (JF∘aD∘JP) λa Z b=>?_
 refine fo Z 0 rfl rfl ?_
 refine J6 Z b rfl bW rfl de ?_
 clear Z b;intro a m n Z b
 refine Jb Z b ((Jp 1∘JD (l.flatMap bI) 0 (λ_ _=>aT) bW (hr:=by exact λb=>b.old hr) (h1:=by exact FR _)) λo g j f=>?_)
 have d:0+abl l=abl l:=acj _
 rw [d] at f
 exact (JC (h:=by exact λb=>b.aY (i:=0) (ys:=l.flatMap bI) rfl d (rfl))∘Jk 7 (.slice g (abl l) j) (h:=by exact iy d)∘Jp 1∘gu∘Jj∘JZ∘aZ) λb=>by exact ⟨⟨_,_,rfl,b.own (i:=0) rfl,f⟩,b.below⟩
theorem qua (A:Option Addr) (c:Nat) (l:List Sp) (w:World) (hr:Rd w w.heap.size 3 A (abl l) (l.flatMap iQ)) (k:abl l≤1000000):
    Calls abm 195 #[abh A l c] w (BZ w 200 3 (abl l) (l.flatMap iQ)):=by
 refine (dV Tryz.func195 8) ?_
 refine (JP∘Jp 1∘Jj∘JQ∘JP∘Jp 1∘Jy (v:= .bool A.isNone) (h:=by exact aas rfl rfl rfl)∘aK∘Jj) (Ju (λe=>?_) λe=>?_)
 ·
  exact (JT∘JP∘Jp 1∘Jj∘JZ∘aZ) λb=>Lv hr (by simpa using e) b.below
 refine (JF∘aD∘JP) λa Z b=>?_
 refine fo Z 0 rfl rfl ?_
 refine J6 Z b rfl lu rfl de ?_
 clear Z b;intro a m n Z b
 refine Jb Z b ((Jp 1∘JD (l.flatMap iQ) 0 (λ_ _=>aT) lu (hr:=by exact λb=>b.old hr) (h1:=by exact Pf _)) λo g j f=>?_)
 have d:0+abl l=abl l:=acj _
 rw [d] at f
 exact (JC (h:=by exact λb=>b.aY (i:=0) (ys:=l.flatMap iQ) rfl d (rfl))∘Jk 7 (.slice g (abl l) j) (h:=by exact iy d)∘Jp 1∘gu∘Jj∘JZ∘aZ) λb=>by exact ⟨⟨_,_,rfl,b.own (i:=0) rfl,f⟩,b.below⟩
theorem Ze (x:aC) (w:World) (K:dZ w x) (H:bN x):
    Calls abm 147 #[.agg x.cells] w (XT w x):=by
 have hfg:=H.g;have hfl:=H.l;have hfu:=H.u;have hft:=H.t;have hfs:=H.s
 refine (dV Tryz.func147 45) ?_
 refine (JP∘JE) λw1 I=>(JA #[vI 0,vQ 0,vN,vN,vN,vN,vN]) λw2 N=>(Jr∘Jf 0∘Jg 2 O1∘JK (h:=by exact λb=>qt8 x.gA x.gc x.gs _ (b.old K.g) (H.g))) λF G w9 V=>(Jf 0∘Jf 2) λa Z b=>?_
 refine fo Z 6 rfl rfl ?_
 refine pQ Z b (i:=2) rfl rfl rfl rfl kr rfl rfl (by simp [aC.cells]) λakK b=>?_
 refine Jb Z b ((qE∘Jj) λa Z b=>?_)
 refine wp_seq ?_
 refine Jb Z b ((Vs .n [10,12,14]) λwd2=>(Vf 0 3∘Vf 3 4∘Vf 6 5∘Vc 1 O2∘Vc 4 O2∘Vc 7 O2∘VK 2 .n (h:=by exact λb=>Zd x.lA x.lc x.cl _ (b.old K.l) (H.l))) λd e KR O=>(Vf 9 3∘VK 5 (.f .n) (h:=by exact λb=>Zd x.uA x.uc x.cu _ (b.old K.u) (H.u))) λj k w17 P=>(VK 8 (.f (.f .n)) (h:=by exact λb=>qt9 x.tA x.tc x.ts _ (b.old K.t) (H.t))) λo p OU Q=>λa Z b HS=>?_)
 refine s_on Z 10 rfl ?_
 refine pQ Z b (i:=5) rfl rfl rfl rfl kr rfl rfl (by simp [aC.cells]) λW b=>?_
 refine dJ kr ?_
 refine ap Z (bM kr) [11] (bt 15 [12,13,14]) [(22,vP I 4)] λa Z=>?_
 refine s_on Z 12 rfl ?_
 refine pQ Z b (i:=5) rfl rfl rfl rfl kr rfl rfl (by simp [aC.cells]) λX b=>?_
 refine dJ kr ?_
 refine ap Z (bM kr) [13] (bt 15 [14]) [(23,vP I 5)] λa Z=>?_
 refine s_on Z 14 rfl ?_
 refine pQ Z b (i:=5) rfl rfl rfl rfl kr rfl rfl (by simp [aC.cells]) λY b=>?_
 refine dJ kr ?_
 refine qd kr ?_
 refine Jb Z b ((JP∘Jg 6 O5∘Jl) λa Z b=>?_)
 refine fo Z 3 rfl rfl ?_
 refine wC Z b (m:=abl x.rs) rfl nJ rfl rfl om om rfl de ?_
 clear Z b;intro a FV D Z b
 refine Jb Z b ((Jp 1∘aG∘Jq) λa Z b=>?_)
 rw [qzv] at b
 replace b:=b.nQ 200 3
 replace b:Mem w _ (.row (vS D (abl x.rs) (abl x.rs)) (abl x.rs) ((jI [] (abl x.rs)).map aac) 176 1:: abk o x.ts p bI 232 8:: abj j x.cu k aP 3 1:: abj d x.cl e aP 3 1:: abk F x.gs G eO 198 2:: .blk N #[vI 0,vQ 0,vN,vN,vN,vN,vN] 48:: .blk I #[vI x.ak,vQ x.aj,abh F x.gs G,abh d x.cl e,abh j x.cu k,abh o x.ts p,abh x.sA x.rs x.sc] 48::kI 200 []):=b
 refine Jb Z b ((JG∘JQ∘JP∘Jg 6 O6∘Jl∘Jp 1∘Jj∘JB) λa Z b=>?_)
 refine qg (λmS aS wS=>∃(i:Nat) (z:List Rw),(i≤abl x.rs)∧(abl z=i)∧(z.map aeB=(x.rs.take i).map aeB)∧(∀q∈z,abl q.l≤q.c)∧mS=abl x.rs-i∧Fr aS 45 [] [(31,vI i),(30,vI (abl x.rs)),(29,abh x.sA x.rs x.sc),(3,vS D (abl x.rs) (abl x.rs)),(2,vP N 0),(1,vP I 0)]∧Mem w wS (.row (vS D (abl x.rs) (abl x.rs)) (abl x.rs) ((jI z (abl x.rs-i)).map aac) 176 1:: abk o x.ts p bI 232 8:: abj j x.cu k aP 3 1:: abj d x.cl e aP 3 1:: abk F x.gs G eO 198 2:: .blk N #[vI 0,vQ 0,vN,vN,vN,vN,vN] 48:: .blk I #[vI x.ak,vQ x.aj,abh F x.gs G,abh d x.cl e,abh j x.cu k,abh o x.ts p,abh x.sA x.rs x.sc] 48::kI 200 z)) (m:=abl x.rs-0) ⟨0,[],abw _,rfl,rfl,(λq h=>by cases h),rfl,Z.sub kr,b.pt 7 [0,1,2,3,4,5,6]⟩ ?_
 clear Z b;rintro mS a w_ ⟨i,z,hi,L,hz,R,rfl,Z,b⟩
 refine Jb Z b ((JP∘Jp 1∘Jj∘JQ) (Ji (λS=>?_) λS=>?_))
 ·
  have E:i<abl x.rs:=by omega
  obtain ⟨y,U⟩:∃q,x.rs.getD i Rw.zero=q:=⟨_,rfl⟩
  have pU:Rd w w.heap.size 3 y.A (abl y.l) (y.l.flatMap iQ):=by rw [←U];exact K.row E
  have hyl:abl y.l≤1000000:=by rw [←U];exact H.r _ (qe Rw.zero E)
  refine (JT∘aD∘JQ∘JB∘JP∘Jp 1) ?_
  obtain ⟨Fy,Fz,M,_⟩:=Rd.sat K.s i
  have J:=K.s;rw [M] at J
  refine (Jk 29 (.slice (some ⟨Fy,Fz,none⟩) (abl x.rs) x.sc) (h:=by rw [M];try rfl)∘gV i 1∘Jy (v:= .slice ((x.rs.getD i Rw.zero).A) ((x.rs.getD i Rw.zero).l.length) ((x.rs.getD i Rw.zero).c)) (h:=by exact aad J i Rw.zero E rfl rfl)∘Jo (.slice y.A (abl y.l) y.c) (by rw [U])∘Jp 2∘Jj∘JR∘Jp 3∘JK (h:=by exact λb=>qua y.A y.c y.l _ (b.old pU) (hyl))) λB C Lj T=>(l9 i 1) λa Z b=>?_
  refine fo Z 5 rfl rfl ?_
  refine zd Z b (i:=1) rfl rfl rfl rfl kr rfl rfl (by rw [abu,Zb];omega) λakM b=>?_
  replace b:=b.bR (i:=1) (ys:=(jI (z++[(⟨B,C,y.l⟩:Rw)]) (abl x.rs- (i+1))).map aac) rfl ((Ka aac _ i (⟨B,C,y.l⟩:Rw) (by rw [Zb];omega)).trans (by rw [show i=abl z from L.symm,q97 (⟨B,C,y.l⟩:Rw) om];rfl))
  refine Jb Z b ((qE∘Jq∘JC (h:=by exact λb=>b.pt (fs':=(abk B y.l C iQ 200 3:: .row (vS D (abl x.rs) (abl x.rs)) (abl x.rs) ((jI (z++[(⟨B,C,y.l⟩:Rw)]) (abl x.rs- (i+1))).map aac) 176 1:: abk o x.ts p bI 232 8:: abj j x.cu k aP 3 1:: abj d x.cl e aP 3 1:: abk F x.gs G eO 198 2:: .blk N #[vI 0,vQ 0,vN,vN,vN,vN,vN] 48:: .blk I #[vI x.ak,vQ x.aj,abh F x.gs G,abh d x.cl e,abh j x.cu k,abh o x.ts p,abh x.sA x.rs x.sc] 48::kI 200 z)) 8 [0,1,2,3,4,5,6,7])∘JC (h:=by exact λb=>aaH (fs:=[.row (vS D (abl x.rs) (abl x.rs)) (abl x.rs) ((jI (z++[(⟨B,C,y.l⟩:Rw)]) (abl x.rs- (i+1))).map aac) 176 1,abk o x.ts p bI 232 8,abj j x.cu k aP 3 1,abj d x.cl e aP 3 1,abk F x.gs G eO 198 2,.blk N #[vI 0,vQ 0,vN,vN,vN,vN,vN] 48,.blk I #[vI x.ak,vQ x.aj,abh F x.gs G,abh d x.cl e,abh j x.cu k,abh o x.ts p,abh x.sA x.rs x.sc] 48]) b)∘JC (h:=by exact λb=>(show Mem w _ (.row (vS D (abl x.rs) (abl x.rs)) (abl x.rs) ((jI (z++[(⟨B,C,y.l⟩:Rw)]) (abl x.rs- (i+1))).map aac) 176 1:: abk o x.ts p bI 232 8:: abj j x.cu k aP 3 1:: abj d x.cl e aP 3 1:: abk F x.gs G eO 198 2:: .blk N #[vI 0,vQ 0,vN,vN,vN,vN,vN] 48:: .blk I #[vI x.ak,vQ x.aj,abh F x.gs G,abh d x.cl e,abh j x.cu k,abh o x.ts p,abh x.sA x.rs x.sc] 48::kI 200 (z++[(⟨B,C,y.l⟩:Rw)])) from b))∘JG∘JR∘bT 1∘Jp 1∘aK∘Jq) λa Z b=>?_)
  replace Z:=Z.sp 29 (abh x.sA x.rs x.sc) rfl (by rw [M])
  exact ⟨_,om,i+1,(z++[(⟨B,C,y.l⟩:Rw)]),by omega,by rw [abn,L];rfl,by rw [abV,hz,q9b E,U];rfl,λq h=>(ab5.1 h).elim (R q) (λh=>by rw [aek] at h;subst h;exact T),rfl,Z.sub kr,b.pt 7 [0,1,2,3,4,5,6]⟩
 have hzt:x.rs.take i=x.rs:=abP om
 have hil:i=abl x.rs:=by omega
 refine (JF∘JX∘JG∘JP∘Jp 1∘Jf 6∘JW xA xA) λakO=>(mI∘Jr∘Jy (v:= .agg #[vI x.ak,vQ x.aj,abh F x.gs G,abh d x.cl e,abh j x.cu k,abh o x.ts p,vS D (abl x.rs) (abl x.rs)]) (h:=by exact Pe rfl rfl fK rfl (λ_ h=>qi (h.blk (i:=6) rfl)))∘JV fK tX) λEO=>(mW∘Jj∘JZ) λa Z b=>?_
 exact iq rfl Z (.cellS (i:=5) Z b rfl rfl fK rfl) (q4x (x:=x) (n:=abl x.rs) (i:=i) L hil V O P Q R (by rw [hzt] at hz;exact hz.symm) (b.pt 7 [4,3,2,1,0]))
def Zf (w:World) (x:aC) (r:Ending) (w':World):Prop:=∃y:aC,r= .returned (.tuple #[.agg y.cells,.int .i64 0])∧kC x y∧eP y∧Mem w w' (jr y)
def Zg (w:World) (s:aW) (r:Ending) (w':World):Prop:=∃(gm:Nat) (y:aC),r= .returned (.tuple #[.pointer (some ⟨gm,0,none⟩),.int .i64 0])∧y.av=s∧Mem w w' (mo gm y)
def Gy (w:World) (r:Ending) (w':World):Prop:=r= .returned (.tuple #[.pointer none,.int .i64 2])∧Below w.heap.size w w'
def nL (w:World) (b:Bool) (s:aW) (r:Ending) (w':World):Prop:=if b=true then Zg w s r w' else Gy w r w'
def q98 {b:Bool} (h:b=false) (hb:Below w.heap.size w w'):nL w b s (.returned (.tuple #[.pointer none,.int .i64 2])) w':=by
 unfold nL
 rw [if_neg (by rw [h];decide)]
 exact ⟨rfl,hb⟩
def q4z {b:Bool} {gm:Nat} {y:aC} (h:b=true) (hs:y.av=s) (hm:Mem w w' (mo gm y)):nL w b s (.returned (.tuple #[.pointer (some ⟨gm,0,none⟩),.int .i64 0])) w':=by
 unfold nL
 rw [if_pos h]
 exact ⟨gm,y,rfl,hs,hm⟩
section
variable {W w w':World} {F T fs gs:List Fact} {x y:aC} {gm:Nat}
theorem Mem.Gz (n:Nat) (h:Mem W w F) (a:F.drop n=mo gm x++T):dZ w x:=h.sw n a ⟨rfl,rfl,rfl,rfl,rfl⟩
theorem Mem.Ca (n:Nat) (h:Mem W w F) (a:F.drop n=mo gm x++T):w.heap[gm]?=some (.cells #[.int .i64 x.ak,.int .u64 (x.aj:Int),.slice x.gA (abl x.gs) x.gc,.slice x.lA (abl x.cl) x.lc,.slice x.uA (abl x.cu) x.uc,.slice x.tA (abl x.ts) x.tc,.slice x.sA (abl x.rs) x.sc,.bool true] 273 (0,0)):=h.nK n a ⟨rfl,rfl,rfl,rfl,rfl⟩
theorem Mem.zho (h:Mem W w fs) {g:Nat} {C ds:Array Value} {t:TypeId} (hb:W.heap[g]?=some (.cells C t (0,0))) (b:C.toList.take ds.size=ds.toList):w.rangeAt g 0 ds.toList:=λj u a=>by
 have c:=h.zj8 hb
 refine c j u ?_
 rw [←b,List.getElem?_take] at a
 split at a
 ·exact a
 ·cases a
def aaW (h:Mem W w fs) (k:Mem w w' gs):Mem W w' gs:=(h.oZ k).iA (abl fs) (by rw [List.drop_left])
end
def q40 (f:α→List Value) (sz:Nat) (a:∀x,abl (f x)=sz) (h0:0<sz) (z:α) (m:Nat):(madeCells (f z).toArray (m*sz)).toList=(abD m z).flatMap f:=by
 unfold madeCells
 have c:abl ((abD m z).flatMap f)=m*sz:=by rw [pO f sz a,ab4]
 refine aen (by rw [c];simp) λi h1 h2=>?_
 have h3:i<m*sz:=by rw [←c];exact h2
 have d:i/sz<abl (abD m z):=by rw [ab4];exact Nat.div_lt_of_lt_mul (by rw [agN];exact h3)
 have b:=adr i h0
 have h4:=yM f sz a (abD m z) (i/sz) (i%sz) d b
 rw [show i/sz*sz+i%sz=i by rw [agN];exact Nat.div_add_mod i sz,abp h2,List.getElem_replicate] at h4
 rw [abp (by rw [a];exact b)] at h4
 injection h4 with h4
 rw [h4]
 simp [a]
 rw [abp (by rw [a];exact b)]
 rfl
def zfq (m:Nat):(madeCells (Value.agg #[.int .u64 0,.int .u32 0,.int .u64 0]).cells (m*3)).toList=(abD m Sp.zero).flatMap iQ:=q40 iQ 3 (λ_=>rfl) de Sp.zero m
theorem q41 (m:Nat):(madeCells #[.int .i64 0] (m*1)).toList=(abD m (0:Int)).map aP:=Zc aP 0 m
def q42 (x:aC) (d:Nat) (w:World) (f:bN x) (g:dZ w x) (hm:w.heap[d]?=some (.cells #[vI x.ak,vQ x.aj,abh x.gA x.gs x.gc,abh x.lA x.cl x.lc,abh x.uA x.cu x.uc,abh x.tA x.ts x.tc,abh x.sA x.rs x.sc,.bool true] 273 (0,0))):
    Calls abm 103 #[vP d 0] w (Zf w x):=by
 refine (dV Tryz.func103 19) ?_
 refine (JP∘JA #[vI 0,vQ 0,vN,vN,vN,vN,vN]) λl j=>(Jp 1∘Jj∘JQ∘JP∘Jp 1∘Jy (v:= .bool false) (h:=by exact aaC rfl rfl rfl)∘Jp 2∘Jn∘Jf 7∘Jy (v:= .bool true) (h:=by exact Pd rfl rfl kr (λ_ h=>h.zr hm rfl))∘Jp 2∘aG∘Jj∘JF∘aD∘JP∘Jp 1∘Jn∘Jf 0∘Jy (v:= .agg x.cells) (h:=by exact Pe rfl rfl fK rfl (λ_ h=>h.zho hm rfl))∘JL (h:=by exact λb=>Ze x _ (g.old b) (f))) ?_
 rintro b _ k ⟨y,rfl,heq,c,hm⟩
 refine ⟨_,rfl,_,(show Mem w _ (.blk j #[vI 0,vQ 0,vN,vN,vN,vN,vN] 48::jr y) from b.oZ hm),?_⟩
 refine (JV fK aT (h1:=by exact Xd y)) λe=>(Jp 1∘l8∘Jj∘JZ) λa Z b=>?_
 exact eZ rfl Z (.cellS (i:=0) Z b rfl rfl fK rfl) (.tmp Z rfl) (⟨y,rfl,heq,c,b.pt 1 []⟩)
def zfr {cp:Int} {gc:Nat} {gs:List Gr} (a:abl gs≤1000000):bN (⟨cp,cr,gA,gc,gs,none,0,[],none,0,[],none,0,[],none,0,[]⟩:aC):=⟨a,abw _,abw _,abw _,abw _,λy b=>by cases b⟩
def zi1 {cp:Int} {gc:Nat} {gs:List Gr} (hr:Rd w w.heap.size 2 gA (abl gs) (gs.flatMap eO)):dZ w (⟨cp,cr,gA,gc,gs,none,0,[],none,0,[],none,0,[],none,0,[]⟩:aC):=⟨hr,Rd.nil,Rd.nil,Rd.nil,Rd.nil,λy a=>by cases a⟩
theorem zi2 {a:List Sp} {gc:Nat} {gs:List Gr} {z:List Rw} (b:Mem W w F) (hr:Rd W W.heap.size 2 gA (abl gs) (gs.flatMap eO)) {q:Nat} (d:abl z=q) (i j k n:Nat) (h1:F[i]?=some (.row (.slice (some ⟨m,0,none⟩) (abl a) (abl a)) (abl a) ((abD (abl a) (0:Int)).map aP) 3 1)) (h2:F[j]?=some (.row (.slice (some ⟨g,0,none⟩) (abl a) (abl a)) (abl a) ((abD (abl a) (0:Int)).map aP) 3 1)) (h3:F[k]?=some (.row (.slice A q c) q (z.map aac) 176 1)) (h4:F.drop n=kI 200 z):dZ w (⟨(abl a:Int),cr,gA,gc,gs,some ⟨m,0,none⟩,abl a,(abD (abl a) (0:Int)),some ⟨g,0,none⟩,abl a,(abD (abl a) (0:Int)),none,0,[],A,c,z⟩:aC):=
 ⟨b.old hr,by show Rd w _ 1 _ (adz _) _;rw [ab4];exact b.rd h1,by show Rd w _ 1 _ (adz _) _;rw [ab4];exact b.rd h2,Rd.nil,by show Rd w _ 1 _ (abl z) _;rw [d];exact b.rd h3,λy e=>b.jO (abZ (h4▸XR e))⟩
def zfs {a:List Sp} {gc:Nat} {gs:List Gr} {z:List Rw} (hr:abD (abl a) Sp.zero=a) (hk:abl z=abl gs) (hz:∀q∈z,q.l=a):(⟨(abl a:Int),cr,gA,gc,gs,some ⟨m,0,none⟩,abl a,(abD (abl a) (0:Int)),some ⟨g,0,none⟩,abl a,(abD (abl a) (0:Int)),none,0,[],A,c,z⟩:aC).av=newS (abl a:Int) cr gs:=by
 have h1:z.map aeB=abD (abl gs) a:=by
  rw [List.eq_replicate_iff]
  refine ⟨by rw [abu];exact hk,λb d=>?_⟩
  obtain ⟨q,e,rfl⟩:=ab6.1 d
  exact hz q e
 unfold aC.av newS
 dsimp only
 rw [h1,abG,hr]
def zft (cp:Int) (cr:Nat) (gA:Option Addr) (gc:Nat) (gs:List Gr) (w:World) (O:(⟨cp,cr,gA,gc,gs,none,0,[],none,0,[],none,0,[],none,0,[]⟩:aC).av.Ok) (Y:abl gs≤1000000) (hr:Rd w w.heap.size 2 gA (abl gs) (gs.flatMap eO)):
    Calls abm 99 #[.agg #[vI cp,vQ cr,abh gA gs gc]] w (nL w (fC (⟨cp,cr,gA,gc,gs,none,0,[],none,0,[],none,0,[],none,0,[]⟩:aC).av) (newS cp cr gs)):=by
 have ak0:=O.aj
 refine (dV Tryz.func99 34) ?_
 refine (JP∘JE) λw1 p=>(Jp 2∘Jj∘JQ∘JP∘d9 xJ O0∘JI (h:=by exact λc=>Xz (⟨cp,cr,gA,gc,gs,none,0,[],none,0,[],none,0,[],none,0,[]⟩:aC) O (zfr Y) _ (zi1 (c.old hr)))) λw6 hbw=>(Jp 1∘bH∘Jj) (Ju (λA=>?_) λA=>?_)
 ·
  exact (JT∘JP∘Jp 2∘Jj∘JZ∘bG) λc=>q98 (by simpa using A) c.below
 obtain ⟨B,C,_,J⟩:=lX (x:=(⟨cp,cr,gA,gc,gs,none,0,[],none,0,[],none,0,[],none,0,[]⟩:aC)) (by simpa using A)
 replace B:1≤cp:=B;replace C:cp≤64:=C;replace J:bU gs=true:=J
 have hgl:=(qp J).2.1
 have P:fC (⟨cp,cr,gA,gc,gs,none,0,[],none,0,[],none,0,[],none,0,[]⟩:aC).av=true:=by simpa using A
 obtain ⟨b,D⟩:∃l:List Sp,abD cp.toNat Sp.zero=l:=⟨_,rfl⟩
 obtain rfl:cp=(abl b:Int):=by rw [←D,ab4];omega
 have Q:abD (abl b) Sp.zero=b:=D
 refine (JF∘aD) λa Z c=>?_
 refine wp_seq ?_
 refine Jb Z c ((Vs .n [9]) λwd3=>λa Z c j=>?_)
 refine Eo (f:=0) (l:=(bt 10 [])) (λt u=>∃(d:Nat) (e:Nat) (g:Nat),Fr t 34 [] [(4,vP g 0),(7,.bool false),(3,vI 0),(2,.pointer none),(1,vP p 0),(0,.agg #[vI (abl b),vQ cr,abh gA gs gc])]∧Mem w u [.blk g #[vI (abl b),vQ cr,abh gA gs gc,vS d (abl b) (abl b),vS e (abl b) (abl b),vN,vN] 48,.row (vS e (abl b) (abl b)) (abl b) ((madeCells #[vI 0] (abl b*1)).toList) 3 1,.row (vS d (abl b) (abl b)) (abl b) ((madeCells #[vI 0] (abl b*1)).toList) 3 1,.blk p #[vI (abl b),vQ cr,abh gA gs gc] 44]) ?_ λE=>?_
 ·
  clear Z c j;rintro a V ⟨d,e,g,Z,c⟩
  refine qd kr ?_
  rw [q41] at c
  replace c:=c.nil 176 1
  replace c:=c.nQ 200 3
  replace c:Mem w _ (.row (vN) 0 [] 176 1:: .blk g #[vI (abl b),vQ cr,abh gA gs gc,vS d (abl b) (abl b),vS e (abl b) (abl b),vN,vN] 48:: .row (vS e (abl b) (abl b)) (abl b) ((abD (abl b) (0:Int)).map aP) 3 1:: .row (vS d (abl b) (abl b)) (abl b) ((abD (abl b) (0:Int)).map aP) 3 1:: .blk p #[vI (abl b),vQ cr,abh gA gs gc] 44::kI 200 []):=c
  refine Jb Z c ((JQ∘JP∘Jg 2 O4∘Jl∘Jp 1∘Jj∘JB) λa Z c=>?_)
  refine qg (λmS t u=>∃(k:Nat) (z:List Rw) (R:Option Addr) (N:Nat),(k≤abl gs)∧(abl z=k)∧(∀q∈z,q.l=b)∧(k≤N)∧mS=abl gs-k∧Fr t 34 [] [(19,vI k),(18,vI (abl gs)),(4,vP g 0),(7,.bool false),(3,vI 0),(2,.pointer none),(1,vP p 0)]∧Mem w u (.row (.slice R k N) k (z.map aac) 176 1:: .blk g #[vI (abl b),vQ cr,abh gA gs gc,vS d (abl b) (abl b),vS e (abl b) (abl b),vN,.slice R k N] 48:: .row (vS e (abl b) (abl b)) (abl b) ((abD (abl b) (0:Int)).map aP) 3 1:: .row (vS d (abl b) (abl b)) (abl b) ((abD (abl b) (0:Int)).map aP) 3 1:: .blk p #[vI (abl b),vQ cr,abh gA gs gc] 44::kI 200 z)) (m:=abl gs-0) ⟨0,[],none,0,abw _,rfl,(λq h=>by cases h),abq _,rfl,Z.sub kr,c.pt 5 [0,1,2,3,4]⟩ ?_
  clear Z c;rintro mS a w_ ⟨k,z,R,N,hk,K,hz,hcs,rfl,Z,c⟩
  refine Jb Z c ((JP∘Jp 1∘Jj∘JQ) (Ji (λS=>?_) λS=>?_))
  ·
   refine (JT∘aD∘JQ∘JB∘Vs (.f .n) [8]) λLp=>(Vf 0 6∘Vf 2 0∘Vc 1 O0∘Vc 3 O3) λa Z c j=>?_
   refine s_on Z 4 rfl ?_
   refine wC Z c (m:=abl b) rfl lu rfl rfl om om rfl de ?_
   clear Z c;intro a w25 o Z c
   refine ay (c.pt 6 [2,3,4,5]) (λj=>?_)
   refine s_on Z 5 rfl (iT Z c nJ [(0,vS o (abl b) (abl b))] #[vS o (abl b) (abl b)] ?_)
   clear Z c;intro a F6 g26 Z c
   refine ay (c.pt 7 [3,4,5,6]) (λj=>?_)
   refine s_on Z 6 rfl (p9 Z c (i:=2) rfl nJ rfl rfl rfl (news:=([(⟨some ⟨o,0,none⟩,abl b,b⟩:Rw)].map aac)) (c.aX (i:=0) (n:=1) (size:=1) rfl rfl) (XU _) om om rfl de ?_)
   clear Z c;intro a FV r s Z c T
   refine ay (c.pt 7 [3,4,5,6]) (λj=>?_)
   refine Vb Z c j ((Vf 7 6) λa Z c j=>?_)
   refine s_on Z 8 rfl (fE Z c 3 λBF c=>?_)
   refine dJ kr ?_
   refine qd kr ?_
   replace c:=c.bR (i:=1) (ys:=b.flatMap iQ) rfl ((zfq _).trans (by rw [Q]))
   replace c:=c.bR (i:=2) (ys:=(z++[(⟨some ⟨o,0,none⟩,abl b,b⟩:Rw)]).map aac) rfl (by rw [abV])
   replace c:=c.pt (fs':=(.row (vS o (abl b) (abl b)) (abl b) (b.flatMap iQ) 200 3:: .row (.slice r (k+1) s) (k+1) ((z++[(⟨some ⟨o,0,none⟩,abl b,b⟩:Rw)]).map aac) 176 1:: .blk g #[vI (abl b),vQ cr,abh gA gs gc,vS d (abl b) (abl b),vS e (abl b) (abl b),vN,.slice r (k+1) s] 48:: .row (vS e (abl b) (abl b)) (abl b) ((abD (abl b) (0:Int)).map aP) 3 1:: .row (vS d (abl b) (abl b)) (abl b) ((abD (abl b) (0:Int)).map aP) 3 1:: .blk p #[vI (abl b),vQ cr,abh gA gs gc] 44::kI 200 z)) 7 [1,2,3,4,5,6]
   replace c:=aaH (fs:=[.row (.slice r (k+1) s) (k+1) ((z++[(⟨some ⟨o,0,none⟩,abl b,b⟩:Rw)]).map aac) 176 1,.blk g #[vI (abl b),vQ cr,abh gA gs gc,vS d (abl b) (abl b),vS e (abl b) (abl b),vN,.slice r (k+1) s] 48,.row (vS e (abl b) (abl b)) (abl b) ((abD (abl b) (0:Int)).map aP) 3 1,.row (vS d (abl b) (abl b)) (abl b) ((abD (abl b) (0:Int)).map aP) 3 1,.blk p #[vI (abl b),vQ cr,abh gA gs gc] 44]) c
   replace c:Mem w _ (.row (.slice r (k+1) s) (k+1) ((z++[(⟨some ⟨o,0,none⟩,abl b,b⟩:Rw)]).map aac) 176 1:: .blk g #[vI (abl b),vQ cr,abh gA gs gc,vS d (abl b) (abl b),vS e (abl b) (abl b),vN,.slice r (k+1) s] 48:: .row (vS e (abl b) (abl b)) (abl b) ((abD (abl b) (0:Int)).map aP) 3 1:: .row (vS d (abl b) (abl b)) (abl b) ((abD (abl b) (0:Int)).map aP) 3 1:: .blk p #[vI (abl b),vQ cr,abh gA gs gc] 44::kI 200 (z++[(⟨some ⟨o,0,none⟩,abl b,b⟩:Rw)])):=c
   refine Jb Z c ((JG∘JR∘bT 1∘Jp 1∘aG∘Jq) λa Z c=>?_)
   exact ⟨_,om,k+1,(z++[(⟨some ⟨o,0,none⟩,abl b,b⟩:Rw)]),r,s,by omega,by rw [abn,K];rfl,λq h=>(ab5.1 h).elim (hz q) (λh=>by rw [aek] at h;subst h;rfl),T,rfl,Z.sub kr,c.pt 5 [0,1,2,3,4]⟩
  have W:abl z=abl gs:=by omega
  refine (JF∘JX∘JG∘JP∘d9 fK O1∘Jo (.agg ((⟨(abl b:Int),cr,gA,gc,gs,some ⟨d,0,none⟩,abl b,(abD (abl b) (0:Int)),some ⟨e,0,none⟩,abl b,(abD (abl b) (0:Int)),none,0,[],R,N,z⟩:aC).cells)) (by unfold aC.cells;rw [ab4,K];try rfl)∘JL (h:=by exact λc=>Ze (⟨(abl b:Int),cr,gA,gc,gs,some ⟨d,0,none⟩,abl b,(abD (abl b) (0:Int)),some ⟨e,0,none⟩,abl b,(abD (abl b) (0:Int)),none,0,[],R,N,z⟩:aC) _ (zi2 c hr K 3 2 0 5 rfl rfl rfl rfl) (⟨Y,by rw [ab4];omega,by rw [ab4];omega,abw _,by show abl z≤1000000;omega,λq hq=>by rw [hz q hq];omega⟩))) ?_
  rintro c _ Kz ⟨y,rfl,heq,hcap,hm⟩
  refine ⟨_,rfl,_,(aaW c hm),?_⟩
  exact (fu #[vI y.ak,vQ y.aj,abh y.gA y.gs y.gc,abh y.lA y.cl y.lc,abh y.uA y.cu y.uc,abh y.tA y.ts y.tc,abh y.sA y.rs y.sc,.bool true]∘JE) λKo g33=>(Jp 2∘Jj∘JZ∘bG) λc=>q4z (y:=y) P ((KW heq).trans (zfs Q W hz)) (c.pt 1 [0])
 refine Eo (f:=2) (l:=(bt 10 [7,9])) (λt u=>∃(d:Nat) (g:Nat) (e:Nat),Fr t 34 [] [(14,vS e (abl b) (abl b)),(4,vP g 0),(11,vS d (abl b) (abl b)),(8,.agg #[vI (abl b),vQ cr,abh gA gs gc]),(7,.bool false),(3,vI 0),(2,.pointer none),(1,vP p 0),(0,.agg #[vI (abl b),vQ cr,abh gA gs gc])]∧Mem w u [.row (vS e (abl b) (abl b)) (abl b) ((madeCells #[vI 0] (abl b*1)).toList) 3 1,.blk g #[vI 0,vQ 0,vN,vN,vN,vN,vN] 48,.row (vS d (abl b) (abl b)) (abl b) ((madeCells #[vI 0] (abl b*1)).toList) 3 1,.blk p #[vI (abl b),vQ cr,abh gA gs gc] 44]) ?_ λF=>?_
 ·
  clear Z c j;rintro a V ⟨d,g,e,Z,c⟩
  have j:=c.pk (fs':=[.blk p #[vI (abl b),vQ cr,abh gA gs gc] 44]) [3]
  refine Vb Z c j ((Vy 7 (v:= .agg #[vI (abl b),vQ cr,abh gA gs gc,vS d (abl b) (abl b),vS e (abl b) (abl b),vN,vN]) (h:=by exact Yl.build (vs:=[(0,.agg #[vI (abl b),vQ cr,abh gA gs gc]),(1,vS d (abl b) (abl b)),(2,vS e (abl b) (abl b))]) rfl kr kr)) λa Z c j=>?_)
  refine s_on Z 9 rfl (cK Z c 1 rfl rfl rfl rfl rfl fK rfl rfl (by simp [acd]) λU c=>?_)
  refine dJ kr ?_
  exact E _ _ ⟨d,e,g,Z.sub kr,c.pk [1,0,2,3]⟩
 refine Eo (f:=3) (l:=(bt 10 [7,8,9])) (λt u=>∃(d:Nat) (e:Nat),Fr t 34 [] [(14,vS e (abl b) (abl b)),(11,vS d (abl b) (abl b)),(8,.agg #[vI (abl b),vQ cr,abh gA gs gc]),(7,.bool false),(3,vI 0),(2,.pointer none),(1,vP p 0),(0,.agg #[vI (abl b),vQ cr,abh gA gs gc])]∧Mem w u [.row (vS e (abl b) (abl b)) (abl b) ((madeCells #[vI 0] (abl b*1)).toList) 3 1,.row (vS d (abl b) (abl b)) (abl b) ((madeCells #[vI 0] (abl b*1)).toList) 3 1,.blk p #[vI (abl b),vQ cr,abh gA gs gc] 44]) ?_ λG=>?_
 ·
  clear Z c j;rintro a V ⟨d,e,Z,c⟩
  have j:=c.pk (fs':=[.blk p #[vI (abl b),vQ cr,abh gA gs gc] 44]) [2]
  refine Vb Z c j ((Vy 7 (v:= .agg #[vI (abl b),vQ cr,abh gA gs gc,vS d (abl b) (abl b),vS e (abl b) (abl b),vN,vN]) (h:=by exact Yl.build (vs:=[(0,.agg #[vI (abl b),vQ cr,abh gA gs gc]),(1,vS d (abl b) (abl b)),(2,vS e (abl b) (abl b))]) rfl kr kr)∘VA 8 (.f (.f .n)) #[vI 0,vQ 0,vN,vN,vN,vN,vN]) λX g=>λa Z c j=>?_)
  refine s_on Z 9 rfl (cK Z c 0 rfl rfl rfl rfl rfl fK rfl rfl (by simp [acd]) λU c=>?_)
  refine dJ kr ?_
  exact E _ _ ⟨d,e,g,Z.sub kr,c.pk [0,1,2,3]⟩
 refine Eo (f:=3) (l:=(bt 10 [6,7,9])) (λt u=>∃(d:Nat) (g:Nat),Fr t 34 [] [(4,vP g 0),(11,vS d (abl b) (abl b)),(13,vI (abl b)),(8,.agg #[vI (abl b),vQ cr,abh gA gs gc]),(7,.bool false),(3,vI 0),(2,.pointer none),(1,vP p 0),(0,.agg #[vI (abl b),vQ cr,abh gA gs gc])]∧Mem w u [.blk g #[vI 0,vQ 0,vN,vN,vN,vN,vN] 48,.row (vS d (abl b) (abl b)) (abl b) ((madeCells #[vI 0] (abl b*1)).toList) 3 1,.blk p #[vI (abl b),vQ cr,abh gA gs gc] 44]) ?_ λH=>?_
 ·
  clear Z c j;rintro a V ⟨d,g,Z,c⟩
  have j:=c.pk (fs':=[.blk p #[vI (abl b),vQ cr,abh gA gs gc] 44]) [2]
  refine s_on Z 6 rfl ?_
  refine wC Z c (m:=abl b) rfl zu rfl rfl om om rfl de ?_
  clear Z c;intro a L e Z c
  refine ay (c.pk [3]) (λj=>?_)
  exact F _ _ ⟨d,g,e,Z.sub kr,c.pk [0,1,2,3]⟩
 refine Eo (f:=3) (l:=(bt 10 [3,7,9])) (λt u=>∃(e:Nat) (g:Nat),Fr t 34 [] [(4,vP g 0),(14,vS e (abl b) (abl b)),(10,vI (abl b)),(8,.agg #[vI (abl b),vQ cr,abh gA gs gc]),(7,.bool false),(3,vI 0),(2,.pointer none),(1,vP p 0),(0,.agg #[vI (abl b),vQ cr,abh gA gs gc])]∧Mem w u [.blk g #[vI 0,vQ 0,vN,vN,vN,vN,vN] 48,.row (vS e (abl b) (abl b)) (abl b) ((madeCells #[vI 0] (abl b*1)).toList) 3 1,.blk p #[vI (abl b),vQ cr,abh gA gs gc] 44]) ?_ λI=>?_
 ·
  clear Z c j;rintro a V ⟨e,g,Z,c⟩
  have j:=c.pk (fs':=[.blk p #[vI (abl b),vQ cr,abh gA gs gc] 44]) [2]
  refine s_on Z 3 rfl ?_
  refine wC Z c (m:=abl b) rfl zu rfl rfl om om rfl de ?_
  clear Z c;intro a M d Z c
  refine ay (c.pk [3]) (λj=>?_)
  exact F _ _ ⟨d,g,e,Z.sub kr,c.pk [2,1,0,3]⟩
 refine Vb Z c j ((Vf 1 0∘Vf 4 0∘qF 0 xJ O0∘Vc 2 O0∘Vc 5 O0) λa Z c j=>?_)
 refine zc [3,6,8] kr rfl ?_
 refine all_cons ?_ ?_
 ·refine qu Z (i:=3) rfl rfl ?_
  refine wC Z c (m:=abl b) rfl zu rfl rfl om om rfl de ?_
  clear Z c;intro a M d Z c
  refine ay (c.pk [1]) (λj=>?_)
  refine zc [6,8] kr rfl ?_
  refine all_cons ?_ ?_
  ·refine qu Z (i:=6) rfl rfl ?_
   refine wC Z c (m:=abl b) rfl zu rfl rfl om om rfl de ?_
   clear Z c;intro a L e Z c
   refine ay (c.pk [2]) (λj=>?_)
   exact G _ _ ⟨d,e,Z.sub kr,c.pk [0,1,2]⟩
  refine all_cons ?_ all_nil
  refine qu Z (i:=8) rfl rfl ?_
  refine gN Z c #[vI 0,vQ 0,vN,vN,vN,vN,vN] ?_
  clear Z c;intro a X g Z c
  refine ay (c.pk [2]) (λj=>?_)
  exact H _ _ ⟨d,g,Z.sub kr,c.pk [0,1,2]⟩
 refine all_cons ?_ ?_
 ·refine qu Z (i:=6) rfl rfl ?_
  refine wC Z c (m:=abl b) rfl zu rfl rfl om om rfl de ?_
  clear Z c;intro a L e Z c
  refine ay (c.pk [1]) (λj=>?_)
  refine zc [3,8] kr rfl ?_
  refine all_cons ?_ ?_
  ·refine qu Z (i:=3) rfl rfl ?_
   refine wC Z c (m:=abl b) rfl zu rfl rfl om om rfl de ?_
   clear Z c;intro a M d Z c
   refine ay (c.pk [2]) (λj=>?_)
   exact G _ _ ⟨d,e,Z.sub kr,c.pk [1,0,2]⟩
  refine all_cons ?_ all_nil
  refine qu Z (i:=8) rfl rfl ?_
  refine gN Z c #[vI 0,vQ 0,vN,vN,vN,vN,vN] ?_
  clear Z c;intro a X g Z c
  refine ay (c.pk [2]) (λj=>?_)
  exact I _ _ ⟨e,g,Z.sub kr,c.pk [0,1,2]⟩
 refine all_cons ?_ all_nil
 refine qu Z (i:=8) rfl rfl ?_
 refine gN Z c #[vI 0,vQ 0,vN,vN,vN,vN,vN] ?_
 clear Z c;intro a X g Z c
 refine ay (c.pk [1]) (λj=>?_)
 refine zc [3,6] kr rfl ?_
 refine all_cons ?_ ?_
 ·refine qu Z (i:=3) rfl rfl ?_
  refine wC Z c (m:=abl b) rfl zu rfl rfl om om rfl de ?_
  clear Z c;intro a M d Z c
  refine ay (c.pk [2]) (λj=>?_)
  exact H _ _ ⟨d,g,Z.sub kr,c.pk [1,0,2]⟩
 refine all_cons ?_ all_nil
 refine qu Z (i:=6) rfl rfl ?_
 refine wC Z c (m:=abl b) rfl zu rfl rfl om om rfl de ?_
 clear Z c;intro a L e Z c
 refine ay (c.pk [2]) (λj=>?_)
 exact I _ _ ⟨e,g,Z.sub kr,c.pk [1,0,2]⟩
structure bZ where
 ak:Nat
 groups:Nat
 aj:Nat
 ps:List Nat
 ws:List Nat
def bZ.cells (n:bZ):Array Value:=(.int .u8 (n.ak:Int):: .int .u8 (n.groups:Int):: .int .u32 (n.aj:Int)::(n.ps.map (λz:Nat=>abQ .u8 (z:Int))++n.ws.map (λz:Nat=>abQ .u16 (z:Int)))).toArray
structure bZ.Ok (n:bZ):Prop where
 ak:n.ak<256
 groups:n.groups<256
 aj:n.aj<4294967296
 pl:abl n.ps=5
 wl:abl n.ws=5
 ps:∀z∈n.ps,z<256
 ws:∀z∈n.ws,z<65536
section
variable {n:bZ} {i g:Nat} {gs:List Gr} {ds:List Nat} {x:Gr}
theorem bZ.GA (h:n.Ok) (hi:i<5):n.cells[3+i*1]?=some (.int .u8 (n.ps.getD i 0:Int))∧n.ps.getD i 0<256:=by
 have a:i<abl n.ps:=by rw [h.pl];exact hi
 refine ⟨?_,h.ps _ (qe 0 a)⟩
 grind [bZ.cells,getD_at]
theorem bZ.Cb (h:n.Ok) (hi:i<5):n.cells[8+i*1]?=some (.int .u16 (n.ws.getD i 0:Int))∧n.ws.getD i 0<65536:=by
 have a:i<abl n.ws:=by rw [h.wl];exact hi
 refine ⟨?_,h.ws _ (qe 0 a)⟩
 rw [acX,show 8+i=(5+i)+3 by omega]
 rw [←Array.getElem?_toList]
 unfold bZ.cells
 dsimp only
 rw [adC,adC,adC,adt (by rw [abu,h.pl];omega),abu,h.pl,acH,ac3,getD_at 0 a]
 rfl
def eY (ps ws:List Nat):Nat→List Gr×List Nat
 |0=>([⟨0,1⟩],[0])
 |i+1=>
  let q:=eY ps ws i
  let u:=ps.getD i 0%abl q.1
  let up:=if q.2.getD u 0=4 then 0 else u
  (q.1++[⟨(up:Int),((1+ws.getD i 0:Nat):Int)⟩],q.2++[q.2.getD up 0+1])
theorem Zj:∀(f g:Nat),g<abl gs→(∀i,0<i→i≤g→dP gs i)→ji (gs++[x]) f g=ji gs f g
 |0,_,_,_=>rfl
 | f + 1, g, b, a => by
  rw [ji,ji]
  split
  ·rfl
  ·rename_i h0
   have h1:=a g om (abq _)
   unfold dP at h1
   rw [abo,aea b,←abo]
   rw [Zj f _ om (λi hi c=>a i hi om)]
theorem Lx {l:List α} {x d:α} {g:Nat} (a:g<abl l):(l++[x]).getD g d=l.getD g d:=by grind
theorem Zk {l:List α} {x d:α}:(l++[x]).getD (abl l) d=x:=by grind
structure iU (gs:List Gr) (ds:List Nat):Prop where
 len:abl ds=abl gs
 ok:bU gs=true
 dep:∀g,g<abl gs→ds.getD g 0=iG gs g
def Zl:iU [⟨0,1⟩] [0]:=⟨rfl,by decide,λg a=>by
 obtain rfl:g=0:=by simp at a;omega
 rfl⟩
theorem iU.le (h:iU gs ds) (a:g<abl gs):ds.getD g 0≤4:=by
 rw [h.dep g a]
 have h1:=(qp h.ok).2.2.2 g a
 unfold oQ at h1
 rw [adw,beq_iff_eq,decide_eq_true_eq] at h1
 rcases h1 with rfl|h1
 ·exact abw _
 ·exact h1.2.2.2
theorem iU.snoc {up w:Nat} (h:iU gs ds) (j:up<abl gs) (m:ds.getD up 0<4) (o:w<65536) (p:abl gs<256):iU (gs++[⟨(up:Int),((1+w:Nat):Int)⟩]) (ds++[ds.getD up 0+1]):=by
 obtain ⟨h1,h2,h3,h4⟩:=qp h.ok
 have a:abl (gs++[(⟨(up:Int),((1+w:Nat):Int)⟩:Gr)])=abl gs+1:=by rw [abn];rfl
 have k:∀g,g<abl gs→∀i,0<i→i≤g→dP gs i:=λg c=>uE h.ok c
 have b:∀g,g<abl gs→iG (gs++[⟨(up:Int),((1+w:Nat):Int)⟩]) g=iG gs g:=λg c=>Zj g g c (k g c)
 have d:(gs++[(⟨(up:Int),((1+w:Nat):Int)⟩:Gr)]).getD (abl gs) Gr.zero=⟨(up:Int),((1+w:Nat):Int)⟩:=Zk
 have f:∀i,0<i→i≤abl gs→dP (gs++[⟨(up:Int),((1+w:Nat):Int)⟩]) i:=λi hi l=>by
  grind [dP,Lx]
 have e:iG (gs++[⟨(up:Int),((1+w:Nat):Int)⟩]) (abl gs)=ds.getD up 0+1:=by
  rw [Ot f om,d]
  show iG (gs++[⟨(up:Int),((1+w:Nat):Int)⟩]) ((up:Int)).toNat+1=_
  rw [abG,b up j,h.dep up j]
 refine ⟨by rw [abn,a,h.len];rfl,?_,λg c=>?_⟩
 ·unfold bU
  rw [a,Lx om,decide_eq_true ⟨by omega,by omega,h3⟩,acz]
  refine uy λg c=>?_
  grind [oQ,Lx,lN]
 ·rw [a] at c
  rcases ab7 g (abl gs) with h5|h5
  ·rw [Lx (by rw [h.len];exact h5),b g h5,h.dep g h5]
  ·obtain rfl:g=abl gs:=by omega
   rw [e,←h.len,Zk]
def Zm {ps ws:List Nat} (c:∀z∈ws,z<65536):∀i,i≤5→iU (eY ps ws i).1 (eY ps ws i).2∧(eY ps ws i).1.length=i+1
 |0,_=>⟨Zl,rfl⟩
 | i + 1, hi => by
  obtain ⟨h1,h2⟩:=Zm (ps:=ps) c i om
  have b:ps.getD i 0% (eY ps ws i).1.length<(eY ps ws i).1.length:=adr _ om
  have a:ws.getD i 0<65536:=by
   grind [qe]
  have h0:(eY ps ws i).2.getD 0 0=0:=by rw [h1.dep 0 om];rfl
  have key:∀up,up<(eY ps ws i).1.length→(eY ps ws i).2.getD up 0<4→iU ((eY ps ws i).1++[⟨(up:Int),((1+ws.getD i 0:Nat):Int)⟩]) ((eY ps ws i).2++[(eY ps ws i).2.getD up 0+1]):=λup h3 h4=>h1.snoc h3 h4 a om
  rw [eY]
  dsimp only
  refine ⟨?_,by rw [abn,h2];rfl⟩
  by_cases h4:(eY ps ws i).2.getD (ps.getD i 0% (eY ps ws i).1.length) 0=4
  ·grind
  ·rw [if_neg h4];exact key _ b (by have:=h1.le b;omega)
theorem Zn {ps ws:List Nat} {u up:Nat} (b:eY ps ws i=(gs,ds)) (c:ps.getD i 0%abl gs=u) (a:(if ds.getD u 0=4 then 0 else u)=up):eY ps ws (i+1)=(gs++[⟨(up:Int),((1+ws.getD i 0:Nat):Int)⟩],ds++[ds.getD up 0+1]):=by
 rw [eY,b]
 dsimp only
 rw [c,a]
end
def bZ.gs (n:bZ):List Gr:=(eY n.ps n.ws (n.groups%6)).1
def bZ.cp (n:bZ):Nat:=1+n.ak%4
theorem bZ.right {n:bZ} (h:n.Ok):bU n.gs=true∧abl n.gs=n.groups%6+1:=by
 have:=Zm (ps:=n.ps) h.ws (n.groups%6) om
 exact ⟨this.1.ok,this.2⟩
def bC.zero:bC:=⟨0,0,0,0,0,0,0,0⟩
def qM (x:bC):List Value:=x.cells.toList
def zfu (x:bC):abl (qM x)=8:=rfl
theorem Zo (l:List bC):∀u∈l.flatMap qM,u.oneCell'=true:=by
 intro u a
 obtain ⟨x,_,b⟩:=acE.1 a
 exact X7 x u b
structure iJ where
 kind:Nat
 cpu:Nat
 task:Nat
 group:Nat
 to:Nat
 weight:Nat
 ticks:Nat
 mask:Nat
structure iJ.Ok (x:iJ):Prop where
 kind:x.kind<256
 cpu:x.cpu<256
 task:x.task<256
 group:x.group<256
 to:x.to<256
 weight:x.weight<65536
 ticks:x.ticks<4294967296
 mask:x.mask<256
def iJ.zero:iJ:=⟨0,0,0,0,0,0,0,0⟩
def iJ.cells (x:iJ):Array Value:= #[.int .u8 (x.kind:Int),.int .u8 (x.cpu:Int),.int .u8 (x.task:Int),.int .u8 (x.group:Int),.int .u8 (x.to:Int),.int .u16 (x.weight:Int),.int .u32 (x.ticks:Int),.int .u8 (x.mask:Int)]
def yj (x:iJ):List Value:=x.cells.toList
theorem QL (x:iJ):abl (yj x)=8:=rfl
theorem zfv (x:iJ):∀v∈x.cells.toList,v.oneCell'=true:=by simp [iJ.cells,acd]
def jy:List Nat:=[1,1,1,2,2,3,3,4,5,5,5,5,6,6,6,6,7,8,9,10]
def iJ.zP (x:iJ):Nat:=if 0<x.mask%4 then (1*2^ (1+x.to%4)-1)|||1*2^ (x.cpu%4) else x.mask
def iJ.op (x:iJ):bC:=⟨jy.getD (x.kind%20) 0,((x.cpu%4:Nat):Int),((1+x.task%12:Nat):Int),((x.group%6:Nat):Int),((1+x.weight:Nat):Int),((x.to%4:Nat):Int),((1+x.ticks%16777216:Nat):Int),x.zP⟩
def Zp (h:k<20):(#[.int .u8 1,.int .u8 1,.int .u8 1,.int .u8 2,.int .u8 2,.int .u8 3,.int .u8 3,.int .u8 4,.int .u8 5,.int .u8 5,.int .u8 5,.int .u8 5,.int .u8 6,.int .u8 6,.int .u8 6,.int .u8 6,.int .u8 7,.int .u8 8,.int .u8 9,.int .u8 10]:Array Value)[k]?=some (.int .u8 (jy.getD k 0:Int)):=by
 have:∀k,k<20→(#[.int .u8 1,.int .u8 1,.int .u8 1,.int .u8 2,.int .u8 2,.int .u8 3,.int .u8 3,.int .u8 4,.int .u8 5,.int .u8 5,.int .u8 5,.int .u8 5,.int .u8 6,.int .u8 6,.int .u8 6,.int .u8 6,.int .u8 7,.int .u8 8,.int .u8 9,.int .u8 10]:Array Value)[k]?=some (.int .u8 (jy.getD k 0:Int)):=by
  intro k a
  match k,a with
  |0,_|1,_|2,_|3,_|4,_|5,_|6,_|7,_|8,_|9,_|10,_|11,_|12,_|13,_|14,_|15,_|16,_|17,_|18,_|19,_=>rfl
  |k+20,h=>omega
 exact this k h
def q99 (k:Nat):jy.getD k 0≤10:=by
 rcases ab7 k 20 with h|h
 ·have:∀k,k<20→jy.getD k 0≤10:=by decide
  exact this k h
 ·rw [abo,ac6 h];decide
def zi3 {x:iJ} (h:x.Ok):x.zP<256:=by
 unfold iJ.zP
 split
 ·have h1:2^ (1+x.to%4)≤2^4:=adV de om
  have h2:2^ (x.cpu%4)≤2^3:=adV de om
  exact Nat.or_lt_two_pow (n:=8) om om
 ·exact h.mask
theorem iJ.zke {x:iJ} (h:x.Ok):x.op.Ok:=by
 have h1:=q99 (x.kind%20)
 have h2:=zi3 h
 have h3:=h.weight
 refine ⟨?_,?_,?_,?_,?_,?_,?_,?_⟩
 ·show jy.getD (x.kind%20) 0<256;omega
 ·show aR ((x.cpu%4:Nat):Int);unfold aR;omega
 ·show aR ((1+x.task%12:Nat):Int);unfold aR;omega
 ·show aR ((x.group%6:Nat):Int);unfold aR;omega
 ·show aR ((1+x.weight:Nat):Int);unfold aR;omega
 ·show aR ((x.to%4:Nat):Int);unfold aR;omega
 ·show aR ((1+x.ticks%16777216:Nat):Int);unfold aR;omega
 ·show x.zP<_;omega
def zq (l:List iJ) (most:Nat):List bC:=(l.take most).map iJ.op
def q45 {l:List iJ} (h:∀x∈l,x.Ok):∀o∈zq l most,o.Ok:=λo a=>by
 obtain ⟨x,b,rfl⟩:=ab6.1 a
 exact iJ.zke (h x (acg b))
theorem Zq:SI abm 100 13:=⟨by kernel_rfl,by kernel_rfl⟩
theorem zi4:EI abm 101 275 (.agg #[.int .u8 0,.int .u8 0,.int .u8 0,.int .u8 0,.int .u8 0,.int .u16 0,.int .u32 0,.int .u8 0]) 8 16:=⟨by kernel_rfl,by kernel_rfl,rfl,by omega⟩
theorem Zr:SI abm 275 8:=⟨by kernel_rfl,by kernel_rfl⟩
theorem zaa (l:List iJ) (m:Nat):abQ .i64 (if ((m:Int)<(abl l:Int)) then (m:Int) else (abl l:Int))= .int .i64 ((abl (l.take m):Nat):Int):=by
 rw [abr]
 congr 1
 split<;>omega
def Zt {z:Nat} (h:z≤4):1*2^z≤18446744073709551615:=by
 have h1:2^z≤2^4:=adV de h
 omega
def zQ (w:World) (cp:Int) (cr:Nat) (gs:List Gr) (r:Ending) (a:World):Prop:=(∃A c,r= .returned (.agg #[vI cp,vQ cr,.slice A (abl gs) c])∧a.ownsRow w.heap.size 198 2 (.slice A (abl gs) c) (abl gs) (gs.flatMap eO)∧abl gs≤c)∧Below w.heap.size w a
def zab {cp:Int} {gs a:List Gr} (b:gs=a) (d:abl gs=k) (e:W.ownsRow w.heap.size 198 2 (.slice A k c) k (gs.flatMap eO)) (hc:k≤c) (hb:Below w.heap.size w W):zQ w cp cr a (.returned (.agg #[vI cp,vQ cr,.slice A k c])) W:=by
 subst b
 subst d
 exact ⟨⟨A,c,rfl,e,hc⟩,hb⟩
def qzw (n:bZ) (F:n.Ok) (w:World):
    Calls abm 100 #[.agg n.cells] w (zQ w (n.cp:Int) n.aj n.gs):=by
 have alb:=F.aj;have alc:=F.ak;have ald:=F.groups
 refine (dV Tryz.func100 63) ?_
 refine (JP∘JE) λw1 l=>(JA #[vI 0,vQ 0,vN]) λw2 H=>(Jr∘Jg 0 O1∘Jw .i64∘Jp 1∘Jo (vI (n.ak%4:Nat)) (by exact za .i64 _ 4)∘Jp 1∘Jo (vI (1+(n.ak%4):Nat)) (by exact q7 om om)∘Jg 2 O1∘Jw .u64∘fu #[vI 0,vI 1]∘JU iO #[vI 0,vI 1]) λw16 x=>(fu #[vI (1+(n.ak%4):Nat),vQ n.aj,vS x 1 1]∘JA #[vI 0,vQ 0,vN]) λw3 I=>(JV xJ aT) λT=>(aG∘Jr∘JU zu #[vI 0]) λCY K=>(Jp 1∘aK∘Jq∘JC (h:=by exact λb=>b.dY (i:=2) (n:=1) (size:=2) rfl rfl de)∘JC (h:=by exact λb=>b.dY (i:=0) (n:=1) (size:=1) rfl rfl de)∘JC (h:=by exact λb=>(show Mem w _ [.row (vS K 1 1) 1 ([0].map dD) 3 1,.blk I #[vI (1+(n.ak%4):Nat),vQ n.aj,vS x 1 1] 44,.row (vS x 1 1) 1 ([(⟨0,1⟩:Gr)].flatMap eO) 198 2,.blk H #[vI 0,vQ 0,vN] 44,.blk l n.cells 100] from b))∘JG∘JQ∘JP∘Jg 1 O4∘Jw .i64∘Jp 1∘Jo (vI (n.groups%6:Nat)) (by exact za .i64 _ 6)∘Jp 1∘Jj∘JB) λa Z b=>?_
 refine qg (λmS aS wS=>∃(i:Nat) (gs:List Gr) (c:List Nat) (X:Option Addr) (G:Nat) (Y:Option Addr) (R:Nat),(i≤n.groups%6)∧(eY n.ps n.ws i=(gs,c))∧(iU gs c)∧(abl gs=i+1)∧(abl c=i+1)∧(i+1≤G)∧(i+1≤R)∧mS=n.groups%6-i∧Fr aS 63 [] [(23,vI i),(22,vI (n.groups%6:Nat)),(4,.slice Y (i+1) R),(3,vP I 0),(2,vP H 0),(1,vP l 0)]∧Mem w wS [.row (.slice Y (i+1) R) (i+1) (c.map dD) 3 1,.blk I #[vI (1+(n.ak%4):Nat),vQ n.aj,.slice X (i+1) G] 44,.row (.slice X (i+1) G) (i+1) (gs.flatMap eO) 198 2,.blk H #[vI 0,vQ 0,vN] 44,.blk l n.cells 100]) (m:=n.groups%6-0) ⟨0,[⟨0,1⟩],[0],(some ⟨x,0,none⟩),1,(some ⟨K,0,none⟩),1,abw _,rfl,Zl,rfl,rfl,abq _,abq _,rfl,Z.sub kr,b.pk [0,1,2,3,4]⟩ ?_
 clear Z b;rintro mS a w_ ⟨i,gs,c,X,G,Y,R,hi,U,A,B,L,V,hyc,rfl,Z,b⟩
 refine Jb Z b ((JP∘Jp 1∘Jj∘JQ) (Ji (λM=>?_) λM=>?_))
 ·
  have N:i<5:=by omega
  have hpv:=(bZ.GA F N).2
  have O:=(bZ.Cb F N).2
  obtain ⟨u,S⟩:∃u,n.ps.getD i 0%abl gs=u:=⟨_,rfl⟩
  have W:u<abl gs:=by rw [←S];exact adr _ om
  have hdu:=A.le W
  obtain ⟨up,C⟩:∃z,(if c.getD u 0=4 then 0 else u)=z:=⟨_,rfl⟩
  refine (JT∘aD∘JQ∘JB∘JP∘Jp 2∘aK∘Jj) λa Z b=>?_
  refine wp_seq ?_
  refine Jb Z b ((Vs .n []) λLp=>(Vp [0]∘Vf 1 3∘Vf 5 2∘Vy 2 (v:=vP l (3+i*1)) (h:=by exact (Yl.tN (ad:=⟨l,3,none⟩) (m:=5) (y:=i) (sz:=1) rfl rfl rfl kr om).as (by rw [acN]))∘Vy 3 (v:=vB (n.ps.getD i 0)) (h:=by exact Pd rfl rfl kr (λ_ h=>h.cell (i:=4) rfl (bZ.GA F om).1))∘Vw 4 .i64∘Vc 6 O1∘Vl 7∘Vy 8 (v:=vI ((n.ps.getD i 0)% (i+1):Nat)) (h:=by exact aat (m:=(n.ps.getD i 0)) (n:=(i+1)) rfl rfl rfl om)∘Vo (vI u) (by rw [←S,B])∘Vp [9]∘Vd∘aG∘JQ∘JP∘Jp 2) ?_)
  repeat (first|clear Z|clear b)
  intro a Z b
  obtain ⟨gY,rfl⟩:=b.rat 0 u
  refine Jb Z b ((l9 u 1∘Jy (h:=by exact aae 0 u 0 om rfl rfl rfl)∘Jp 1∘gu∘Jj) (Je (λP=>?_) λP=>?_))
  ·
   have d:up=0:=by rw [←C,if_pos om]
   have hd0:c.getD 0 0=0:=by rw [A.dep 0 om];rfl
   have o:up<abl gs:=by omega
   have p:c.getD up 0<4:=by rw [d,hd0];decide
   refine (JT∘JR∘Jp 1∘Jq∘Jk 6 (vI up) (h:=by rw [d];try rfl)∘JG∘JP∘Jp 3∘l9 up 1∘Jy (h:=by exact aae 0 up 0 om rfl rfl rfl)∘bT 1∘JU zu #[vI ((c.getD up 0)+1:Nat)]) λEG q=>(JD ([c.getD up 0+1].map dD) 1 (λ_ _=>fU) zu (hr:=by exact λb=>b.aX (i:=0) (n:=1) (size:=1) rfl rfl) (h1:=by simp [acd,dD])) λZu e g r=>(Jp 1∘aG∘Jq∘JC (h:=by exact λb=>b.bR (i:=1) (ys:=(c++[c.getD up 0+1]).map dD) rfl (by rw [abV]))∘JC (h:=by exact λb=>(show Mem w _ [.blk q #[vI ((c.getD up 0)+1:Nat)] 3,.row (.slice e ((i+1)+1) g) ((i+1)+1) ((c++[c.getD up 0+1]).map dD) 3 1,.blk I #[vI (1+(n.ak%4):Nat),vQ n.aj,.slice X (i+1) G] 44,.row (.slice X (i+1) G) (i+1) (gs.flatMap eO) 198 2,.blk H #[vI 0,vQ 0,vN] 44,.blk l n.cells 100] from b))∘JG∘Vs (.t (.t (.t (.f .n)))) [13]) λQ=>(Vf 0 2∘Vp [2,3]∘Vf 4 8∘Vc 1 O2∘Vy 5 (v:=vP l (8+i*1)) (h:=by exact (Yl.tN (ad:=⟨l,8,none⟩) (m:=5) (y:=i) (sz:=1) rfl rfl rfl kr om).as (by rw [acN]))∘Vy 6 (v:= .int .u16 (n.ws.getD i 0)) (h:=by exact Pd rfl rfl kr (λ_ h=>h.cell (i:=4) rfl (bZ.Cb F om).1))∘Vw 7 .i64∘Vp [8]∘Vo (vI (1+(n.ws.getD i 0):Nat)) (by exact q7 om om)∘Vy 9 (v:= .agg #[vI up,vI (1+(n.ws.getD i 0):Nat)]) (h:=by exact Yl.build (vs:=[(0,vI up),(1,vI (1+(n.ws.getD i 0):Nat))]) rfl kr kr)) λa Z b D=>?_
   refine s_on Z 10 rfl (iT Z b iO [(0,.agg #[vI up,vI (1+(n.ws.getD i 0):Nat)])] #[vI up,vI (1+(n.ws.getD i 0):Nat)] ?_)
   clear Z b;intro a Lu J Z b
   refine ay (b.pk [1,2,3,5,6]) (λD=>?_)
   refine s_on Z 11 rfl (p9 Z b (i:=4) rfl iO rfl rfl rfl (news:=([(⟨(up:Int),((1+n.ws.getD i 0:Nat):Int)⟩:Gr)].flatMap eO)) (b.aX (i:=0) (n:=1) (size:=2) rfl rfl) (FQ _) om om rfl de ?_)
   clear Z b;intro a QM j k Z b s
   refine ay (b.pk [1,2,3,5,6]) (λD=>?_)
   refine Vb Z b D ((Vf 12 2) λa Z b D=>?_)
   refine s_on Z 13 rfl (fE Z b 3 λE b=>?_)
   refine dJ kr ?_
   refine qd kr ?_
   replace b:=b.bR (i:=4) (ys:=(gs++[(⟨(up:Int),((1+n.ws.getD i 0:Nat):Int)⟩:Gr)]).flatMap eO) rfl (by rw [ab2])
   replace b:Mem w _ [.blk J #[vI up,vI (1+(n.ws.getD i 0):Nat)] 198,.blk q #[vI ((c.getD up 0)+1:Nat)] 3,.row (.slice e ((i+1)+1) g) ((i+1)+1) ((c++[c.getD up 0+1]).map dD) 3 1,.blk I #[vI (1+(n.ak%4):Nat),vQ n.aj,.slice j ((i+1)+1) k] 44,.row (.slice j ((i+1)+1) k) ((i+1)+1) ((gs++[(⟨(up:Int),((1+n.ws.getD i 0:Nat):Int)⟩:Gr)]).flatMap eO) 198 2,.blk H #[vI 0,vQ 0,vN] 44,.blk l n.cells 100]:=b
   refine Jb Z b ((JG∘JR∘bT 1∘Jp 1∘aG∘Jq) λa Z b=>?_)
   exact ⟨_,om,i+1,(gs++[(⟨(up:Int),((1+n.ws.getD i 0:Nat):Int)⟩:Gr)]),(c++[c.getD up 0+1]),j,k,e,g,by omega,Zn U S C,A.snoc o p O om,by rw [abn,B];rfl,by rw [abn,L];rfl,s,r,rfl,Z.sub kr,b.pk [2,3,4,5,6]⟩
  have d:up=u:=by rw [←C,if_neg om]
  have o:up<abl gs:=by omega
  have p:c.getD up 0<4:=by rw [d];omega
  refine (Jk 6 (vI up) (h:=by rw [d])∘JF∘aD∘JP∘Jp 3∘l9 up 1∘Jy (h:=by exact aae 0 up 0 om rfl rfl rfl)∘bT 1∘JU zu #[vI ((c.getD up 0)+1:Nat)]) λEG q=>(JD ([c.getD up 0+1].map dD) 1 (λ_ _=>fU) zu (hr:=by exact λb=>b.aX (i:=0) (n:=1) (size:=1) rfl rfl) (h1:=by simp [acd,dD])) λZu e g r=>(Jp 1∘aG∘Jq∘JC (h:=by exact λb=>b.bR (i:=1) (ys:=(c++[c.getD up 0+1]).map dD) rfl (by rw [abV]))∘JC (h:=by exact λb=>(show Mem w _ [.blk q #[vI ((c.getD up 0)+1:Nat)] 3,.row (.slice e ((i+1)+1) g) ((i+1)+1) ((c++[c.getD up 0+1]).map dD) 3 1,.blk I #[vI (1+(n.ak%4):Nat),vQ n.aj,.slice X (i+1) G] 44,.row (.slice X (i+1) G) (i+1) (gs.flatMap eO) 198 2,.blk H #[vI 0,vQ 0,vN] 44,.blk l n.cells 100] from b))∘JG∘Vs (.t (.t (.t (.f .n)))) [13]) λQ=>(Vf 0 2∘Vp [2,3]∘Vf 4 8∘Vc 1 O2∘Vy 5 (v:=vP l (8+i*1)) (h:=by exact (Yl.tN (ad:=⟨l,8,none⟩) (m:=5) (y:=i) (sz:=1) rfl rfl rfl kr om).as (by rw [acN]))∘Vy 6 (v:= .int .u16 (n.ws.getD i 0)) (h:=by exact Pd rfl rfl kr (λ_ h=>h.cell (i:=4) rfl (bZ.Cb F om).1))∘Vw 7 .i64∘Vp [8]∘Vo (vI (1+(n.ws.getD i 0):Nat)) (by exact q7 om om)∘Vy 9 (v:= .agg #[vI up,vI (1+(n.ws.getD i 0):Nat)]) (h:=by exact Yl.build (vs:=[(0,vI up),(1,vI (1+(n.ws.getD i 0):Nat))]) rfl kr kr)) λa Z b D=>?_
  refine s_on Z 10 rfl (iT Z b iO [(0,.agg #[vI up,vI (1+(n.ws.getD i 0):Nat)])] #[vI up,vI (1+(n.ws.getD i 0):Nat)] ?_)
  clear Z b;intro a Lu J Z b
  refine ay (b.pk [1,2,3,5,6]) (λD=>?_)
  refine s_on Z 11 rfl (p9 Z b (i:=4) rfl iO rfl rfl rfl (news:=([(⟨(up:Int),((1+n.ws.getD i 0:Nat):Int)⟩:Gr)].flatMap eO)) (b.aX (i:=0) (n:=1) (size:=2) rfl rfl) (FQ _) om om rfl de ?_)
  clear Z b;intro a QM j k Z b s
  refine ay (b.pk [1,2,3,5,6]) (λD=>?_)
  refine Vb Z b D ((Vf 12 2) λa Z b D=>?_)
  refine s_on Z 13 rfl (fE Z b 3 λE b=>?_)
  refine dJ kr ?_
  refine qd kr ?_
  replace b:=b.bR (i:=4) (ys:=(gs++[(⟨(up:Int),((1+n.ws.getD i 0:Nat):Int)⟩:Gr)]).flatMap eO) rfl (by rw [ab2])
  replace b:Mem w _ [.blk J #[vI up,vI (1+(n.ws.getD i 0):Nat)] 198,.blk q #[vI ((c.getD up 0)+1:Nat)] 3,.row (.slice e ((i+1)+1) g) ((i+1)+1) ((c++[c.getD up 0+1]).map dD) 3 1,.blk I #[vI (1+(n.ak%4):Nat),vQ n.aj,.slice j ((i+1)+1) k] 44,.row (.slice j ((i+1)+1) k) ((i+1)+1) ((gs++[(⟨(up:Int),((1+n.ws.getD i 0:Nat):Int)⟩:Gr)]).flatMap eO) 198 2,.blk H #[vI 0,vQ 0,vN] 44,.blk l n.cells 100]:=b
  refine Jb Z b ((JG∘JR∘bT 1∘Jp 1∘aG∘Jq) λa Z b=>?_)
  exact ⟨_,om,i+1,(gs++[(⟨(up:Int),((1+n.ws.getD i 0:Nat):Int)⟩:Gr)]),(c++[c.getD up 0+1]),j,k,e,g,by omega,Zn U S C,A.snoc o p O om,by rw [abn,B];rfl,by rw [abn,L];rfl,s,r,rfl,Z.sub kr,b.pk [2,3,4,5,6]⟩
 have hie:i=n.groups%6:=by omega
 have hgs:gs=n.gs:=by unfold bZ.gs;rw [←hie,U]
 refine (JF∘JX∘JG∘JP∘d9 xJ O1∘JV xJ qD) λZv=>(mW∘Jj∘JZ) λa Z b=>?_
 exact iq rfl Z (.cellS (i:=3) Z b rfl rfl xJ rfl) (zab hgs B (b.own (i:=2) rfl) V b.below)
theorem aa6 {l:List α}:l.take (min m (abl l))=l.take m:=by
 rcases Nat.le_total m (abl l) with h|h
 ·rw [adb h]
 ·rw [Nat.min_eq_right h,ada,abP h]
theorem Zw (l:List iJ) (most:Nat):abl (zq l most)=abl (l.take most):=abu ..
def q48 {e:TypeId} {q a:List bC} (h:q=a) (b:abl q=n) (d:W.ownsRow w.heap.size e 8 (.slice A n c) n (q.flatMap qM)) (hc:n≤c) (hb:Below w.heap.size w W):BZ w e 8 (abl a) (a.flatMap qM) (.returned (.slice A n c)) W:=by
 subst h
 subst b
 exact ⟨⟨A,c,rfl,d,hc⟩,hb⟩
def qzx (A:Option Addr) (c:Nat) (l:List iJ) (most:Nat) (w:World) (Y:∀x∈l,x.Ok) (hr:Rd w w.heap.size 8 A (abl l) (l.flatMap yj)) (hc:abl l≤c) (hn:abl l≤9223372036854775807) (hm:most≤1000):
    Calls abm 101 #[abh A l c,vI most] w (BZ w 214 8 (abl (zq l most)) ((zq l most).flatMap qM)):=by
 have J:abl (l.take most)≤most∧abl (l.take most)≤abl l:=by rw [abr];omega
 have r:Rd w w.heap.size 8 A (abl (l.take most)) ((l.take most).flatMap yj):=by have h:=hr.upto (k:=abl (l.take most)) om;rw [Ws yj 8 QL,abr,aa6] at h;rw [abr];exact h
 have C:∀x∈l.take most,x.Ok:=λx B=>Y x (acg B)
 obtain ⟨e,p⟩:∃z,l.take most=z:=⟨_,rfl⟩
 rw [p] at r J C
 refine (iX Tryz.func101 79) ?_
 refine (JP∘Jp 1∘Jr∘Jp 1∘Jq∘JC (h:=by exact λb=>b.nil 214 8)∘JG∘JQ∘JP∘Jp 2∘Jl∘Jp 1∘Jy (v:=vI (if (most:Int)<(abl l:Int) then (most:Int) else (abl l:Int))) (h:=by exact Yl.min rfl rfl rfl)∘Jo (vI (abl e)) (by rw [←p];exact zaa l most)∘Jy (h:=by exact aag zi4 (j:=abl e) rfl rfl rfl om)∘Jl∘Jp 1∘Jj∘JB) λa Z b=>?_
 refine qg (λR aS wS=>∃(k:Nat) (q:List bC) (X:Option Addr) (I:Nat),(k≤abl e)∧(q=(e.take k).map iJ.op)∧(k≤I)∧R=abl e-k∧Fr aS 79 [] [(16,vI k),(15,vI (abl e)),(14,abh A e c),(5,.slice X k I),(4,vN)]∧Mem w wS [.row (.slice X k I) k (q.flatMap qM) 214 8]) (m:=abl e-0) ⟨0,[],none,0,abw _,rfl,abq _,rfl,Z.sub kr,b.pk [0]⟩ ?_
 clear Z b;rintro R a w_ ⟨k,q,X,I,hk,K,L,rfl,Z,b⟩
 refine Jb Z b ((JP∘Jp 1∘Jj∘JQ) (Ji (λD=>?_) λD=>?_))
 ·
  have s:k<abl e:=by omega
  obtain ⟨x,B⟩:∃z,e.getD k iJ.zero=z:=⟨_,rfl⟩
  have d:x.Ok:=by rw [←B];exact C _ (qe iJ.zero s)
  have hx1:=d.kind;have hx2:=d.cpu;have hx3:=d.task;have hx4:=d.group;have hx5:=d.to;have hx6:=d.weight;have hx7:=d.ticks;have hx8:=d.mask
  have hp1:1≤2^ (1+x.to%4):=Nat.one_le_two_pow
  have M:=Zt (show 1+x.to%4≤4 by omega)
  have N:=Zt (show x.cpu%4≤4 by omega)
  refine (JT∘aD∘JQ∘JB∘JP) ?_
  obtain ⟨gA,oA,rfl,_⟩:=r.sat k
  refine (gV k 8∘oK iJ.cells QL r Zr k iJ.zero∘Jo (.agg x.cells) (by rw [B])∘JA #[vB 0,vB 0,vB 0,vB 0,vB 0,.int .u16 0,vW 0,vB 0]) λw7 S=>(JV Zr aT (h1:=by exact zfv x)) λT=>(bH∘Jr∘Jg 1 O0∘Jw .i64∘Jp 1∘Jo (vI (x.cpu%4:Nat)) (by exact za .i64 _ 4)∘Jg 2 O0∘Jw .i64∘Jp 1∘Jo (vI (x.task%12:Nat)) (by exact za .i64 _ 12)∘Jp 1∘Jo (vI (1+(x.task%12):Nat)) (by exact q7 om om)∘Jg 3 O0∘Jw .i64∘Jp 1∘Jo (vI (x.group%6:Nat)) (by exact za .i64 _ 6)∘Jg 4 O0∘Jw .i64∘Jp 1∘Jo (vI (x.to%4:Nat)) (by exact za .i64 _ 4)∘Jg 5 O0∘Jw .i64∘Jp 1∘Jo (vI (1+x.weight:Nat)) (by exact q7 om om)∘Jg 6 O0∘Jp 1∘Jo (vW (x.ticks%16777216:Nat)) (by exact za .u32 _ 16777216)∘Jw .i64∘Jp 1∘Jo (vI (1+(x.ticks%16777216):Nat)) (by exact q7 om om)∘Jg 7 O0∘Jw .u64∘fu #[vB 0,vI (x.cpu%4:Nat),vI (1+(x.task%12):Nat),vI (x.group%6:Nat),vI (1+x.weight:Nat),vI (x.to%4:Nat),vI (1+(x.ticks%16777216):Nat),vQ x.mask]∘JA #[vB 0,vI 0,vI 0,vI 0,vI 0,vI 0,vI 0,vQ 0]) λw8 U=>(JV mh aT) λO=>(aG∘Jj∘JQ∘JP∘Jg 7 O1∘Jp 1∘Jo (vB (x.mask%4:Nat)) (by exact za .u8 _ 4)∘Jp 1∘bH∘Jj) (Ji (λE=>?_) λE=>?_)
  ·
   have t:x.zP=(1*2^ (1+x.to%4)-1)|||1*2^ (x.cpu%4):=by unfold iJ.zP;rw [if_pos om]
   refine (JT∘JP∘Jg 5 O0∘Jp 1∘Jo (vI (1+(x.to%4):Nat)) (by exact q7 om om)∘Jy (v:=vQ (1*2^ (1+(x.to%4)):Nat)) (h:=by exact aax (m:=1) (n:=(1+(x.to%4))) rfl rfl rfl (by show _≤64;omega) (M))∘yX 1∘Jf 7∘JW aT xB) λV=>(qE∘Jj∘Vs .n [7]) λLi=>(Vf 0 7∘Vf 2 1∘Vc 1 O0∘Vc 3 O0∘Vy 4 (v:=vQ (1*2^ (x.cpu%4):Nat)) (h:=by exact aax (m:=1) (n:=(x.cpu%4)) rfl rfl rfl (by show _≤64;omega) (N))∘Vp [5]∘Vo (vQ ((1*2^ (1+(x.to%4))-1)|||(1*2^ (x.cpu%4)):Nat)) (by exact Uv (m:=1*2^ (1+(x.to%4))-1) (n:=1*2^ (x.cpu%4)) om om)∘Vf 6 7) λa Z b HS=>?_
   refine s_on Z 7 rfl (fE Z b 0 λW b=>?_)
   refine dJ kr ?_
   refine qd kr ?_
   refine Jb Z b ((JG∘JP∘Jy (v:= .agg #[vB 1,vB 1,vB 1,vB 2,vB 2,vB 3,vB 3,vB 4,vB 5,vB 5,vB 5,vB 5,vB 6,vB 6,vB 6,vB 6,vB 7,vB 8,vB 9,vB 10]) (h:=by exact aaq (n:=20) (sz:=1) (vs:=[(0,vB 1),(1,vB 1),(2,vB 1),(3,vB 2),(4,vB 2),(5,vB 3),(6,vB 3),(7,vB 4),(8,vB 5),(9,vB 5),(10,vB 5),(11,vB 5),(12,vB 6),(13,vB 6),(14,vB 6),(15,vB 6),(16,vB 7),(17,vB 8),(18,vB 9),(19,vB 10)]) rfl rfl kr kr)∘Jg 0 O1∘Jp 1∘Jo (vB (x.kind%20:Nat)) (by exact za .u8 _ 20)∘Jy (v:=vB (jy.getD (x.kind%20) 0)) (h:=by exact Yl.Zi (m:=20) (y:=x.kind%20) rfl rfl rfl kr om (Zp om))∘Jf 0∘JW aT aT) λF=>(iE∘Jj∘JR∘Jp 1∘Jy (v:= .agg #[vB (jy.getD (x.kind%20) 0),vI (x.cpu%4:Nat),vI (1+(x.task%12):Nat),vI (x.group%6:Nat),vI (1+x.weight:Nat),vI (x.to%4:Nat),vI (1+(x.ticks%16777216):Nat),vQ ((1*2^ (1+(x.to%4))-1)|||(1*2^ (x.cpu%4)):Nat)]) (h:=by exact Pe rfl rfl mh rfl (λ_ h=>qi (h.blk (i:=0) rfl)))∘Jo (.agg x.op.cells) (by unfold bC.cells iJ.op;rw [t];try rfl)∘JU ru x.op.cells) λP u=>(JD ([x.op].flatMap qM) 3 (λ_ _=>qD) ru (hr:=by exact λb=>b.aX (i:=0) (n:=1) (size:=8) rfl rfl) (h1:=by exact Zo _)) λQ f g o=>(Jp 1∘aG∘Jq∘JC (h:=by exact λb=>b.bR (i:=3) (ys:=(q++[x.op]).flatMap qM) rfl (by rw [ab2]))∘JC (h:=by exact λb=>(show Mem w _ [.blk u x.op.cells 214,.blk U #[vB (jy.getD (x.kind%20) 0),vI (x.cpu%4:Nat),vI (1+(x.task%12):Nat),vI (x.group%6:Nat),vI (1+x.weight:Nat),vI (x.to%4:Nat),vI (1+(x.ticks%16777216):Nat),vQ ((1*2^ (1+(x.to%4))-1)|||(1*2^ (x.cpu%4)):Nat)] 214,.blk S x.cells 275,.row (.slice f (k+1) g) (k+1) ((q++[x.op]).flatMap qM) 214 8] from b))∘JG∘JR∘bT 1∘Jp 1∘aK∘Jq) λa Z b=>?_)
   exact ⟨_,om,k+1,(q++[x.op]),f,g,by omega,by rw [K,xH iJ.zero s,B,abV];rfl,o,rfl,Z.sub kr,b.pk [3]⟩
  have t:x.zP=x.mask:=by unfold iJ.zP;rw [if_neg om]
  refine (JF∘aD∘JP∘Jy (v:= .agg #[vB 1,vB 1,vB 1,vB 2,vB 2,vB 3,vB 3,vB 4,vB 5,vB 5,vB 5,vB 5,vB 6,vB 6,vB 6,vB 6,vB 7,vB 8,vB 9,vB 10]) (h:=by exact aaq (n:=20) (sz:=1) (vs:=[(0,vB 1),(1,vB 1),(2,vB 1),(3,vB 2),(4,vB 2),(5,vB 3),(6,vB 3),(7,vB 4),(8,vB 5),(9,vB 5),(10,vB 5),(11,vB 5),(12,vB 6),(13,vB 6),(14,vB 6),(15,vB 6),(16,vB 7),(17,vB 8),(18,vB 9),(19,vB 10)]) rfl rfl kr kr)∘Jg 0 O1∘Jp 1∘Jo (vB (x.kind%20:Nat)) (by exact za .u8 _ 20)∘Jy (v:=vB (jy.getD (x.kind%20) 0)) (h:=by exact Yl.Zi (m:=20) (y:=x.kind%20) rfl rfl rfl kr om (Zp om))∘Jf 0∘JW aT aT) λF=>(qE∘Jj∘JR∘Jp 1∘d9 mh O0∘Jo (.agg x.op.cells) (by unfold bC.cells iJ.op;rw [t];try rfl)∘JU ru x.op.cells) λP u=>(JD ([x.op].flatMap qM) 3 (λ_ _=>qD) ru (hr:=by exact λb=>b.aX (i:=0) (n:=1) (size:=8) rfl rfl) (h1:=by exact Zo _)) λQ f g o=>(Jp 1∘gu∘Jq∘JC (h:=by exact λb=>b.bR (i:=3) (ys:=(q++[x.op]).flatMap qM) rfl (by rw [ab2]))∘JC (h:=by exact λb=>(show Mem w _ [.blk u x.op.cells 214,.blk U #[vB (jy.getD (x.kind%20) 0),vI (x.cpu%4:Nat),vI (1+(x.task%12):Nat),vI (x.group%6:Nat),vI (1+x.weight:Nat),vI (x.to%4:Nat),vI (1+(x.ticks%16777216):Nat),vQ x.mask] 214,.blk S x.cells 275,.row (.slice f (k+1) g) (k+1) ((q++[x.op]).flatMap qM) 214 8] from b))∘JG∘JR∘bT 1∘Jp 1∘aK∘Jq) λa Z b=>?_
  exact ⟨_,om,k+1,(q++[x.op]),f,g,by omega,by rw [K,xH iJ.zero s,B,abV];rfl,o,rfl,Z.sub kr,b.pk [3]⟩
 have G:k=abl e:=by omega
 have H:q=zq l most:=by rw [K,G,ada,←p];rfl
 exact (JF∘JX∘JG∘JP∘Jp 2∘aK∘Jj∘JZ∘aZ) λb=>q48 H (by rw [H,Zw,p,←G]) (b.own (i:=0) rfl) L b.below
theorem zac (b:o.Ok) (h:GoodS s):GoodS (qY s o).1:=by
 by_cases a:(bX s o).2.2=0
 ·rw [QK a];exact (PV b h a).rise
 ·rw [QJ a];exact h
theorem zad (a:o.Ok) (h:GoodS s) (hr:kG s=true):kG (qY s o).1=true:=by grind [QJ,QK,qze,bX,PV]
def zae {cp:Int} {gs:List Gr} (h1:1≤cp∧cp≤64) (h2:cr≤1099511627776) (h3:bU gs=true) (h4:∀g∈gs,g.Ok):GoodS (newS cp cr gs)∧kG (newS cp cr gs)=true:=by
 obtain ⟨c,rfl⟩:∃c:Nat,cp=(c:Int):=⟨cp.toNat,by omega⟩
 have m:∀g,g<abl gs→(newS (c:Int) cr gs).sp.getD g []=abD c Sp.zero:=λg a=>by
  show (abD (abl gs) (abD ((c:Int)).toNat Sp.zero)).getD g []=_
  rw [abo,afr,if_pos a]
  rfl
 have k:∀g o,(newS (c:Int) cr gs).spot g o=Sp.zero:=λg o=>by
  unfold aW.spot
  rcases ab7 g (abl gs) with a|a
  ·rw [m g a,abo,afr]
   split<;>rfl
  ·rw [show (newS (c:Int) cr gs).sp.getD g []=[] by
    show (abD (abl gs) _).getD g []=_
    rw [abo,ac6 (by rw [ab4];exact a)];rfl]
   rfl
 have hz:(Sp.zero).Ok:=⟨by decide,by decide,by decide⟩
 have e:(newS (c:Int) cr gs).sp.length=abl gs:=ab4 ..
 have b:GoodS (newS (c:Int) cr gs):=by
  refine ⟨⟨⟨by show aR (c:Int);unfold aR;omega,by show cr<_;omega,h4,λx f=>?_,λx f=>?_,λx f=>(by cases f),λl s x f=>?_⟩,h1,h2,h3,?_,?_,e,λo p=>?_,λg a=>?_,λg o a _=>?_,λi j _ u=>absurd u (Nat.not_lt_zero _),λt ht=>(by cases ht)⟩,λd q=>?_⟩
  ·rw [acP f];unfold aR;decide
  ·rw [acP f];unfold aR;decide
  ·rw [acP s] at f
   rw [acP f];exact hz
  ·show (abl (abD ((c:Int)).toNat (0:Int)):Int)=(c:Int);rw [ab4];rfl
  ·show (abl (abD ((c:Int)).toNat (0:Int)):Int)=(c:Int);rw [ab4];rfl
  ·have:(newS (c:Int) cr gs).cl.getD o 0=0:=acP (qe 0 p)
   rw [this];decide
  ·rw [e] at a;rw [m g a,ab4];rfl
  ·rw [k]
   rw [e] at a
   unfold dI
   have r:=oU h3 a
   rw [abF]
   refine ⟨?_,by simp [Sp.zero]⟩
   unfold bK
   rw [decide_eq_true_eq]
   exact ⟨r.1,r.2,by show ((0:Nat):Int)<_;have:=r.1;show (0:Int)<(gs.getD g Gr.zero).weight;omega,.inr rfl⟩
  ·exact .inl (acP (qe 0 q))
 refine ⟨b,?_⟩
 unfold kG
 rw [(Lc b.sh.ok).2 b.sh,acz]
 refine uy λd q=>?_
 rw [(Ld b.sh.sort).2 b.cur d q,acz]
 refine uy λg a=>?_
 have hm:aO (newS (c:Int) cr gs) g d=[]:=by
  have key:∀n g,abl gs-g≤n→aO (newS (c:Int) cr gs) g d=[]:=by
   intro n
   induction n with
   |zero=>
    intro g a
    rw [KH,e,List.drop_of_length_le (by rw [List.length_range];omega)]
    rfl
   |succ n v=>
    intro g a
    rw [KH,show (newS (c:Int) cr gs).ts=[] from rfl]
    rw [List.filterMap_nil,List.nil_append,List.filterMap_eq_nil_iff]
    intro h w
    obtain ⟨i,hi,rfl⟩:=acB w
    rw [List.getElem_drop,List.getElem_range]
    unfold kN
    rw [if_neg]
    rintro ⟨_,h5⟩
    exact absurd (v (g+1+i) om) (by simpa using h5)
  exact key _ g (abq _)
 unfold ko
 rw [decide_eq_true_eq]
 exact .inl hm
def zfw {cp:Int} {gc:Nat} {gs:List Gr} (h:(⟨cp,cr,gA,gc,gs,none,0,[],none,0,[],none,0,[],none,0,[]⟩:aC).av.Ok∧abl gs≤1000000∧fC (⟨cp,cr,gA,gc,gs,none,0,[],none,0,[],none,0,[],none,0,[]⟩:aC).av=true) (hr:Rd w w.heap.size 2 gA (abl gs) (gs.flatMap eO)):Calls abm 99 #[.agg #[vI cp,vQ cr,.slice gA (abl gs) gc]] w (Zg w (newS cp cr gs)):=
 (zft cp cr gA gc gs w h.1 h.2.1 hr).mono λr a k=>by unfold nL at k;rwa [if_pos h.2.2] at k
def zfx {cp:Int} {gc:Nat} {gs:List Gr} (h1:1≤cp∧cp≤64) (h2:cr≤1099511627776) (h3:bU gs=true) (h4:∀g∈gs,g.Ok):(⟨cp,cr,gA,gc,gs,none,0,[],none,0,[],none,0,[],none,0,[]⟩:aC).av.Ok∧abl gs≤1000000∧fC (⟨cp,cr,gA,gc,gs,none,0,[],none,0,[],none,0,[],none,0,[]⟩:aC).av=true:=by
 have h5:=(qp h3).2.1
 refine ⟨⟨by show aR cp;unfold aR;omega,by show cr<_;omega,h4,λx a=>(by cases a),λx a=>(by cases a),λx a=>(by cases a),λl b=>(by cases b)⟩,by omega,?_⟩
 unfold fC
 rw [abF,decide_eq_true_eq]
 exact ⟨⟨h1.1,h1.2,h2⟩,h3⟩
section
variable {W w:World} {F T:List Fact} {x:aC} {gm:Nat}
def QN (n:Nat) (b:Mem W w F) (c:F.drop n=mo gm x++T) (a:GoodS x.av) {o:bC} (d:o.Ok):Calls abm 102 #[vP gm 0,.agg o.cells] w (jX W gm (F.take n++T) (qY x.av o)):=
 q96 W w x gm _ _ _ _ _ (Le a.sh) a o d _ (b.front n c)
def zfy (n:Nat) (a:Mem W w F) (b:F.drop n=mo gm x++T) (c:GoodS x.av):Calls abm 103 #[vP gm 0] w (Zf w x):=
 q42 x gm w (Le c.sh).few (a.Gz n b) (a.Ca n b)
end
section
variable {W w w':World} {F T A B G:List Fact} {x y:aC} {gm:Nat} {s:aW}
theorem Mem.l7 (n:Nat) (h:Mem W w F) (a:F.drop n=A++T):Mem W w (F.take n++T):=by
 have h2:Mem W w (F.take n++(A++T)):=by rw [←a,ab9];exact h
 exact h2.mV (agT (agE _) (List.sublist_append_right ..))
theorem Mem.vg (n:Nat) (h:Mem W w F) (k:Mem w w' G) (a:F.drop n=T):Mem W w' (F.take n++(G++T)):=by
 have h2:=h.oZ k
 rw [←ab9 n F,a,aby] at h2
 exact h2.perm (List.Perm.append_left _ List.perm_append_comm)
theorem QO (n:Nat) (a:Mem W w F) (b:F.drop n=mo gm x++T) (hs:x.av=s) (c:GoodS s) {o:bC} (d:o.Ok):Calls abm 102 #[.pointer (some ⟨gm,0,none⟩),.agg o.cells] w (jX W gm (F.take n++T) (qY s o)):=by
 subst hs
 exact QN n a b c d
def GD (w:World) (s:aW) (r:Ending) (w':World):Prop:=∃y:aC,r= .returned (.tuple #[.agg y.cells,.int .i64 0])∧y.av=s∧eP y∧Mem w w' (jr y)
def zfz (n:Nat) (a:Mem W w F) (b:F.drop n=mo gm x++T) (hs:x.av=s) (c:GoodS s):Calls abm 103 #[.pointer (some ⟨gm,0,none⟩)] w (GD w s):=by
 subst hs
 exact (zfy n a b c).mono λr w' ⟨y,h1,h2,h3,h4⟩=>⟨y,h1,KW h2,h3,h4⟩
end
def bZ.new (n:bZ):aW:=newS (n.cp:Int) n.aj n.gs
theorem zR {gs:List Gr} (h:bU gs=true):∀g∈gs,g.Ok:=λx b=>by
 obtain ⟨g,a,rfl⟩:=uT Gr.zero b
 have c:=oU h a
 have d:=(qp h).2.1
 refine ⟨?_,by unfold aR;omega⟩
 rcases ach g with rfl|h0
 ·rw [(qp h).2.2.1];unfold aR;decide
 ·have:=KF ((qp h).2.2.2 g a) h0
  unfold dP at this
  unfold aR;omega
theorem bZ.good {n:bZ} (h:n.Ok):GoodS n.new∧kG n.new=true:=by
 have h1:=bZ.right h
 have h2:=h.aj
 exact zae (by unfold bZ.cp;omega) om h1.1 (zR h1.1)
theorem bZ.cfg {n:bZ} {gc:Nat} (h:n.Ok):(⟨(n.cp:Int),n.aj,gA,gc,n.gs,none,0,[],none,0,[],none,0,[],none,0,[]⟩:aC).av.Ok∧abl n.gs≤1000000∧fC (⟨(n.cp:Int),n.aj,gA,gc,n.gs,none,0,[],none,0,[],none,0,[],none,0,[]⟩:aC).av=true:=by
 have h1:=bZ.right h
 have h2:=h.aj
 exact zfx (by unfold bZ.cp;omega) om h1.1 (zR h1.1)
def q49 (l:List iJ) (most:Nat):abl (zq l most)≤most:=by
 rw [Zw,abr]
 omega
def q5a {n:bZ} (h:n.Ok):n.cells.size=13:=by
 unfold bZ.cells
 rw [List.size_toArray]
 simp [h.pl,h.wl]
def eB (m:Int) (l:List Tk):Prop:=∀t∈l,t.id≤m
section
variable {s:aW} {o:bC} {m:Int} {l:List Tk} {t':Tk} {i:Nat}
theorem DX (h:eB m l) (ht:t'.id=(l.getD i Tk.zero).id):eB m (l.set i t'):=λt hm=>by
 rcases ab7 i (abl l) with h1|h1
 ·rcases List.mem_or_eq_of_mem_set hm with h2|rfl
  ·exact h t h2
  ·rw [ht];exact h _ (qe Tk.zero h1)
 ·rw [List.set_eq_of_length_le h1] at hm
  exact h t hm
def qxg (h:eB m s.ts) (to:Int):eB m (iZ s i to).ts:=by
 unfold iZ
 dsimp only
 split
 ·rw [(qc2 _ _ _).ts];exact DX h rfl
 ·exact DX h rfl
def qr4 (h:eB m s.ts):eB m (qX s o).1.ts:=by grind [eB,Tk.zero,fidx,DX,qX,List.eraseIdx,List.mem_of_mem_eraseIdx]
def zbe (a:o.task≤m) (h:eB m s.ts):eB m (bX s o).1.ts:=by
 unfold bX
 split
 ·unfold xK
  repeat' split
  all_goals first|exact h|skip
  show eB m (fZ _ _ _).ts
  rw [(qc2 _ _ _).ts]
  intro t ht
  rcases ab5.1 ht with h1|h1
  ·exact h t ((List.takeWhile_sublist _).subset h1)
  ·rcases ab0.1 h1 with rfl|h2
   ·exact a
   ·exact h t ((List.dropWhile_sublist _).subset h2)
 ·unfold xL
  repeat' split
  all_goals first|exact h|skip
  show eB m (fZ _ _ _).ts
  rw [(qc2 _ _ _).ts]
  exact DX h rfl
 ·exact qr4 h
 ·exact qr4 h
 ·unfold jq
  repeat' split
  all_goals first|exact h|skip
  show eB m (oV _ _ _ _ _).ts
  rw [(PE _ _ _ _ _).ts]
  exact DX h rfl
 ·unfold ku
  split<;>exact h
 ·unfold xM
  repeat' split
  all_goals first|exact h|exact DX h rfl
 ·unfold xO
  repeat' split
  all_goals exact h
 ·unfold xP
  repeat' split
  all_goals first|exact h|exact qxg h _
 ·unfold uK
  repeat' split
  all_goals first|exact h|exact qxg h _
 ·exact h
theorem zju (a:o.task≤m) (h:eB m s.ts):eB m (qY s o).1.ts:=by
 unfold qY
 split
 ·exact h
 ·exact zbe a h
end
def quw {l:List iJ}:∀o∈zq l most,o.task≤12:=λo a=>by
 obtain ⟨x,b,rfl⟩:=ab6.1 a
 show ((1+x.task%12:Nat):Int)≤12
 omega
structure dN (a:cO):Prop where
 qP:bV a=0
 ok:a.st.av.Ok
 few:bN a.st
 cap:eP a.st
def zgx {q:aC} {nx:Int} (c:q.av=s) (d:GoodS s) (e:kG s=true) (f:1≤nx∧nx≤281474976710657) (hc:eP q):dN ⟨nx,q⟩:=by
 subst c
 have h:=Le d.sh
 exact ⟨XM (by show ¬(nx<1∨281474976710657<nx);omega) e,h.ok,h.few,hc⟩
def zde (w:World) (x:Int) (r:Ending) (c:World):Prop:=∃a:cO,r= .returned (.tuple #[.agg a.cells,.bool true])∧dN a∧GoodS a.st.av∧eB 12 a.st.ts∧(0≤x∧x<281474976710657→a.next=1+x)∧Mem w c (jr a.st)
def zgy {q:aC} {nx x:Int} (c:q.av=s) (d:GoodS s) (e:kG s=true) (f:eB 12 s.ts) (g:1≤nx∧nx≤281474976710657) (hc:eP q) (h:0≤x∧x<281474976710657→nx=1+x) (hm:Mem w W (jr q)):zde w x (.returned (.tuple #[.agg (cO.cells ⟨nx,q⟩),.bool true])) W:=
 ⟨⟨nx,q⟩,rfl,zgx c d e g hc,by subst c;exact d,by subst c;exact f,h,hm⟩
section
variable {a b:cO} {w:World} {B:Nat}
theorem dN.sh (h:dN a):GoodS a.st.av:=PK h.ok (xQ h.qP).2
def zgz:∀l:List Nat,abl l≤abl (l.flatMap au):=by intro x;induction x<;>grind [EP]
theorem dN.len (h:dN a):15≤abl (bA (dx a))∧abl (bA (dx a))≤6000007:=by
 refine ⟨?_,O9 (Dk h.qP)⟩
 have S:=h.sh.sh
 have h1:1≤a.st.ak:=S.ak.1
 have h2:(abl a.st.cl:Int)=a.st.ak:=S.cl
 have h3:(abl a.st.cu:Int)=a.st.ak:=S.cu
 have h4:1≤abl a.st.gs:=(qp S.gs).1
 have h5:abl a.st.rs=abl a.st.gs:=by rw [←uN];exact S.sp
 have h6:((a.st.rs.getD 0 Rw.zero).l.length:Int)=a.st.ak:=by rw [←xR (show 0<abl a.st.rs by omega)];exact S.rows 0 (by show 0<abl (jc a.st);rw [uN];omega)
 have h7:1≤abl (aF a 6):=by
  show 1≤abl (dS (abl a.st.rs) _)
  refine acM ?_ (OY (i:=1) om)
  rw [qz,Bn]
  show 1≤abl (ni 0 (a.st.rs.getD 0 Rw.zero).l)
  unfold ni
  refine acM ?_ (OY (i:=1) om)
  rw [qz,Bn,KP de]
  exact abq _
 have h8:=zgz (dU a)
 have h9:8≤abl (dU a):=by
  rw [Dj]
  simp only [abn]
  have c:abl (aF a 0)=1:=rfl
  have e1:abl (aF a 1)=3:=rfl
  have e3:abl (aF a 3)=abl a.st.cl:=abu ..
  have e4:abl (aF a 4)=abl a.st.cu:=abu ..
  have e5:1≤abl (aF a 5):=by show 1≤abl (_::_:List Nat);rw [ab1];omega
  omega
 rw [tT,KU]
 omega
def q6n {m:List Nat} (h:bA l=bA m):l=m:=by grind [Nk,bA,List.append_inj']
theorem dN.nums (c:dN a) (hb:dN b):dU a=dU b↔eD a b:=⟨λh=>zbd c.qP hb.qP c.ok hb.ok h,λh=>by
 have h1:=q9c h
 rwa [zL c.qP,zL hb.qP,eq_comm] at h1⟩
theorem zbf (h:dU a=dU b):dx a=dx b:=by unfold dx;rw [h]
theorem dN.out (c:dN a) (hb:dN b):bA (dx a)=bA (dx b)↔eD a b:=by
 rw [←c.nums hb]
 refine ⟨λh=>?_,λh=>by rw [zbf h]⟩
 have h1:=q6n h
 unfold dx at h1
 exact qr3 (KT c.ok c.few) (KT hb.ok hb.few) (afq h1)
end
theorem IG (x:Int): -281474976710657<ae8 x 281474976710657∧ae8 x 281474976710657<281474976710657:=⟨Int.lt_tmod_of_pos x de,Int.tmod_lt_of_pos x de⟩
def zjy (w:World) (x:Int) (r:Ending) (a:World):Prop:=(∃z:Int,r= .returned (vI z)∧0≤z∧z<281474976710657∧(0≤x∧x<281474976710657→z=x))∧Below w.heap.size w a
def zg6 {n:bZ}:eB 12 n.new.ts:=λt ht=>by cases ht
def q0e (x:Int) (c:aR x) (w:World):
    Calls abm 39 #[vI x,vI 281474976710657] w (zjy w x):=by
 unfold aR at c
 have d:=IG x
 refine (iX Tryz.func39 16) ?_
 refine (JP∘Jp 1∘Jj∘JQ∘JP∘Jv 2 [(6,.bool false)]∘Jj∘JF∘aD∘JP∘Jp 4∘dQ∘Jj∘JQ∘JP∘Jp 2∘aK∘Jj) (Ji (λa=>?_) λa=>?_)
 ·
  exact (JT∘JR∘Jp 3∘Jo (vI ((ae8 x 281474976710657)+281474976710657)) (by exact ou ⟨by omega,by omega⟩)∘Jp 1∘dQ∘Jr∘Jp 2∘aK∘Jj∘JZ∘aZ) λb=>by exact ⟨⟨_,rfl,by have:=IG x;omega,by have:=IG x;omega,λh=>by have:=agk h.1 h.2;omega⟩,b.below⟩
 exact (JF∘aD∘JP∘Jp 2∘aK∘Jj∘JZ∘aZ) λb=>by exact ⟨⟨_,rfl,by have:=IG x;omega,by have:=IG x;omega,λh=>by have:=agk h.1 h.2;omega⟩,b.below⟩
theorem q0f (n:bZ) (q:n.Ok) (A:Option Addr) (E:Nat) (l:List iJ) (U:∀x∈l,x.Ok) (hc:abl l≤E) (F:abl l≤9223372036854775807) (nx:Int) (G:aR nx) (w:World) (hr:Rd w w.heap.size 8 A (abl l) (l.flatMap yj)):
    Calls abm 42 #[.agg n.cells,abh A l E,vI nx] w (zde w nx):=by
 have hsl:=q49 l 60
 refine (xD Tryz.func42 50) ?_
 refine (JP∘JE) λw3 g3=>(JA #[vI 0,vI 0,vQ 0,vN,vN,vN,vN,vN]) λw6 r=>(Jp 1∘Jr∘d9 Zq O1 (hm:=by exact (q5a q))∘JK (h:=by exact λb=>qzw n q _)) λH I w16 V=>(JL (h:=by exact λb=>zfw (bZ.cfg q) (b.rd (i:=0) rfl))) ?_
 rintro b _ J ⟨d,x,rfl,D,hm⟩
 refine ⟨_,rfl,_,(show Mem w J (abk H n.gs I eO 198 2:: .blk r #[vI 0,vI 0,vQ 0,vN,vN,vN,vN,vN] 50:: .blk g3 n.cells 100::(mo d x++([]))) from b.vg 3 hm rfl),?_⟩
 refine (Jp 1∘Jx∘Jx∘Jp 2∘Jj∘JQ∘JP∘Jv 4 [(23,vP d 0),(22,.bool false)]∘Jy (v:= .bool false) (h:=by exact aaC rfl rfl rfl)∘Jp 1∘gu∘Jj∘JF∘aD∘JQ∘JP∘Jp 1∘JK (h:=by exact λb=>qzx A E l 60 _ U (b.old hr) hc F de)) λe c SF W=>(Jl∘Jp 1∘Jj∘JB) λa Z b=>?_
 refine qg (λX aS wS=>∃(k:Nat) (x:aC) (s:aW),(k≤abl (zq l 60))∧(x.av=s)∧(GoodS s)∧(kG s=true)∧(eB 12 s.ts)∧X=abl (zq l 60)-k∧Fr aS 50 [] [(30,vI k),(29,vI (abl (zq l 60):Nat)),(28,abh e (zq l 60) c),(25,.bool false),(8,vP d 0),(7,.bool false),(6,vP r 0),(2,vI nx)]∧Mem w wS (abk e (zq l 60) c qM 214 8:: .blk r #[vI 0,vI 0,vQ 0,vN,vN,vN,vN,vN] 50::(mo d x++([])))) (m:=abl (zq l 60)-0) ⟨0,x,n.new,abw _,D,(bZ.good q).1,(bZ.good q).2,zg6,rfl,Z.sub kr,b.pt 4 [0,2]⟩ ?_
 clear Z b;rintro X a w_ ⟨k,x,s,hk,D,t,Y,hD,rfl,Z,b⟩
 refine Jb Z b ((JP∘Jp 1∘Jj∘JQ) (Ji (λu=>?_) λu=>?_))
 ·
  have B:k<abl (zq l 60):=by omega
  obtain ⟨o,ho⟩:∃z,(zq l 60).getD k bC.zero=z:=⟨_,rfl⟩
  have f:=qe bC.zero B
  rw [ho] at f
  have g:o.Ok:=q45 U _ f
  have K:o.task≤12:=quw _ f
  refine (JT∘aD∘JQ∘JB∘JP) ?_
  repeat (first|clear Z|clear b)
  intro a Z b
  obtain ⟨C,rfl⟩:=b.rat 0 k
  refine Jb Z b ((l9 k 8∘Jy (v:= .agg (((zq l 60).getD k bC.zero).cells)) (h:=by exact Pe rfl rfl mh rfl (λ_ h=>h.CQ zfu (i:=0) rfl ((getD_at bC.zero B))))∘Jo (.agg o.cells) (by rw [ho])∘JA #[vB 0,vI 0,vI 0,vI 0,vI 0,vI 0,vI 0,vQ 0]) λwK L=>(JV mh aT (h1:=by exact X7 o)) λOi=>(bH∘Jj∘JR∘Jp 1∘d9 mh O0∘JL (h:=by exact λb=>QO 3 b rfl D t g)) ?_)
  rintro b _ M ⟨y,rfl,hy,N⟩
  refine ⟨_,rfl,_,(show Mem w M (.blk L o.cells 214:: .row (vS C (abl (zq l 60)) c) (abl (zq l 60)) ((zq l 60).flatMap qM) 214 8:: .blk r #[vI 0,vI 0,vQ 0,vN,vN,vN,vN,vN] 50::(mo d y++([]))) from N.back),?_⟩
  refine (ow∘Jj∘JR∘bT 1∘Jp 1∘aK∘Jq) λa Z b=>?_
  exact ⟨_,om,k+1,y,(qY s o).1,by omega,hy,zac g t,zad g t Y,zju K hD,rfl,Z.sub kr,b.pt 3 [1,2]⟩
 refine (JF∘JX∘JG∘JP∘Jp 1∘JL (h:=by exact λb=>zfz 2 b rfl D t)) ?_
 rintro b _ O ⟨p,rfl,hp,j,hm⟩
 refine ⟨_,rfl,_,(show Mem w O (abk e (zq l 60) c qM 214 8:: .blk r #[vI 0,vI 0,vQ 0,vN,vN,vN,vN,vN] 50::(jr p++(mo d x++([])))) from b.vg (T:=(mo d x++([]))) 2 hm rfl),?_⟩
 refine (Jp 1∘Jx∘Jx∘JA #[vI 0,vQ 0,vN,vN,vN,vN,vN]) λDi g12=>(JV fK aT (h1:=by exact Xd p)) λao5=>(Jp 1∘Jj) λa Z b=>?_
 refine wp_seq ?_
 refine Jb Z b ((Vs .n [7]) λqI=>(Vq [0,5,6] [(49,.bool true),(43,vI nx)]∘qF 3 fK O0) λa Z b P=>?_)
 refine s_on Z 1 rfl ?_
 refine kL Z [vI nx,vI 281474976710657] rfl rfl (q0e nx G _) ?_
 rintro _ NR ⟨⟨z,rfl,hz1,hz2,Q⟩,R⟩
 refine ⟨_,rfl,?_⟩
 replace b:=b.call R
 clear Z;intro a Z
 refine ay (b.pt 3 [0,1,2]) (λP=>?_)
 refine Vb Z b P ((Vp [2]∘Vo (vI (1+z)) (by exact ou ⟨by omega,by omega⟩)∘Vy 4 (v:= .agg #[vI (1+z),vI p.ak,vQ p.aj,abh p.gA p.gs p.gc,abh p.lA p.cl p.lc,abh p.uA p.cu p.uc,abh p.tA p.ts p.tc,abh p.sA p.rs p.sc]) (h:=by exact Yl.build (vs:=[(0,vI (1+z)),(1,.agg p.cells)]) rfl kr kr)) λa Z b P=>?_)
 refine s_on Z 7 rfl (cK Z b 2 rfl rfl rfl rfl rfl zn rfl rfl (by simp [acd]) λS b=>?_)
 refine dJ kr ?_
 refine ap Z (bM kr) [8] (bt 9 []) [(7,.bool true)] λa Z=>?_
 refine qd kr ?_
 refine Jb Z b ((JZ) λa Z b=>?_)
 exact eZ rfl Z (.cellS (i:=2) Z b rfl rfl zn rfl) (.tmp Z rfl) (zgy (nx:=1+z) hp t Y hD ⟨by omega,by omega⟩ j (λh=>by rw [Q h]) ((b.iA 3 rfl).mV (List.sublist_append_left ..)))
section
variable {W w:World} {fs:List Fact}
end
structure Ii (w:World) (q:Ev×Nat×Nat) (r:Ending) (w':World):Prop where
 ret:r= .returned (.tuple #[.agg q.1.cells,.int .i64 (q.2.1:Int),.int .i64 (q.2.2:Int)])
 below:Below w.heap.size w w'
structure Mr (w:World) (q:Int×Nat) (r:Ending) (w':World):Prop where
 ret:r= .returned (.tuple #[.int .i64 q.1,.int .i64 (q.2:Int)])
 below:Below w.heap.size w w'
theorem q6e:∀(l:List Ev) (b:Bs) (e:Ev),recs b (l++[e])=recs b l++zy (match l.getLast? with|some q=>q.at|none=>b) e:=by intro x;induction x<;>grind [recs]
def wV (b:Bs) (l:List Ev) (k:Nat):List Nat:=recs b (l.take k)
structure WriteAt (b:Bs) (l:List Ev) (k:Nat) (bk:Bs):Prop where
 base:bk=Aq b l k
 head:0<k→l.head?.all b.behind=true
def WriteAt.start (b:Bs) (l:List Ev):WriteAt b l 0 b:=⟨rfl,λh=>by omega⟩
section
variable {b bk:Bs} {l:List Ev} {k:Nat} {e:Ev}
theorem WriteAt.bad (h:WriteAt b l k bk) (hr:(gD l).2=0) (hb:b.right=true) (hk:l[k]?=some e) (a:mP bk e≠0):k=0:=by
 rcases ach k with h0|h0
 ·exact h0
 ·obtain ⟨c,d⟩:=abv.1 hk
  have:=Ua hr hb (h.head h0) k c
  rw [d,←h.base] at this
  exact absurd this a
def abg (h:WriteAt b l k bk) (hr:(gD l).2=0) (hb:b.right=true) (hk:l[k]?=some e) (h0:k=0) (c:mP bk e≠0):zo b l=mP bk e:=by
 subst h0
 have d:bk=b:=h.base
 subst d
 obtain ⟨f,_,_⟩:=MQ l none 0 hr
 have hc:=f e (abM hk)
 have a:¬bk.behind e=true:=by
  intro h1
  unfold mP at c
  rw [if_neg (by simp [hc]),if_pos ⟨hb,h1⟩] at c
  exact c rfl
 have g:l.head?=some e:=by rw [afx];exact hk
 unfold zo mP
 rw [if_neg om,if_neg (by simp [g,a]),if_neg (by simp [hc]),if_neg (by simp [a])]
theorem WriteAt.up (h:WriteAt b l k bk) (hk:l[k]?=some e) (a:mP bk e=0):wV b l (k+1)=wV b l k++sM bk e:=by
 obtain ⟨c,d⟩:=abv.1 hk
 unfold wV sM
 rw [adP,hk,if_pos a,h.base]
 show recs b (l.take k++[e])=_
 rw [q6e]
 congr 2
 cases k with
 |zero=>simp [Aq]
 |succ j=>
  rw [show (l.take (j+1)).getLast?=l[j]? from by rw [List.getLast?_take];simp [abp (show j<abl l by omega)]]
  rfl
theorem WriteAt.next (h:WriteAt b l k bk) (hk:l[k]?=some e) (a:mP bk e=0):WriteAt b l (k+1) e.at:=by
 refine ⟨by show e.at=(match l[k]? with|some e=>e.at|none=>b);rw [hk],λ_=>?_⟩
 rcases ach k with h0|h0
 ·subst h0
  have c:bk=b:=h.base
  subst c
  have d:l.head?=some e:=by rw [afx];exact hk
  rw [d]
  unfold mP at a
  split at a
  ·omega
  ·split at a
   ·rename_i h1;exact h1.2
   ·omega
 ·exact h.head h0
theorem WriteAt.done (h:WriteAt b l n bk) (hr:(gD l).2=0) (hb:b.right=true) (a:abl l=n) (g:W.ownsRow w.heap.size 5 1 (.slice A (abl (wV b l n)) c) (abl (wV b l n)) ((wV b l n).map B8)) (hc:abl (wV b l n)≤c) (i:Below w.heap.size w W):
  ze w (zo b l) (qR b l) (.returned (.tuple #[.slice A (abl (wV b l n)) c,.int .i64 0])) W:=by
 have j:l.head?.all b.behind=true:=by
  rcases ach n with h0|h0
  ·subst h0;rw [adx.1 a];rfl
  ·exact h.head h0
 have f:zo b l=0:=by unfold zo;rw [if_neg om,if_pos ⟨hb,j⟩]
 have d:qR b l=wV b l n:=by unfold qR wV;rw [if_pos f,←a,ada]
 rw [f,d]
 exact ⟨⟨A,c,rfl,g,hc⟩,i⟩
end
structure gU (b:Bs) (cpu:Nat) (m:Nat) (l:List Nat) (es:List Ev) (u:Nat) (bk:Bs):Prop where
 fits:u≤abl l
 most:abl es≤u
 few:abl es≤m
 last:∀q,es.getLast?=some q→bk=q.at
 said:kW cpu m b none l=jN es u (kW cpu (m-abl es) bk es.getLast? (l.drop u))
section
variable {b bk:Bs} {cpu m u L er:Nat} {l:List Nat} {es:List Ev} {e:Ev}
def gU.start (b:Bs) (cpu m:Nat) (l:List Nat):gU b cpu m l [] 0 b:=⟨abw _,abq _,abw _,λq h=>by simp at h,(q04 cpu m b none l).symm⟩
theorem gU.bad (h:gU b cpu m l es u bk) (hm:abl es<m) (a:dn bk cpu (l.drop u)=(e,L,er)) (c:er≠0):kW cpu m b none l=([],0,er):=by
 rw [h.said,show m-abl es=(m-abl es-1)+1 by omega]
 exact q03 a c es u
def gU.same (h:gU b cpu m l es u bk) (hm:abl es<m) (a:dn bk cpu (l.drop u)=(e,L,0)) (c:es.getLast?.any (λq=>decide (e.seq=q.seq))=true):kW cpu m b none l=([],0,71):=by
 rw [h.said,show m-abl es=(m-abl es-1)+1 by omega]
 exact qxu a c es u
theorem gU.next (h:gU b cpu m l es u bk) (hm:abl es<m) (a:dn bk cpu (l.drop u)=(e,L,0)) (c:es.getLast?.any (λq=>decide (e.seq=q.seq))=false):gU b cpu m l (es++[e]) (u+L) e.at:=by
 have h1:=q02 bk cpu (l.drop u)
 rw [a,abN] at h1
 simp only at h1
 have h2:=h1.2 trivial
 have h3:=h.fits
 have h4:=h.most
 refine ⟨by omega,by simp;omega,by simp;omega,λq a=>?_,?_⟩
 ·simp at a;rw [a]
 ·rw [h.said,show m-abl es=(m-abl es-1)+1 by omega,qxv a c es u,acV]
  simp [Nat.sub_sub]
theorem gU.done (h:gU b cpu m l es u bk) (hm:m≤abl es):kW cpu m b none l=(es,u,0):=by
 rw [h.said,show m-abl es=0 by omega]
 simp [kW,jN]
end
def Bk.upto (b:Bk) (n:Nat):Bk:=⟨b.kind,b.cpu,b.lost,b.next,b.evs.take n⟩
def fD {α:Type} (f:α→α) (l:List α) (k:Nat):List α:=(l.take k).map f++l.drop k
theorem Sn (f:α→α) (l:List α) (k:Nat):abl (fD f l k)=abl l:=by
 unfold fD
 rw [abn,abu,abr,abN]
 omega
theorem q0a (f:α→α) (l:List α):fD f l 0=l:=by simp [fD]
def DV (f:α→α) (l:List α) {k:Nat} (d:α) (h:k<abl l):(fD f l k)[k]?=some (l.getD k d):=by
 unfold fD
 rw [adt (by rw [abu,abr];omega),abu,abr,adb om,adK,acI,abo,acF,abp h]
 rfl
theorem q0b (f:α→α) (l:List α) {k:Nat} (d:α) (h:k<abl l):(fD f l k).set k (f (l.getD k d))=fD f l (k+1):=by
 unfold fD
 have a:abl (l.take k)=k:=by rw [abr];omega
 have b:l.drop k=l.getD k d::l.drop (k+1):=by
  rw [abo,abp h]
  exact acn h
 have ht:l.take (k+1)=l.take k++[l.getD k d]:=by
  rw [List.take_succ_eq_append_getElem h,abo,abp h]
  rfl
 rw [afp,if_neg (by rw [abu];omega),abu,a,adK,b,aeW,ht,abV,aby]
 rfl
structure It where
 e:Ev
 before:Int
structure It.Ok (x:It):Prop where
 e:x.e.Ok
 before:aR x.before
def It.cells (x:It):Array Value:= #[.int .i64 x.e.seq,.int .i64 x.e.time,.int .u8 (x.e.cpu:Int),.int .u8 (x.e.kind:Int),.int .i64 x.e.task,.int .i64 x.e.group,.int .i64 x.e.to,.int .i64 x.e.weight,.int .i64 x.e.ticks,.int .u64 (x.e.mask:Int),.int .i64 x.e.got,.int .i64 x.before]
def nT (l:List It):List Ev:=l.map It.e
def mX (l:List It):List Int:=l.map It.before
def Ba:Int→List Int→Bool
 |_,[]=>true
 |r,n::t=>decide (0≤n∧n≤r)&&Ba (r-n) t
def Oc:Int:=281474976710656
def eG (cpu:Nat):List It→Bool
 |[]=>true
 |x::_=>decide (x.e.cpu=cpu)
def Wj (cpu:Nat) (l:List It) (a:Int):Bool:=decide ((gD (nT l)).2=0)&& (Ba Oc (a::mX l)&&eG cpu l)
def jh:List Int→Int
 |[]=>0
 |n::t=>n+jh t
def Wm:∀{l:List Int} {r:Int},Ba r l=true→∀n∈l,0≤n∧n≤r
 |[],_,_,n,a=>by cases a
 | x :: t, r, h, n, a => by
  simp only [Ba,abF,decide_eq_true_eq] at h
  rcases ab0.1 a with rfl|a
  ·exact h.1
  ·have:=Wm h.2 n a
   omega
def Wn:∀{l:List Int} {r:Int},0≤r→Ba r l=true→0≤jh l∧jh l≤r
 |[],r,a,_=>⟨ae7 _,a⟩
 |x::t,r,a,h=>by
  simp only [Ba,abF,decide_eq_true_eq] at h
  have:=Wn om h.2
  simp only [jh]
  omega
theorem Wo:∀(a b:List Int),jh (a++b)=jh a+jh b
 |[],b=>by simp [jh]
 |x::a,b=>by simp only [List.cons_append,jh,Wo a b];omega
theorem Wp:∀(l:List Ev) (p:Option Ev) (b:Bs) (k:Nat),Chain cpu p b l→∃a,Chain cpu none a (l.drop k)
 |[],_,b,k,_=>⟨b,by rw [List.drop_nil];trivial⟩
 |e::r,p,b,0,h=>⟨b,h.1,h.2.1,(λq c=>by cases c),h.2.2.2⟩
 |e::r,_,_,k+1,h=>Wp r (some e) e.at k h.2.2.2
theorem q2i (l:List It) (n:Nat):nT (l.drop n)=(nT l).drop n:=by unfold nT;rw [aeQ]
def Wq (l:List It) (n:Nat):jh (mX l)=jh (mX (l.take n))+jh (mX (l.drop n)):=by grind [mX,Wo,aeQ,afU,ab9]
theorem qs5:∀{l:List Int},(∀n∈l,0≤n)→0≤jh l:=by intro x;induction x<;>grind [jh,aci,acs]
structure mg (cpu:Nat) (l:List It) (opn:Int):Prop where
 c64:cpu<64
 chain:∃b,Chain cpu none b (nT l)
 ok:∀x∈l,x.Ok
 o0:0≤opn
 Kv:∀x∈l,0≤x.before
 sum:opn+jh (mX l)≤281474976710656
def Od {l:List It} (h:∀x∈l,0≤x.before):0≤jh (mX l):=by simp_all [mX,qs5]
theorem mg.drop {l:List It} {opn:Int} (h:mg cpu l opn) (k:Nat):mg cpu (l.drop k) opn:=by
 obtain ⟨b,c⟩:=h.chain
 have h1:=Wq l k
 have h2:=Od (l:=l.take k) (λx a=>h.Kv x (acg a))
 have h3:=h.sum
 exact ⟨h.c64,by rw [q2i];exact Wp _ _ _ k c,λx a=>h.ok x (abZ a),h.o0,λx a=>h.Kv x (abZ a),by omega⟩
theorem mg.of {l:List It} {opn:Int} (hc:cpu<64) (a:∀x∈l,x.Ok) (h:Wj cpu l opn=true):mg cpu l opn:=by
 unfold Wj at h
 simp only [abF,decide_eq_true_eq] at h
 obtain ⟨h1,h2,h3⟩:=h
 have b:=h2
 simp only [Ba,abF,decide_eq_true_eq] at b
 have hs:=Wn (r:=Oc-opn) om b.2
 have hm:Oc=281474976710656:=rfl
 refine ⟨hc,?_,a,b.1.1,?_,by omega⟩
 ·cases l with
  |nil=>exact ⟨⟨0,0⟩,trivial⟩
  | cons x r =>
   have c:∀e∈nT (x::r),e.Ok:=λe i=>by
    unfold nT at i
    obtain ⟨y,d,rfl⟩:=ab6.1 i
    exact (a y d).e
   have f:x.e.check=0:=VE h1 rfl
   have g:x.e.cpu=cpu:=by simpa [eG] using h3
   refine ⟨x.e.at,NJ (nT (x::r)) none x.e.at 0 c (EJ f) ?_ (λq j=>by cases j) h1⟩
   intro y d
   have:y=x.e:=by simpa [nT] using d.symm
   subst this
   exact ⟨VF _,g⟩
 ·intro x f
  exact (Wm b.2 x.before (ac1 f)).1
section
variable {cpu:Nat} {l:List It} {opn limit:Int}
end
def It.zero:It:=⟨Ev.zero,0⟩
def ER:EI abm 51 85 (.agg #[.int .u8 0,.int .u8 0,.int .i64 0,.int .i64 0,.slice none 0 0]) 5 48:=⟨by kernel_rfl,by kernel_rfl,rfl,by omega⟩
theorem qlq {l:List α} (d:α) (h:k<abl l):l.drop k=l.getD k d::l.drop (k+1):=by
 rw [acn h,abo,abp h]
 rfl
theorem mg.part {l:List It} {v:Int} (h:mg cpu l v) (j:Nat):0≤jh (mX (l.take j))∧jh (mX (l.take j))+v≤281474976710656:=by
 have h1:=Wq l j
 have h2:=Od (l:=l.take j) (λx a=>h.Kv x (acg a))
 have h3:=Od (l:=l.drop j) (λx a=>h.Kv x (abZ a))
 have h4:=h.sum
 omega
section
open Go.ChangeShapes Go.WideShapes Go.ChangeAt
section
variable {H:Type} {enc:TypeId×Value→H} {P:Program} {W:World} {sp:Nat→Bool} {held:Bool}
def flat_get {sz:Nat}:∀(a:List (List Value)),(∀l∈a,abl l=sz)→∀p u,(a.flatMap id)[p]?=some u→∃i j,∃hi:i<abl a,j<sz∧p=i*sz+j∧a[i][j]?=some u:=by
 intro a
 induction a with
 |nil=>intro _ p u h;simp at h
 | cons l r f =>
  intro h p u b
  have c:=h l (by simp)
  rw [abT] at b
  by_cases g:p<sz
  ·rw [aea (by simp only [id];omega)] at b
   exact ⟨0,p,by simp,g,by omega,b⟩
  ·rw [adt (by simp only [id];omega)] at b
   simp only [id] at b
   rw [c] at b
   obtain ⟨i,j,hi,k,m,e⟩:=f (λy n=>h y (by simp [n])) _ u b
   exact ⟨i+1,j,by simp;omega,k,by rw [adj];omega,by simpa using e⟩
theorem q2j {sz:Nat}:∀(a:List (List Value)),(∀l∈a,abl l=sz)→abl (a.flatMap id)=abl a*sz:=by
 intro a
 induction a with
 |nil=>simp
 |cons l r b=>intro h;rw [abT,abn,b (λy c=>h y (by simp [c])),ab1,adj];have:=h l (by simp);simp only [id];omega
def Kw (f:α→List Value) (Ok:α→Prop) {t e:TypeId} {sz:Nat} (ht:P.underlying t=some (.slice e)) (w:P.cellsOf e=sz) (h0:0<sz) (G:∀x,abl (f x)=sz)
  (L:∀m l y,ads enc P W 0 sp held m e l=some y→∃x,f x=l∧Ok x) {g:Nat} {B:List Value} {x:DataW H×List MemPlace} (h:ads enc P W 0 sp held g t B=some x):
  ∃(A:Option Addr) (c:Nat) (l:List α),B=[.slice A (abl l) c]∧abl l≤c∧c≤maxLen∧(∀x∈l,Ok x)∧Rd W W.heap.size sz A (abl l) (l.flatMap f):=by
 rcases DataW.trod_slice ht h with ⟨hc,_⟩|⟨a,len,cap,b,I,m,_,hc,_,_,O,hm,J,z,_⟩
 ·exact ⟨none,0,[],hc,abq _,by unfold maxLen;omega,by simp,Rd.nil⟩
 ·have n:∀i,i<len→∃x:α,W.cells? 0 (a.add (i*sz)) sz=some (f x)∧Ok x:=by
   intro i hi
   have h1:=z i hi
   rw [w,abp (by omega:i<abl b)] at h1
   obtain ⟨l,h2,h3⟩:=Option.bind_eq_some_iff.1 h1
   obtain ⟨x,rfl,C⟩:=L _ _ _ h3
   exact ⟨x,h2,C⟩
  have key:∀k,k≤len→∃xs:List α,abl xs=k∧∀i (hi:i<abl xs),W.cells? 0 (a.add (i*sz)) sz=some (f xs[i])∧Ok xs[i]:=by
   intro k
   induction k with
   |zero=>intro _;exact ⟨[],rfl,λi hi=>by simp at hi⟩
   | succ k M =>
    intro Q
    obtain ⟨xs,h1,h2⟩:=M om
    obtain ⟨x,h3,h4⟩:=n k om
    refine ⟨xs++[x],by simp [h1],λi hi=>?_⟩
    by_cases o:i<abl xs
    ·rw [List.getElem_append_left o];exact h2 i o
    ·obtain rfl:i=abl xs:=by simp at hi;omega
     rw [List.getElem_append_right (abq _)]
     simp only [adK,List.getElem_cons_zero,h1]
     exact ⟨h3,h4⟩
  obtain ⟨xs,h1,h2⟩:=key len (abq _)
  have q:xs.flatMap f=(xs.map f).flatMap id:=by rw [aeS];rfl
  have r:∀l∈xs.map f,abl l=sz:=λl D=>by obtain ⟨x,_,rfl⟩:=ab6.1 D;exact G x
  have s:∀i (hi:i<abl xs) j,j<sz→W.cell? (a.add (i*sz+j))=(f xs[i])[j]?:=by
   intro i hi j E
   have:=(World.cells?_some (h2 i hi).1).2.2 j E
   rwa [TF] at this
  refine ⟨some a,cap,xs,by rw [hc,h1],by omega,hm,λx C=>by obtain ⟨i,hi,rfl⟩:=acB C;exact (h2 i hi).2,⟨by rw [q,q2j _ r,abu],λN=>⟨a,rfl,?_,?_⟩⟩⟩
  ·have h3:=s 0 N 0 h0
   have h4:=G xs[0]
   rw [abp om] at h3
   have:=World.block_lt_of_cell? W _ h3
   simpa [Addr.add] using this
  ·intro p u K
   rw [q] at K
   obtain ⟨i,j,hi,E,rfl,F⟩:=flat_get _ r p u K
   rw [abu] at hi
   rw [s i hi j E,←F,afc]
end
section
variable {H:Type} {enc:TypeId×Value→H} {W:World} {b0:Nat} {v:Value} {d:DataW H} {p:List MemPlace}
end
end
section
open Go.ChangeShapes Go.WideShapes Go.ChangeAt
section
variable {H:Type} {enc:TypeId×Value→H} {P:Program} {W:World} {sp:Nat→Bool} {held:Bool}
def QS:Value→Int
 | .int _ z=>z
 |_=>0
def Zx {t e:TypeId} {k:acf} (ht:P.underlying t=some (.array n e)) (h:P.underlying e=some (.int k)) (hc:P.cellsOf e=1) (j:P.cellsOf t=n) {c:Nat} {L:List Value} {d:DataW H} {p:List MemPlace} (l:ads enc P W 0 sp held c t L=some (d,p)):
  ∃a:List Int,abl a=n∧L=a.map (abQ k)∧∀z∈a,(ae6 k z).wf=true:=by
 obtain ⟨xs,m,_,_,b,u,o⟩:=DataW.trod_array ht l
 rw [j] at b
 have f:∀i,i<n→∃z:Int,L[i]?=some (.int k z)∧(ae6 k z).wf=true:=λi hi=>by
  have g:=o i hi
  rw [hc,acX,abp om] at g
  obtain ⟨z,q,_,r⟩:=adR h g
  exact ⟨z,zx q,r⟩
 refine ⟨L.map QS,by rw [abu,b],Eh (by rw [abu,abu]) λi hi=>?_,λz hz=>?_⟩
 ·rw [abu,abu] at hi
  obtain ⟨z,h1,_⟩:=f i om
  rw [aep,ac3,h1]
  rfl
 ·obtain ⟨v,s,rfl⟩:=ab6.1 hz
  obtain ⟨i,hi,rfl⟩:=acB s
  obtain ⟨z,h1,h2⟩:=f i om
  rw [abp hi] at h1
  injection h1 with h1
  rw [h1]
  exact h2
end
def QT:List acf:=[.u8,.u8,.u8,.u8,.u8,.u16,.u32,.u8]
def qzy:Ef abm 275 QT=true:=by kernel_rfl
def zaf:Tryz.prog.underlying 101=some (.slice 275):=by kernel_rfl
def qzz:Tryz.prog.cellsOf 275=8:=by kernel_rfl
def qz0 (w:abl B=abl QT) (h:∀(i:Nat) (k:acf),QT[i]?=some k→∃z:Int,B[i]?=some (abQ k z)∧(ae6 k z).wf=true):∃x:iJ,yj x=B∧x.Ok:=by
 obtain ⟨a,h0,b⟩:=h 0 .u8 rfl
 have b:=iL b
 obtain ⟨c,h1,e⟩:=h 1 .u8 rfl
 have e:=iL e
 obtain ⟨f,h2,g⟩:=h 2 .u8 rfl
 have g:=iL g
 obtain ⟨j,h3,l⟩:=h 3 .u8 rfl
 have l:=iL l
 obtain ⟨m,h4,n⟩:=h 4 .u8 rfl
 have n:=iL n
 obtain ⟨o,h5,q⟩:=h 5 .u16 rfl
 have q:=MS q
 obtain ⟨r,h6,s⟩:=h 6 .u32 rfl
 have s:=tJ s
 obtain ⟨t,h7,u⟩:=h 7 .u8 rfl
 have u:=iL u
 refine ⟨⟨a.toNat,c.toNat,f.toNat,j.toNat,m.toNat,o.toNat,r.toNat,t.toNat⟩,?_,⟨by show a.toNat<_;omega,by show c.toNat<_;omega,by show f.toNat<_;omega,by show j.toNat<_;omega,by show m.toNat<_;omega,by show o.toNat<_;omega,by show r.toNat<_;omega,by show t.toNat<_;omega⟩⟩
 refine Eh (by rw [w];rfl) λi hi=>?_
 have y:i<8:=by rw [w] at hi;exact hi
 have hc:i=0∨i=1∨i=2∨i=3∨i=4∨i=5∨i=6∨i=7:=by omega
 rcases hc with rfl|rfl|rfl|rfl|rfl|rfl|rfl|rfl
 ·rw [h0];show some (abQ .u8 ((a.toNat:Nat):Int))=_;rw [abS b.1]
 ·rw [h1];show some (abQ .u8 ((c.toNat:Nat):Int))=_;rw [abS e.1]
 ·rw [h2];show some (abQ .u8 ((f.toNat:Nat):Int))=_;rw [abS g.1]
 ·rw [h3];show some (abQ .u8 ((j.toNat:Nat):Int))=_;rw [abS l.1]
 ·rw [h4];show some (abQ .u8 ((m.toNat:Nat):Int))=_;rw [abS n.1]
 ·rw [h5];show some (abQ .u16 ((o.toNat:Nat):Int))=_;rw [abS q.1]
 ·rw [h6];show some (abQ .u32 ((r.toNat:Nat):Int))=_;rw [abS s.1]
 ·rw [h7];show some (abQ .u8 ((t.toNat:Nat):Int))=_;rw [abS u.1]
section
variable {H:Type} {enc:TypeId×Value→H} {W:World} {b0:Nat} {v:Value} {d:DataW H} {p:List MemPlace}
def zag {x:DataW H×List MemPlace} (a:ads enc abm W 0 (λ_=>true) true c 275 B=some x):∃e:iJ,yj e=B∧e.Ok:=by
 obtain ⟨h1,h2⟩:=MR qzy a
 exact qz0 h1 h2
def nf0:fieldAt abm 100 0 0 5=true:=by kernel_rfl
def nf1:fieldAt abm 100 1 1 5=true:=by kernel_rfl
def nf2:fieldAt abm 100 2 2 61=true:=by kernel_rfl
def nf3:fieldAt abm 100 3 3 97=true:=by kernel_rfl
def nf4:fieldAt abm 100 4 8 98=true:=by kernel_rfl
theorem Zy:Tryz.prog.cellsOf 100=13:=by kernel_rfl
def zf0:Tryz.prog.underlying 61=some (.int .u32):=by kernel_rfl
def zf1:Tryz.prog.underlying 60=some (.int .u16):=by kernel_rfl
def zi5:Tryz.prog.underlying 97=some (.array 5 5):=by kernel_rfl
def zi6:Tryz.prog.underlying 98=some (.array 5 60):=by kernel_rfl
theorem Zz:Tryz.prog.cellsOf 5=1:=by kernel_rfl
def q5b:Tryz.prog.cellsOf 60=1:=by kernel_rfl
theorem q5c:Tryz.prog.cellsOf 61=1:=by kernel_rfl
theorem ZA:Tryz.prog.cellsOf 97=5:=by kernel_rfl
theorem ZB:Tryz.prog.cellsOf 98=5:=by kernel_rfl
theorem QU (k:acf):∀{a:List Int},(∀z∈a,0≤z)→a.map (abQ k)=(a.map aeY).map (λz:Nat=>abQ k (z:Int))
 |[],_=>rfl
 |z::r,h=>by
  rw [acS,acS,acS,QU k (λy b=>h y (aci _ b)),abS (h z (acs ..))]
theorem zah {D A:List Value} {a b c:Value} (e:abl D=13) (h0:D[0]?=some a) (h1:D[1]?=some b) (h2:D[2]?=some c) (h3:(D.drop 3).take 5=A) (h4:(D.drop 8).take 5=B):D=a::b::c::(A++B):=by
 match D,e with
 |[c0,i,j,k,l,m,n,o,q,r,f,g,h],_=>
  injection h0 with h0
  injection h1 with h1
  injection h2 with h2
  rw [←h3,←h4,←h0,←h1,←h2]
  rfl
def q5d {y:DataW H×List MemPlace} (a:ads enc abm W 0 (λ_=>true) true c 100 B=some y):∃n:bZ,n.cells.toList=B∧n.Ok:=by
 obtain ⟨e,_,F,l⟩:=qx nf0 a
 obtain ⟨_,_,G,m⟩:=qx nf1 a
 obtain ⟨_,_,I,o⟩:=qx nf2 a
 obtain ⟨_,_,J,q⟩:=qx nf3 a
 obtain ⟨_,_,K,r⟩:=qx nf4 a
 rw [Zy] at e
 obtain ⟨f,g,_,s⟩:=adR Ec l
 obtain ⟨h,e1,_,t⟩:=adR Ec m
 obtain ⟨i,e2,_,u⟩:=adR zf0 o
 obtain ⟨ps,w,e3,j⟩:=Zx zi5 Ec Zz ZA q
 obtain ⟨ws,A,e4,k⟩:=Zx zi6 zf1 q5b ZB r
 rw [Zz] at g e1
 rw [q5c] at e2
 rw [ZA] at e3
 rw [ZB] at e4
 have C:=iL s
 have D:=iL t
 have E:=tJ u
 rw [QU _ λz hz=>(iL (j z hz)).1] at e3
 rw [QU _ λz hz=>(MS (k z hz)).1] at e4
 refine ⟨⟨f.toNat,h.toNat,i.toNat,ps.map aeY,ws.map aeY⟩,?_,⟨by show f.toNat<_;omega,by show h.toNat<_;omega,by show i.toNat<_;omega,by show abl (ps.map aeY)=5;rw [abu,w],by show abl (ws.map aeY)=5;rw [abu,A],λz hz=>?_,λz hz=>?_⟩⟩
 ·rw [zah e (zx g) (zx e1) (zx e2) e3 e4]
  unfold bZ.cells
  dsimp only
  rw [abS C.1,abS D.1,abS E.1]
 ·obtain ⟨x,b,rfl⟩:=ab6.1 hz
  have:=iL (j x b)
  omega
 ·obtain ⟨x,b,rfl⟩:=ab6.1 hz
  have:=MS (k x b)
  omega
end
end
section
open Go.ChangeShapes Go.WideShapes Go.ChangeAt
def Om:List acf:=[.u8,.u8,.u32,.u32,.u32,.u32,.u32,.u32,.u32,.u32,.u64]
def q2p:Ef abm 280 Om=true:=by kernel_rfl
def qye:Tryz.prog.underlying 111=some (.slice 280):=by kernel_rfl
def q2q (F:abl B=abl Om) (h:∀(i:Nat) (k:acf),Om[i]?=some k→∃z:Int,B[i]?=some (abQ k z)∧(ae6 k z).wf=true):∃x:Sm,qW x=B∧x.Ok:=by
 obtain ⟨c,h0,e⟩:=h 0 .u8 rfl
 have e:=iL e
 obtain ⟨f,h1,g⟩:=h 1 .u8 rfl
 have g:=iL g
 obtain ⟨j,h2,l⟩:=h 2 .u32 rfl
 have l:=tJ l
 obtain ⟨m,h3,n⟩:=h 3 .u32 rfl
 have n:=tJ n
 obtain ⟨o,h4,q⟩:=h 4 .u32 rfl
 have q:=tJ q
 obtain ⟨r,h5,s⟩:=h 5 .u32 rfl
 have s:=tJ s
 obtain ⟨t,h6,u⟩:=h 6 .u32 rfl
 have u:=tJ u
 obtain ⟨w,h7,y⟩:=h 7 .u32 rfl
 have y:=tJ y
 obtain ⟨A,h8,C⟩:=h 8 .u32 rfl
 have C:=tJ C
 obtain ⟨D,h9,E⟩:=h 9 .u32 rfl
 have E:=tJ E
 obtain ⟨a,h10,b⟩:=h 10 .u64 rfl
 have b:=zhv b
 refine ⟨⟨c.toNat,f.toNat,j.toNat,m.toNat,o.toNat,r.toNat,t.toNat,w.toNat,A.toNat,D.toNat,a.toNat⟩,?_,⟨by show c.toNat<_;omega,by show f.toNat<_;omega,by show j.toNat<_;omega,by show m.toNat<_;omega,by show o.toNat<_;omega,by show r.toNat<_;omega,by show t.toNat<_;omega,by show w.toNat<_;omega,by show A.toNat<_;omega,by show D.toNat<_;omega,by show a.toNat<_;omega⟩⟩
 refine Eh (by rw [F];rfl) λi hi=>?_
 have G:i<11:=by rw [F] at hi;exact hi
 have hc:i=0∨i=1∨i=2∨i=3∨i=4∨i=5∨i=6∨i=7∨i=8∨i=9∨i=10:=by omega
 rcases hc with rfl|rfl|rfl|rfl|rfl|rfl|rfl|rfl|rfl|rfl|rfl
 ·rw [h0];show some (abQ .u8 ((c.toNat:Nat):Int))=_;rw [abS e.1]
 ·rw [h1];show some (abQ .u8 ((f.toNat:Nat):Int))=_;rw [abS g.1]
 ·rw [h2];show some (abQ .u32 ((j.toNat:Nat):Int))=_;rw [abS l.1]
 ·rw [h3];show some (abQ .u32 ((m.toNat:Nat):Int))=_;rw [abS n.1]
 ·rw [h4];show some (abQ .u32 ((o.toNat:Nat):Int))=_;rw [abS q.1]
 ·rw [h5];show some (abQ .u32 ((r.toNat:Nat):Int))=_;rw [abS s.1]
 ·rw [h6];show some (abQ .u32 ((t.toNat:Nat):Int))=_;rw [abS u.1]
 ·rw [h7];show some (abQ .u32 ((w.toNat:Nat):Int))=_;rw [abS y.1]
 ·rw [h8];show some (abQ .u32 ((A.toNat:Nat):Int))=_;rw [abS C.1]
 ·rw [h9];show some (abQ .u32 ((D.toNat:Nat):Int))=_;rw [abS E.1]
 ·rw [h10];show some (abQ .u64 ((a.toNat:Nat):Int))=_;rw [abS b.1]
section
variable {H:Type} {enc:TypeId×Value→H} {W:World} {b0:Nat} {v:Value} {d:DataW H} {p:List MemPlace}
def q8p:Tryz.prog.cellsOf 280=11:=by kernel_rfl
def zei {x:DataW H×List MemPlace} (a:ads enc abm W 0 (λ_=>true) true c 280 B=some x):∃e:Sm,qW e=B∧e.Ok:=by
 obtain ⟨h1,h2⟩:=MR q2p a
 exact q2q h1 h2
def q8q {x:DataW H×List MemPlace} (a:ads enc abm W 0 (λ_=>true) true m 111 B=some x):
  ∃(A:Option Addr) (c:Nat) (l:List Sm),B=[.slice A (abl l) c]∧abl l≤c∧c≤maxLen∧(∀x∈l,x.Ok)∧Rd W W.heap.size 11 A (abl l) (l.flatMap qW):=
 Kw qW Sm.Ok qye q8p de Db (λ_ _ _ h=>zei h) a
theorem WA:Tryz.prog.cellsOf 61=1:=by kernel_rfl
theorem q2r:Tryz.prog.cellsOf 111=1:=by kernel_rfl
def W32 (x:Nat):Value:= .int .u32 (x:Int)
def WB {x:DataW H×List MemPlace} (a:ads enc abm W 0 (λ_=>true) true c 61 B=some x):∃e:Nat,[W32 e]=B∧e<4294967296:=by
 obtain ⟨z,e1,_,b⟩:=adR VO a
 have:=tJ b
 exact ⟨z.toNat,by rw [e1];show [abQ .u32 ((z.toNat:Nat):Int)]=_;rw [abS this.1],by omega⟩
def zej {a b c d e f:Value} (g:abl B=6) (h0:B[0]?=some a) (h1:B[1]?=some b) (h2:B[2]?=some c) (h3:B[3]?=some d) (h4:B[4]?=some e) (h5:B[5]?=some f):B=[a,b,c,d,e,f]:=by
 refine Eh g λi hi=>?_
 have h:i<6:=hi
 have hc:i=0∨i=1∨i=2∨i=3∨i=4∨i=5:=by omega
 rcases hc with rfl|rfl|rfl|rfl|rfl|rfl<;>assumption
end
end
def qw:Nat→List Nat→List Bk×Nat×Nat
 |0,_=>([],0,0)
 | f + 1, l => if abl l = 0 then ([], 0, 0) else
  if (dw l).2.2≠0 then ([],0,(dw l).2.2) else
   ((dw l).1::(qw f (l.drop (dw l).2.1)).1,(dw l).2.1+(qw f (l.drop (dw l).2.1)).2.1,(qw f (l.drop (dw l).2.1)).2.2)
def Bc (l:List Nat):List Bk×Nat×Nat:=if 524288<abl l then ([],0,3) else qw (abl l) l
def qs9 (h:abl l=0):qw f l=([],0,0):=by
 cases f with
 |zero=>rfl
 |succ f=>rw [qw,if_pos h]
def qta {b:Bk} (d:0<f) (h:0<abl l) (a:dw l=(b,m,er)) (c:er≠0):qw f l=([],0,er):=by
 cases f with
 |zero=>omega
 |succ f=>rw [qw,if_neg om,if_pos (by rw [a];exact c),a]
def qqh {b:Bk} (c:0<f) (h:0<abl l) (a:dw l=(b,m,0)):qw f l=(b::(qw (f-1) (l.drop m)).1,m+(qw (f-1) (l.drop m)).2.1,(qw (f-1) (l.drop m)).2.2):=by
 cases f with
 |zero=>omega
 |succ f=>rw [qw,if_neg om,if_neg (by rw [a];exact λh=>h rfl),a];rfl
def WC (W:World) (g:Nat) (Inv:List Nat→List Fact→Prop) (Stop:List Fact→Prop):Prop:=
 ∀(a:List Nat) (F fr:List Fact) (w:World) (A:Option Addr) (c:Nat) (b:Bk) (m d:Nat),Inv a F→dw a=(b,m,d)→0<abl a→(∀x∈a,x<256)→abl b.evs≤c→Mem W w (.row (.slice A (abl b.evs) c) (abl b.evs) (b.evs.flatMap gZ) 73 11::(F++fr))→
  YieldAt Fence.wide 0 abm g #[.agg #[.int .u8 (b.kind:Int),.int .u8 (b.cpu:Int),.int .i64 b.lost,.int .i64 b.next,.slice A (abl b.evs) c,.int .i64 (m:Int)],.int .i64 (d:Int)] w λe h=>∃f,Mem W h (f++fr)∧((d=0∧e= .returned (.bool true)∧Inv (a.drop m) f)∨(d≠0∧e= .returned (.bool false)∧Stop f))
def q2s (W:World) (Inv:List Nat→List Fact→Prop) (Stop:List Fact→Prop) (r:Ending) (b:World):Prop:=∃v,r= .returned v∧∃a,Mem W b a∧(Inv [] a∨Stop a)
def qlr {fr:List Fact} {I S:List Fact→Prop}:∀(e:Ending) (b:World),(∃a,Mem W b (a++fr)∧((er=0∧e= .returned (.bool true)∧I a)∨(er≠0∧e= .returned (.bool false)∧S a)))→∃v,e= .returned v:=by intros;grind
def aa1 {B:Nat} (h:Rd w B 1 A (abl l) (l.map B8)) (hk:k≤abl l) (hc:abl l≤c):Rd w B 1 (if c=k then A else A.map (·.add (k*1))) (abl (l.drop k)) ((l.drop k).map B8):=by
 rw [abN]
 exact h.M8 hk hc
def zbi:SI abm 255 6:=⟨by kernel_rfl,by kernel_rfl⟩
def qux (W w:World) (n q B:Nat) (A:Option Addr) (c:Nat) (l:List Nat) (Inv:List Nat→List Fact→Prop) (Stop:List Fact→Prop) (D:List Fact) (hL:aM B W) (Q:B≤W.heap.size) (hr:Rd W W.heap.size 1 A (abl l) (l.map B8)) (hc:abl l≤c) (hl:∀b∈l,b<256) (E:iF l) (hn:abl l≤100000000)
    (hy:WC W q Inv Stop) (G:Inv l D) (e:Mem W w (.blk n #[abh A l c] 30::D)):
    Calls abm 178 (.func (.yield q) #[] #[]:: [vP n 0]).toArray w (q2s W Inv Stop):=by
 refine qC Tryz.func178 [.func (.yield q) #[] #[],vP n 0] [(0,.func (.yield q) #[] #[]),(1,vP n 0)] λa Z=>?_
 refine Jb Z e ((JB) λa Z e=>?_)
 refine qg (λR aS wS=>∃(d:List Nat) (X:Option Addr) (k:Nat) (F:List Fact),(Inv d F)∧(Rd W W.heap.size 1 X (abl d) (d.map B8))∧(abl d≤k)∧(∀b∈d,b<256)∧(abl d≤abl l)∧(iF d)∧R=abl d∧Fr aS 29 [] [(0,.func (.yield q) #[] #[]),(1,vP n 0)]∧Mem W wS (.blk n #[abh X d k] 30::F)) (m:=abl l) ⟨l,A,c,D,G,hr,hc,hl,abq _,E,rfl,Z.sub kr,e.pt 1 [0]⟩ ?_
 clear Z e;rintro R a w_ ⟨d,X,k,F,S,T,r,o,hrn,s,rfl,Z,e⟩
 refine Jb Z e ((JQ∘JP∘Jc O0∘Jl∘Jp 1∘bH∘Jj) (Ji (λH=>?_) λH=>?_))
 ·
  have I:0<abl d:=by omega
  obtain ⟨b,m,y,J⟩:∃b m y,dw d=(b,m,y):=⟨_,_,_,rfl⟩
  refine (JT∘aD∘JB∘JP∘Jc O0∘JK (h:=by exact λe=>q8n X (abl d) k d B _ (hL.mem e Q) (e.le Q) (e.old T) r rfl om o s J)) λf g wK t=>(Jp 1∘Jx∘Jx∘Jx∘JA #[vB 0,vB 0,vI 0,vI 0,vN]) λw3 p=>(JV aL aT (h1:=by exact sQ _ _ _)) λU=>(Jp 2∘Jj∘JQ) λa Z e=>?_
  refine wp_seq ?_
  refine Ni (i:=5) ?_
  refine Jb Z e ((Jp 1∘d9 aL O0∘Jp 1∘fu #[vB b.kind,vB b.cpu,vI b.lost,vI b.next,abh f b.evs g,vI m]∘Jp 1∘Jq) λa Z e=>?_)
  refine wG Z (i:=5) (vs:=[.agg #[vB b.kind,vB b.cpu,vI b.lost,vI b.next,abh f b.evs g,vI m],vI y]) rfl rfl rfl rfl rfl rfl de (hy d F _ _ f g b m y S J I o t (aam (es:=[.blk p (b.cells f g) 85,.blk n #[abh X d k] 30]) (e.pt (fs':=(abk f b.evs g gZ 73 11:: .blk p (b.cells f g) 85:: .blk n #[abh X d k] 30::F)) 3 [1,0,2]))) qlr ?_
  clear Z e;rintro v u a ⟨z,e,(⟨K,C,L⟩|⟨K,C,M⟩)⟩ Z<;>injection C with C<;>subst C
  ·
   replace e:Mem W u (.blk p (b.cells f g) 85:: .blk n #[abh X d k] 30::z):=aai (es:=[.blk p (b.cells f g) 85,.blk n #[abh X d k] 30]) e
   have x:=J;rw [K] at x;obtain ⟨V,N,_⟩:=Kt x;have O:abl (d.drop m)<abl d:=by rw [abN];omega
   refine Jb Z e ((Jp 4∘Jo (.bool false) (by rw [K];simp)∘Jp 1∘aG∘Jq∘JF∘aD∘JR∘Jc O1∘Jp 1∘Jy (v:= .slice (if k=m then X else X.map (·.add (m*1))) (abl d-m) (k-m)) (h:=by exact aaf aV (j:=m) rfl rfl rfl om)∘Jo (.slice (if k=m then X else X.map (·.add (m*1))) (abl (d.drop m)) (k-m)) (by rw [abN])∘JW fU aT) λY=>(ow∘Jq) λa Z e=>?_)
   exact ⟨_,O,(d.drop m),if k=m then X else X.map (·.add (m*1)),k-m,z,L,aa1 T N r,by rw [abN];omega,wH o m,by omega,s.drop m,rfl,Z.sub kr,e.pt 2 [1]⟩
  ·
   replace e:Mem W u (.blk p (b.cells f g) 85:: .blk n #[abh X d k] 30::z):=aai (es:=[.blk p (b.cells f g) 85,.blk n #[abh X d k] 30]) e
   refine Jb Z e ((Jp 5∘aG∘Jq∘JT∘JZ) λa Z e=>?_)
   exact Ey rfl Z (⟨_,rfl,z,aap [.blk p (b.cells f g) 85,.blk n #[abh X d k] 30] e,.inr M⟩)
 have P:d=[]:=adx.1 om
 refine (JF∘JX) ?_
 subst P
 intro a Z e
 exact gM rfl Z (⟨_,rfl,F,aap [.blk n #[.slice X (abl ([]:List Nat)) k] 30] e,.inl S⟩)
def q0h (A:Option Addr) (n c:Nat) (w:World):
    Calls abm 132 #[.slice A n c] w λr a=>∃g,r= .returned (.func (.func 178) #[] #[vP g 0])∧Mem w a [.blk g #[.slice A n c] 30]:=by
 refine (dV Tryz.func132 4) ?_
 exact (JP∘AP) λe b=>(Jp 1∘Jr∘Jy (h:=by exact Yl.makeFunc (fst:=[]) (caps:=[vP b 0]) rfl rfl rfl)∘Jp 1∘aK∘Jj∘JZ∘aZ) λd=>by exact ⟨_,rfl,d⟩
def dM (bs:List Bk):List Nat:=bs.flatMap Bk.out
def fF:List Bk→Nat
 |[]=>0
 |b::t=>if b.err=0 then fF t else b.err
def zb (bs:List Bk):List Nat×Nat:=if fF bs≠0 then ([],fF bs) else if 524288<abl (dM bs) then ([],3) else (dM bs,0)
def qyf (h:fF bs≠0):zb bs=([],fF bs):=by unfold zb;rw [if_pos h]
def qtb (h:fF bs=0) (h2:524288<abl (dM bs)):zb bs=([],3):=by unfold zb;rw [if_neg om,if_pos h2]
theorem WE (h:fF bs=0) (h2:¬524288<abl (dM bs)):zb bs=(dM bs,0):=by unfold zb;rw [if_neg om,if_neg h2]
theorem KA (bs:List Bk):(zb bs).1.length≤524288:=by grind [zb]
def WG {q:List Hb} (h:k<abl q):fF ((q.drop k).map acZ)=if (q.getD k Hb.zero).b.err=0 then fF ((q.drop (k+1)).map acZ) else (q.getD k Hb.zero).b.err:=by
 rw [qlq Hb.zero h,acS,fF]
theorem WH {q:List Hb} (h:k<abl q):dM ((q.take (k+1)).map acZ)=dM ((q.take k).map acZ)++(q.getD k Hb.zero).b.out:=by grind [Hb.zero,dM,xH]
theorem q8r (bs:List Bk):abl (dM bs)≤4096*abl bs:=by induction bs<;>grind [NT,dM]
def q2t {q:List Hb} (k:Nat):abl (dM ((q.take k).map acZ))≤4096*abl q:=by grind [q8r]
def zek (h:∀b∈bs,b.Ok):∀x∈dM bs,x<256:=by
 intro x a
 unfold dM at a
 obtain ⟨b,c,a⟩:=acE.1 a
 exact zh6 (h b c) x a
def q2u (h:∀b∈bs,b.Ok):∀x∈(zb bs).1,x<256:=by
 unfold zb
 split
 ·intro x a;cases a
 ·split
  ·intro x a;cases a
  ·exact zek h
def kg (next:Int):Bk:=⟨2,0,0,next,[]⟩
def zel {next:Int} (h:aR next):(kg next).Ok:=⟨by show 2<256;decide,by show 0<256;decide,by show aR 0;unfold aR;decide,h,by intro e a;cases a⟩
def readAll (l:List Nat):List Bk×Nat:=if (Bc l).2.2≠0 then ([],(Bc l).2.2) else ((Bc l).1,0)
theorem WI (h:524288<abl l):readAll l=([],3):=by unfold readAll Bc;rw [if_pos h];rfl
theorem WJ (h:¬524288<abl l) (a:(qw (abl l) l).2.2=e) (b:e≠0):readAll l=([],e):=by unfold readAll Bc;rw [if_neg h,if_pos om,a]
theorem WK (h:¬524288<abl l) (a:(qw (abl l) l).2.2=0):readAll l=((qw (abl l) l).1,0):=by unfold readAll Bc;rw [if_neg h,if_neg om]
section
variable {W w:World} {fs:List Fact} {t bt:TypeId}
def ET {w w':World} {p:List Nat×Nat} {n:Int} (hb:Below w.heap.size w w') (a:p=([],er)) (b:n=er):ze w p.2 p.1 (.returned (.tuple #[vN,vI n])) w':=by
 subst a;subst b
 exact ⟨⟨none,0,rfl,acK _ _ _ _,abq _⟩,hb⟩
def WL {p:List Bk×Nat} {n:Int} (h:Mem W w fs) (a:p=([],er)) (b:n=er):AZ t bt W p.2 p.1 (.returned (.tuple #[vN,vI n])) w:=by
 subst a;exact q8l h b
end
section
variable {W w w':World} {fs gs:List Fact} {f g1 g2:Fact}
end
def Bd (W:World) (a:TypeId) (g:Nat) (lim:Int) (out:List Nat) (fs:List Fact) (v:Value) (r:Ending) (w':World):Prop:=
 r= .returned v∧∃A c,abl out≤c∧Mem W w' (.blk g #[vI lim,.slice A (abl out) c] a:: .row (.slice A (abl out) c) (abl out) (out.map B8) 5 1::fs)
theorem Bd.as {e:TypeId} {lim:Int} {out:List Nat} {v:Value} (h:Bd W e g lim out fs v r w') (h1:out=l) (h2:v=z):Bd W e g lim l fs z r w':=by subst h1;subst h2;exact h
section
variable {W w w':World} {fs gs:List Fact} {f1 f2:Fact}
end
def WM:∀{bs:List Bk},(∀b∈bs,b.err=0)→fF bs=0:=by intro x;induction x<;>grind [fF]
theorem qyg (h:∀b∈bs,b.err=0) (a:abl (dM bs)≤524288):zb bs=(dM bs,0):=WE (WM h) om
section
variable {W w:World} {a b c:List Fact} {t:TypeId} {q:List Hb}
end
instance WO:DecidableEq It:=λ⟨a,b⟩ ⟨c,d⟩=>decidable_of_iff (a=c∧b=d) (by rw [It.mk.injEq])
structure fA where
 x:Sb
 A:Option Addr
 c:Nat
def fA.zero:fA:=⟨⟨false,0,0,⟨0,0⟩,[]⟩,none,0⟩
def xI (h:fA):List Value:=(h.x.cells h.A h.c).toList
theorem WV (h:fA):abl (xI h)=6:=rfl
structure oO (W:World) (h:fA):Prop where
 ok:h.x.Ok
 hc:abl h.x.l≤h.c
 hm:abl h.x.l≤9223372036854775807
 rd:Rd W W.heap.size 11 h.A (abl h.x.l) (h.x.l.flatMap qW)
def zic:EI abm 102 113 (.agg (fA.zero.x.cells none 0)) 6 48:=⟨by kernel_rfl,by kernel_rfl,rfl,by omega⟩
def qJ (l:List fA):List Bk:=l.map λh=>h.x.made
def qyh {l:List fA} (h:k<abl l):qJ (l.take (k+1))=qJ (l.take k)++[(l.getD k fA.zero).x.made]:=by
 unfold qJ
 rw [xH fA.zero h,abV]
 rfl
def WW {l:List fA} (h:∀x∈l,oO W x):∀b∈qJ l,b.Ok∧b.err=0:=λb a=>by
 unfold qJ at a
 obtain ⟨x,c,rfl⟩:=ab6.1 a
 have:=WT (h x c).ok
 exact ⟨this.1,this.2.1⟩
def q2w {l:List fA} (h:∀x∈l,oO W x):∀b∈qJ l,abl b.evs≤1000000:=λb a=>by
 unfold qJ at a
 obtain ⟨x,c,rfl⟩:=ab6.1 a
 have:=(WT (h x c).ok).2.2
 omega
theorem WX (l:List fA):abl (qJ l)=abl l:=by unfold qJ;rw [abu]
theorem zC {q:List Hb} (a:q.map acZ=bs) {p:Bk→Prop} (h:∀b∈bs,p b):∀x∈q,p x.b:=λx c=>h x.b (by rw [←a];exact ac1 c)
section
open Go.ChangeShapes Go.WideShapes Go.ChangeAt
section
variable {H:Type} {enc:TypeId×Value→H} {W:World} {b0:Nat} {v:Value} {d:DataW H} {p:List MemPlace}
def q8t:Tryz.prog.underlying 4=some .bool:=by kernel_rfl
theorem qyi:Tryz.prog.cellsOf 4=1:=by kernel_rfl
def EW:fieldAt abm 113 0 0 4=true:=by kernel_rfl
def EX:fieldAt abm 113 1 1 5=true:=by kernel_rfl
def EY:fieldAt abm 113 2 2 61=true:=by kernel_rfl
def EZ:fieldAt abm 113 3 3 110=true:=by kernel_rfl
def E5:fieldAt abm 113 4 5 111=true:=by kernel_rfl
theorem WY:Tryz.prog.cellsOf 113=6:=by kernel_rfl
def zem:Tryz.prog.underlying 102=some (.slice 113):=by kernel_rfl
set_option maxRecDepth 100000 in
theorem q8u {y:DataW H×List MemPlace} (f:DataW.trod enc Tryz.prog W 0 (λ_=>true) true m 113 B=some y):∃x:fA,xI x=B∧oO W x:=by
 obtain ⟨g,_,L,j⟩:=qx EW f
 obtain ⟨_,_,M,k⟩:=qx EX f
 obtain ⟨_,_,N,n⟩:=qx EY f
 obtain ⟨_,_,O,o⟩:=qx EZ f
 obtain ⟨_,_,P,q⟩:=qx E5 f
 rw [WY] at g
 obtain ⟨e,h,_⟩:=DataW.trod_bool q8t j
 obtain ⟨cpu,e1,_,r⟩:=DataW.trod_int Ec k
 obtain ⟨i,e2,u⟩:=WB n
 obtain ⟨_,h0⟩:=MR q06 o
 obtain ⟨s,a,ws⟩:=h0 0 .i64 rfl
 obtain ⟨t,b,w⟩:=h0 1 .i64 rfl
 obtain ⟨A,c,l,e4,z,C,D,E⟩:=q8q q
 rw [qyi] at h
 rw [q7l] at e1
 rw [WA] at e2
 rw [q2r] at e4
 have F:=zx h
 have G:=zx e1
 have I:=zx e2.symm
 have J:=zx e4
 rw [qxs,List.getElem?_take,List.getElem?_drop] at a b
 simp only [Nat.reduceLT,if_true] at a b
 have K:=iL r
 refine ⟨⟨⟨e,cpu.toNat,i,⟨s,t⟩,l⟩,A,c⟩,?_,⟨⟨by show cpu.toNat<256;omega,u,⟨MN ws,MN w⟩,D⟩,z,by unfold maxLen at C;show l.length≤_;omega,E⟩⟩
 refine ((zej g F G I a b J).trans ?_).symm
 show _=[Value.bool e,.int .u8 ((cpu.toNat:Nat):Int),.int .u32 (i:Int),.int .i64 s,.int .i64 t,.slice A l.length c]
 rw [Int.toNat_of_nonneg K.1]
 rfl
end
end
structure Pr where
 nx:Nat
 cp:Nat
 cr:Nat
 gp:Nat
 gs:List Nat
 cl:List Nat
 cu:List Nat
 tk:Nat
 ts:List Nat
 sp:List Nat
 e1:Nat
 e2:Nat
 e3:Nat
 e4:Nat
 e5:Nat
 e6:Nat
 e7:Nat
section
variable {α:Type} {b:List Nat} {a x n u:Nat} {xs:List Nat}
def nG (b:List Nat) (a:Nat) (k:Nat→Nat→Except Nat α):Except Nat α:=if (aB (b.drop a)).2.2≠0 then .error 344 else k (aB (b.drop a)).1 (a+(aB (b.drop a)).2.1)
def lT (b:List Nat) (n a:Nat) (k:List Nat→Nat→Except Nat α):Except Nat α:=if (bD n (b.drop a)).2.2≠0 then .error 344 else k (bD n (b.drop a)).1 (a+(bD n (b.drop a)).2.1)
def cnt1 (b:List Nat) (a c hi:Nat) (k:Nat→Nat→Except Nat α):Except Nat α:=nG b a λx e=>if x<c∨hi<x then .error 345 else k x e
theorem QV {k:Nat→Nat→Except Nat α} (h:aB (b.drop a)=(x,n,0)):nG b a k=k x (a+n):=by unfold nG;rw [h];rfl
theorem LA {k:Nat→Nat→Except Nat α} (h:(aB (b.drop a)).2.2≠0):nG b a k= .error 344:=if_pos h
theorem zf5 {k:List Nat→Nat→Except Nat α} (h:bD n (b.drop a)=(xs,u,0)):lT b n a k=k xs (a+u):=by unfold lT;rw [h];rfl
theorem DC {k:List Nat→Nat→Except Nat α} (h:(bD n (b.drop a)).2.2≠0):lT b n a k= .error 344:=if_pos h
theorem zf6 {k:Nat→Nat→Except Nat α} (h:aB (b.drop a)=(x,n,0)) (h2:¬(x<c∨hi<x)):cnt1 b a c hi k=k x (a+n):=by unfold cnt1;rw [QV h,if_neg h2]
def zaj {k:Nat→Nat→Except Nat α} (h:aB (b.drop a)=(x,n,0)) (h2:x<c∨hi<x):cnt1 b a c hi k= .error 345:=by unfold cnt1;rw [QV h,if_pos h2]
theorem qos {k:Nat→Nat→Except Nat α} (h:(aB (b.drop a)).2.2≠0):cnt1 b a c hi k= .error 344:=LA h
def zak (b:List Nat) (a:Nat):(aB (b.drop a)).2.2≠0∨∃x n,aB (b.drop a)=(x,n,0):=by grind
def zal (b:List Nat) (k a:Nat):(bD k (b.drop a)).2.2≠0∨∃xs u,bD k (b.drop a)=(xs,u,0):=by grind
def ZL (c:a≤abl b) (h:aB (b.drop a)=(x,n,0)):0<n∧a+n≤abl b:=by grind [yO,TU]
def zam (c:a≤abl b) (h:bD n (b.drop a)=(xs,u,0)):abl xs=n∧n≤u∧a+u≤abl b:=by
 have h1:=zai _ _ _ _ h
 rw [abN] at h1
 omega
def q5g (h:aB l=(x,n,er)) (h2:(er:Int)≠0):(aB l).2.2≠0:=by rw [h];show er≠0;omega
def q5h (c:∀z∈b,z<256) (h:aB (b.drop a)=(x,n,0)):x<18446744073709551616:=by grind [Jm]
end
def bF (b:List Nat) (p x e:Nat):Prop:=aB (b.drop p)=(x,e-p,0)∧p≤e
def kJ (b:List Nat) (n p:Nat) (xs:List Nat) (e:Nat):Prop:=bD n (b.drop p)=(xs,e-p,0)∧p≤e
section
variable {α:Type} {b:List Nat} {p x e n:Nat} {xs:List Nat}
theorem bF.eq (h:bF b p x e):p+(e-p)=e:=by have:=h.2;omega
theorem kJ.eq (h:kJ b n p xs e):p+(e-p)=e:=by have:=h.2;omega
theorem bF.of (h:aB (b.drop p)=(x,m,0)):bF b p x (p+m):=⟨by rw [h,acH],by omega⟩
theorem kJ.of (h:bD n (b.drop p)=(xs,m,0)):kJ b n p xs (p+m):=⟨by rw [h,acH],by omega⟩
theorem DF (b:List Nat) (p:Nat):(aB (b.drop p)).2.2≠0∨∃x e,bF b p x e:=by
 rcases zak b p with h|⟨x,n,h⟩
 ·exact .inl h
 ·exact .inr ⟨x,_,.of h⟩
def DI (b:List Nat) (n p:Nat):(bD n (b.drop p)).2.2≠0∨∃xs e,kJ b n p xs e:=by
 rcases zal b n p with h|⟨xs,u,h⟩
 ·exact .inl h
 ·exact .inr ⟨xs,_,.of h⟩
theorem bF.go1 {k:Nat→Nat→Except Nat α} (h:bF b p x e):nG b p k=k x e:=by rw [QV h.1,h.eq]
theorem kJ.goK {k:List Nat→Nat→Except Nat α} (h:kJ b n p xs e):lT b n p k=k xs e:=by rw [zf5 h.1,h.eq]
theorem bF.goC {k:Nat→Nat→Except Nat α} (h:bF b p x e) (h2:¬(x<c∨hi<x)):cnt1 b p c hi k=k x e:=by rw [zf6 h.1 h2,h.eq]
theorem bF.bad {k:Nat→Nat→Except Nat α} (h:bF b p x e) (h2:x<c∨hi<x):cnt1 b p c hi k= .error 345:=zaj h.1 h2
def bF.in (h:bF b p x e) (c:p≤abl b):p<e∧e≤abl b:=by have:=ZL c h.1;have:=h.2;omega
def kJ.in (h:kJ b n p xs e) (c:p≤abl b):abl xs=n∧p+n≤e∧e≤abl b:=by have:=zam c h.1;have:=h.2;omega
theorem bF.lt (h:bF b p x e) (c:∀z∈b,z<256):x<18446744073709551616:=q5h c h.1
def bF.one {e2:Nat} (h:bF b p x e) (h2:bF b p c e2):c=x∧e2=e:=by
 have h3:=h.1.symm.trans h2.1
 injection h3 with h3 h4
 injection h4 with h4
 have:=h.2
 have:=h2.2
 exact ⟨h3.symm,by omega⟩
def kJ.one {S:List Nat} {e2:Nat} (h:kJ b n p xs e) (h2:kJ b n p S e2):S=xs∧e2=e:=by
 have h3:=h.1.symm.trans h2.1
 injection h3 with h3 h4
 injection h4 with h4
 have:=h.2
 have:=h2.2
 exact ⟨h3.symm,by omega⟩
theorem kJ.nil (b:List Nat) (p:Nat):kJ b 0 p [] p:=⟨by rw [adK];rfl,abq _⟩
theorem kJ.snoc {y:Nat} (h:kJ b n p xs e) (h2:bF b e y f):kJ b (n+1) p (xs++[y]) f:=by
 have h3:=h.2
 have h4:=h2.2
 have:=ZC n _ xs (e-p) y (f-e) h.1 (by rw [acV,h.eq];exact h2.1)
 exact ⟨by rw [this];congr 2;omega,by omega⟩
theorem kJ.stuck (h:kJ b n p xs e) (c:n<m) (h2:(aB (b.drop e)).2.2≠0):(bD m (b.drop p)).2.2≠0:=by
 have:=quc n (m- (n+1)) _ xs (e-p) h.1 (by rw [acV,h.eq];exact h2)
 grind
end
def pq (h:abl q≤p) (h2:p<e):abl (q++[x])≤e:=by rw [abn];show abl q+1≤e;omega
def pE (h:abl q≤p) (h2:abl xs=n) (h3:p+n≤e):abl (q++xs)≤e:=by rw [abn];omega
def LB (b:List Nat) (p c hi:Nat):(aB (b.drop p)).2.2≠0∨(∃x e,bF b p x e∧(x<c∨hi<x))∨∃x e,bF b p x e∧¬(x<c∨hi<x):=by grind [DF]
def ZM (h:m*n≤9223372036854775807):abQ .i64 (Go.IntKind.i64.wrap ((m:Int)*(n:Int)))= .int .i64 ((m*n:Nat):Int):=by
 rw [←Int.natCast_mul]
 exact q7 rfl h
def kR (l:List jl):Nat:=(l.getD (abl l-1) jl.zero).to
theorem zan {l:List jl} (h:abl l=0):kR l=0:=by rw [adx] at h;subst h;rfl
def vk (b:List Nat) (nx:Nat) (e1:Nat) (cp:Nat) (c:Nat) (cr:Nat) (d:Nat) (gp:Nat) (e2:Nat) (gs:List Nat) (e3:Nat) (cl:List Nat) (e4:Nat) (cu:List Nat) (e5:Nat) (tk:Nat) (f:Nat) (ts:List Nat) (e6:Nat) (sp:List Nat) (e7:Nat):Except Nat Pr:=if e7≠abl b then .error 346 else .ok ⟨nx,cp,cr,gp,gs,cl,cu,tk,ts,sp,e1,e2,e3,e4,e5,e6,e7⟩
def QW (b:List Nat) (nx:Nat) (e1:Nat) (cp:Nat) (c:Nat) (cr:Nat) (d:Nat) (gp:Nat) (e2:Nat) (gs:List Nat) (e3:Nat) (cl:List Nat) (e4:Nat) (cu:List Nat) (e5:Nat) (tk:Nat) (f:Nat) (ts:List Nat) (e6:Nat):Except Nat Pr:=lT b (cp+3*cp*(gp-1)) e6 (vk b nx e1 cp c cr d gp e2 gs e3 cl e4 cu e5 tk f ts e6)
def QX (b:List Nat) (nx:Nat) (e1:Nat) (cp:Nat) (d:Nat) (cr:Nat) (f:Nat) (gp:Nat) (e2:Nat) (gs:List Nat) (e3:Nat) (cl:List Nat) (e4:Nat) (cu:List Nat) (e5:Nat) (tk:Nat) (c:Nat):Except Nat Pr:=lT b (8*tk) c (QW b nx e1 cp d cr f gp e2 gs e3 cl e4 cu e5 tk c)
def QY (b:List Nat) (nx:Nat) (e1:Nat) (cp:Nat) (c:Nat) (cr:Nat) (d:Nat) (gp:Nat) (e2:Nat) (gs:List Nat) (e3:Nat) (cl:List Nat) (e4:Nat) (cu:List Nat) (e5:Nat):Except Nat Pr:=cnt1 b e5 0 65535 (QX b nx e1 cp c cr d gp e2 gs e3 cl e4 cu e5)
def QZ (b:List Nat) (nx:Nat) (e1:Nat) (cp:Nat) (c:Nat) (cr:Nat) (d:Nat) (gp:Nat) (e2:Nat) (gs:List Nat) (e3:Nat) (cl:List Nat) (e4:Nat):Except Nat Pr:=lT b cp e4 (QY b nx e1 cp c cr d gp e2 gs e3 cl e4)
def Q0 (b:List Nat) (nx:Nat) (e1:Nat) (cp:Nat) (c:Nat) (cr:Nat) (d:Nat) (gp:Nat) (e2:Nat) (gs:List Nat) (e3:Nat):Except Nat Pr:=lT b cp e3 (QZ b nx e1 cp c cr d gp e2 gs e3)
def Q5 (b:List Nat) (nx:Nat) (e1:Nat) (cp:Nat) (c:Nat) (cr:Nat) (d:Nat) (gp:Nat) (e2:Nat):Except Nat Pr:=lT b (2*(gp-1)) e2 (Q0 b nx e1 cp c cr d gp e2)
def Q6 (b:List Nat) (nx:Nat) (e1:Nat) (cp:Nat) (d:Nat) (cr:Nat) (c:Nat):Except Nat Pr:=cnt1 b c 1 256 (Q5 b nx e1 cp d cr c)
def Q7 (b:List Nat) (nx:Nat) (e1:Nat) (cp:Nat) (c:Nat):Except Nat Pr:=nG b c (Q6 b nx e1 cp c)
def Q8 (b:List Nat) (nx:Nat) (e1:Nat):Except Nat Pr:=cnt1 b e1 1 64 (Q7 b nx e1)
def sW (b:List Nat):Except Nat Pr:=nG b 3 (Q8 b)
def Pr.nums (p:Pr):List Nat:=[p.nx,p.cp,p.cr,p.gp]++p.gs++p.cl++p.cu++[p.tk]++p.ts++p.sp
def Pr.secs (p:Pr):List jl:=[qf,⟨qb 0,3,p.e1⟩,⟨qb 1,p.e1,p.e2⟩,⟨qb 2,p.e2,p.e3⟩,⟨qb 3,p.e3,p.e4⟩,⟨qb 4,p.e4,p.e5⟩,⟨qb 5,p.e5,p.e6⟩,⟨qb 6,p.e6,p.e7⟩,⟨⟨#[115,117,109]⟩,p.e7,p.e7+4⟩]
section
variable {α:Type} {b:List Nat} {a n:Nat} {er:Nat}
theorem Q9 {k:Nat→Nat→Except Nat α} (h:nG b a k= .error er):er=344∨∃x e,k x e= .error er:=by grind [nG]
def GI {k:List Nat→Nat→Except Nat α} (h:lT b n a k= .error er):er=344∨∃x e,k x e= .error er:=by grind [lT]
def Ra {k:Nat→Nat→Except Nat α} (h:cnt1 b a c hi k= .error er):(er=344∨er=345)∨∃x e,k x e= .error er:=by grind [cnt1,Q9]
end
def ZN (h:sW b= .error er):344≤er∧er≤346:=by
 rcases Q9 h with h|⟨_,_,h⟩; · omega
 rcases Ra h with h|⟨_,_,h⟩; · omega
 rcases Q9 h with h|⟨_,_,h⟩; · omega
 rcases Ra h with h|⟨_,_,h⟩; · omega
 rcases GI h with h|⟨_,_,h⟩; · omega
 rcases GI h with h|⟨_,_,h⟩; · omega
 rcases GI h with h|⟨_,_,h⟩; · omega
 rcases Ra h with h|⟨_,_,h⟩; · omega
 rcases GI h with h|⟨_,_,h⟩; · omega
 rcases GI h with h|⟨_,_,h⟩; · omega
 grind [vk]
def fq (l:List Nat):Except Nat Pr:=
 if abl l<15 then .error 340 else if 16777216<abl l then .error 3 else if zl l=false then .error 341 else
 if ¬(l.getD 0 0=113∧l.getD 1 0=115) then .error 342 else if l.getD 2 0≠1 then .error 343 else sW (l.take (abl l-4))
section
variable {l:List Nat}
def q5j (h:abl l<15):fq l= .error 340:=if_pos h
def zao (h:¬abl l<15) (h2:16777216<abl l):fq l= .error 3:=by unfold fq;rw [if_neg h,if_pos h2]
def zf7 (h:¬abl l<15) (h2:¬16777216<abl l) (h3:zl l=false):fq l= .error 341:=by unfold fq;rw [if_neg h,if_neg h2,if_pos h3]
def ZO (h:¬abl l<15) (h2:¬16777216<abl l) (h3:zl l=true) (h4:¬(l.getD 0 0=113∧l.getD 1 0=115)):fq l= .error 342:=by grind [fq]
def quf (h:¬abl l<15) (h2:¬16777216<abl l) (h3:zl l=true) (h4:l.getD 0 0=113∧l.getD 1 0=115) (h5:l.getD 2 0≠1):fq l= .error 343:=by grind [fq]
def zf8 (h:¬abl l<15) (h2:¬16777216<abl l) (h3:zl l=true) (h4:l.getD 0 0=113∧l.getD 1 0=115) (h5:l.getD 2 0=1):fq l=sW (l.take (abl l-4)):=by grind [fq]
def Rb (h:fq l= .error er):1≤er∧er≤346:=by
 unfold fq at h
 split at h
 ·injection h with h;omega
 ·split at h
  ·injection h with h;omega
  ·split at h
   ·injection h with h;omega
   ·split at h
    ·injection h with h;omega
    ·split at h
     ·injection h with h;omega
     ·have:=ZN h;omega
end
section
variable {l:List Nat} {p:Pr} {k:Nat}
end
theorem GJ {B a:Nat} (h:Rd w B 1 A (abl b) (b.map B8)) (d:a≤abl b) (hc:abl b≤c):Rd w B 1 (if c=a then A else A.map (·.add (a*1))) (abl (b.drop a)) ((b.drop a).map B8):=by
 have h1:=h.wF (i:=a) (j:=abl b) d (abq _) hc
 grind
theorem zap (h:aB l=(x,n,er)) (hr:Rd w w.heap.size 1 A (abl l) (l.map B8)) (d:∀b∈l,b<256) (f:abl l≤200000000000000):
  Calls abm 52 #[.slice A (abl l) c] w (Is w (.tuple #[.int .u64 (x:Int),.int .i64 (n:Int),.int .i64 (er:Int)])):=by
 have:=ML A (abl l) c l w hr d f
 rw [h] at this
 exact this
def fP:TypeId:=27
def LC (k:Int) (w:World) (c:Mem W w fs):Calls abm 283 #[.int .i64 k] w (kD W fs (pX fP k)):=by
 refine wZ (vs:=[.int .i64 k]) Tryz.func283 rfl rfl kr (σ0:=[(0,.int .i64 k)]) rfl ?_
 intro a Z
 refine zt ?_
 refine fp Z 1 0 [(2,.int .i64 k)] λa Z=>fy Z c 1 rfl rfl rfl (Yl.makeInterface rfl rfl) λa Z=>?_
 refine fo Z 2 rfl rfl ?_
 refine zf2 Z rfl rfl ?_
 exact Dz Z ⟨rfl,c⟩
def q5k {gs:List Fact} {i g:Nat} (k x:Int) (w:World) (c:Mem W w fs) (hi:fs[i]?=some (.blk g #[.int .i64 x] fP)) (f:fs.set i (.blk g #[.int .i64 k] fP)=gs):CallsD abm 278 [agA (some ⟨g,0,none⟩)].toArray (.panicking (pX fP k)) w (og W gs):=by
 subst f
 refine ZJ agK rfl rfl kr (σ0:=[(0,.pointer (some ⟨g,0,none⟩))]) rfl λc₀ h a d Z=>?_
 refine wpS_seq (wpS_region ?_)
 refine ZH (i:=0) (v:= .iface fP (.int .i64 k)) (cs':={c₀ with mode:= .panicking [{v:= .iface fP (.int .i64 k),recovered:=true}]}::h) Z rfl rfl rfl rfl de (.inl (by unfold pX at d;simp [recoverD,d])) λa Z=>?_
 refine ZI (i:=1) Z rfl rfl rfl rfl de λa Z=>?_
 refine wpS_of_wp (wp_seq ?_)
 refine zt ?_
 refine fp Z 1 0 [(6,.iface fP (.int .i64 k))] λa Z=>fy Z c 1 rfl rfl rfl (aaZ rfl rfl) λa Z=>?_
 refine fp Z 5 2 [(2,.int .i64 k),(3,.bool true)] λa Z=>wX rfl ?_
 refine wp_seq (wp_seq ?_)
 refine zt ?_
 refine fp Z 1 0 [(10,.iface fP (.int .i64 k))] λa Z=>fy Z c 1 rfl rfl rfl (aa7 rfl rfl rfl) λa Z=>?_
 refine fp Z 4 2 [(15,.bool false)] λa Z=>wX rfl ?_
 refine M4 Z rfl (wp_skip ?_)
 refine zt ?_
 refine fp Z 1 0 [(17,.int .i64 k)] λa Z=>fo Z 1 rfl rfl ?_
 refine pQ Z c (i:=i) rfl rfl rfl rfl kr rfl hi (by simp) λj c=>?_
 refine wX rfl ?_
 exact ZK rfl Z ⟨rfl,rfl,c⟩
def qz2 {gs:List Fact} {i g:Nat} (x:Int) (w:World) (c:Mem W w fs) (hi:fs[i]?=some (.blk g #[.int .i64 x] fP)) (f:fs.set i (.blk g #[.int .i64 0] fP)=gs):CallsD abm 278 [agA (some ⟨g,0,none⟩)].toArray .returning w (og W gs):=by
 subst f
 refine ZJ agK rfl rfl kr (σ0:=[(0,.pointer (some ⟨g,0,none⟩))]) rfl λc₀ h a d Z=>?_
 refine wpS_seq (wpS_region ?_)
 refine ZH (i:=0) (v:= .nilIface) (cs':=c₀::h) Z rfl rfl rfl rfl de (.inr ⟨by simp [recoverD,d],rfl,rfl⟩) λa Z=>?_
 refine ZI (i:=1) Z rfl rfl rfl rfl de λa Z=>?_
 refine wpS_of_wp (wp_seq ?_)
 refine zt ?_
 refine fp Z 1 0 [(6,.nilIface)] λa Z=>fy Z c 1 rfl rfl rfl (aa8 (z:= .int .i64 0) rfl rfl kr) λa Z=>?_
 refine fp Z 5 2 [(2,.int .i64 0),(3,.bool false)] λa Z=>wX rfl ?_
 refine wp_seq (wp_seq ?_)
 refine zt ?_
 refine fp Z 1 0 [(10,.nilIface)] λa Z=>fy Z c 1 rfl rfl rfl (aaX rfl rfl) λa Z=>?_
 refine fp Z 4 2 [(15,.bool false)] λa Z=>wX rfl ?_
 refine M4 Z rfl (wp_skip ?_)
 refine zt ?_
 refine fp Z 1 0 [(17,.int .i64 0)] λa Z=>fo Z 1 rfl rfl ?_
 refine pQ Z c (i:=i) rfl rfl rfl rfl kr rfl hi (by simp) λj c=>?_
 refine wX rfl ?_
 have hc:c₀={c₀ with mode:=FrameMode.returning}:=by cases c₀;simp at d;rw [d]
 rw [hc]
 exact ZK rfl Z ⟨rfl,rfl,c⟩
section
variable {α:Type} {b:List Nat} {a n:Nat} {p:α}
def ZP {k:Nat→Nat→Except Nat α} (h:nG b a k= .ok p):∃x e,bF b a x e∧k x e= .ok p:=by
 rcases DF b a with h2|⟨x,e,h2⟩
 ·rw [LA h2] at h;cases h
 ·rw [h2.go1] at h;exact ⟨x,e,h2,h⟩
def GK {k:List Nat→Nat→Except Nat α} (h:lT b n a k= .ok p):∃xs e,kJ b n a xs e∧k xs e= .ok p:=by
 rcases DI b n a with h2|⟨x,e,h2⟩
 ·rw [DC h2] at h;cases h
 ·rw [h2.goK] at h;exact ⟨x,e,h2,h⟩
def Rf {k:Nat→Nat→Except Nat α} (h:cnt1 b a c hi k= .ok p):∃x e,bF b a x e∧(c≤x∧x≤hi)∧k x e= .ok p:=by
 rcases LB b a c hi with h2|⟨x,e,h2,h3⟩|⟨x,e,h2,h3⟩
 ·rw [qos h2] at h;cases h
 ·rw [h2.bad h3] at h;cases h
 ·rw [h2.goC h3] at h;exact ⟨x,e,h2,by omega,h⟩
end
section
variable {b:List Nat} {p x e n:Nat} {xs:List Nat}
theorem bF.bytes (h:bF b p x e) (c:∀z∈b,z<256):b.drop p=au x++b.drop e:=by
 rw [NH (λz hz=>c z (abZ hz)) h.1]
 have:=ab9 (e-p) (b.drop p)
 rw [acV,h.eq] at this
 exact this.symm
theorem kJ.bytes (h:kJ b n p xs e) (c:∀z∈b,z<256):b.drop p=xs.flatMap au++b.drop e∧∀x∈xs,x<18446744073709551616:=by
 obtain ⟨h1,_,h3,_⟩:=qx2 n _ xs _ (λz hz=>c z (abZ hz)) h.1
 refine ⟨?_,h3⟩
 rw [h1]
 have:=ab9 (e-p) (b.drop p)
 rw [acV,h.eq] at this
 exact this.symm
end
structure Pr.Fit (p:Pr):Prop where
 cp1:1≤p.cp
 cp2:p.cp≤64
 ZQ:1≤p.gp
 GL:p.gp≤256
 tk:p.tk≤65535
 gs:abl p.gs=2*(p.gp-1)
 cl:abl p.cl=p.cp
 cu:abl p.cu=p.cp
 ts:abl p.ts=8*p.tk
 sp:abl p.sp=p.cp+3*p.cp*(p.gp-1)
 lt:∀x∈p.nums,x<18446744073709551616
def zf9 {p:Pr} (hb:3≤abl b) (c:∀z∈b,z<256) (h:sW b= .ok p):p.Fit∧b.drop 3=p.nums.flatMap au:=by
 obtain ⟨nx,e1,h1,h⟩:=ZP h
 obtain ⟨cp,C,h2,j,h⟩:=Rf h
 obtain ⟨cr,D,h3,h⟩:=ZP h
 obtain ⟨gp,e2,h4,k,h⟩:=Rf h
 obtain ⟨gs,e3,h5,h⟩:=GK h
 obtain ⟨cl,e4,h6,h⟩:=GK h
 obtain ⟨cu,e5,h7,h⟩:=GK h
 obtain ⟨tk,E,h8,v,h⟩:=Rf h
 obtain ⟨ts,e6,h9,h⟩:=GK h
 obtain ⟨sp,e7,h10,h⟩:=GK h
 unfold vk at h
 split at h
 ·cases h
 rename_i F
 injection h with h
 subst h
 have w:=h1.in hb
 have y:=h2.in w.2
 have A:=h3.in y.2
 have B:=h4.in A.2
 have l:=h5.in B.2
 have m:=h6.in l.2.2
 have o:=h7.in m.2.2
 have i8:=h8.in o.2.2
 have q:=h9.in i8.2
 have i:=h10.in q.2.2
 have r:=h5.bytes c
 have s:=h6.bytes c
 have t:=h7.bytes c
 have u:=h9.bytes c
 have f:=h10.bytes c
 have g:b.drop e7=[]:=adf om
 refine ⟨⟨j.1,j.2,k.1,k.2,v.2,l.1,m.1,o.1,q.1,i.1,λx d=>?_⟩,?_⟩
 ·simp only [Pr.nums,ab5,ab0,acr,or_false] at d
  rcases d with (((((((rfl|rfl|rfl|rfl)|d)|d)|d)|rfl)|d)|d)
  ·exact h1.lt c
  ·exact h2.lt c
  ·exact h3.lt c
  ·exact h4.lt c
  ·exact r.2 x d
  ·exact s.2 x d
  ·exact t.2 x d
  ·exact h8.lt c
  ·exact u.2 x d
  ·exact f.2 x d
 ·rw [h1.bytes c,h2.bytes c,h3.bytes c,h4.bytes c,r.1,s.1,t.1,h8.bytes c,u.1,f.1,g]
  simp [Pr.nums]
def bE (x:Nat):Int:=Go.IntKind.i64.wrap (x:Int)
def aA:Nat:=4611686018427387904
def bO {α:Type} (n:Nat) (f:Nat→α):List α:=(acW n).map f
theorem qN (n:Nat) (f:Nat→α):abl (bO n f)=n:=by simp [bO]
theorem yt (n:Nat) (f:Nat→α):bO (n+1) f=bO n f++[f n]:=by unfold bO;rw [agp,abV];rfl
theorem Cc {f:Nat→α} {d:α} (h:i<n):(bO n f).getD i d=f i:=by grind [bO]
theorem zaq {β:Type} (n:Nat) (f:Nat→α) (g:α→β):(bO n f).map g=bO n λi=>g (f i):=by unfold bO;rw [aep];rfl
theorem ZR (h:abl l=n) (f:Nat→Int):(bO n λi=>f (l.getD i 0))=l.map f:=by
 subst h
 refine aen (by simp [bO]) λi h1 h2=>?_
 grind [bO]
def Pr.gX (p:Pr) (g:Nat):Gr:=if g=0 then ⟨0,1⟩ else ⟨bE (p.gs.getD (2*(g-1)) 0),bE (p.gs.getD (2*(g-1)+1) 0)⟩
def Pr.tn (p:Pr) (i j:Nat):Nat:=p.ts.getD (8*i+j) 0
def Pr.rC (p:Pr):Nat→Int
 |0=>0
 |i+1=>if 65535<Go.IntKind.i64.wrap (p.rC i+bE (p.tn i 0)) then 65535 else Go.IntKind.i64.wrap (p.rC i+bE (p.tn i 0))
def Pr.lF (p:Pr) (i:Nat):Int:=Go.IntKind.i64.wrap (p.rC i+bE (p.tn i 0))
def Pr.sG (p:Pr) (i:Nat):Tk:=⟨p.lF i,bE (p.tn i 1),bE (p.tn i 2),bE (p.tn i 3),p.tn i 4,decide (p.tn i 5=1),p.tn i 6,p.tn i 7%4294967296⟩
def Pr.so (p:Pr) (g c:Nat):Nat:=if g=0 then c else p.cp+3*p.cp*(g-1)+3*c
def Pr.sn (p:Pr) (g c j:Nat):Nat:=p.sp.getD (p.so g c+j) 0
def Pr.qO (p:Pr) (g c:Nat):Sp:=if g=0 then ⟨0,0,p.sn g c 0⟩ else ⟨p.sn g c 0,p.sn g c 1%4294967296,p.sn g c 2⟩
def Pr.row (p:Pr) (g:Nat):List Sp:=bO p.cp (p.qO g)
def Pr.pY (p:Pr):cO:=⟨bE p.nx,⟨(p.cp:Int),p.cr,none,0,bO p.gp p.gX,none,0,p.cl.map bE,none,0,p.cu.map bE,none,0,bO p.tk p.sG,none,0,bO p.gp λg=>⟨none,0,p.row g⟩⟩⟩
def dle (x m:Nat):Bool:=decide (x≤m)
def Pr.ok0 (p:Pr):Bool:=(((true&&dle p.nx aA)&&dle p.cp aA)&&dle p.cr 18446744073709551615)&&dle p.gp aA
def Pr.oF (p:Pr):Nat→Bool
 |0=>p.ok0
 |g+1=>if g=0 then p.ok0 else (p.oF g&&dle (p.gs.getD (2*(g-1)) 0) aA)&&dle (p.gs.getD (2*(g-1)+1) 0) aA
def Pr.yu (p:Pr):Nat→Bool
 |0=>p.oF p.gp
 |k+1=>p.yu k&&dle (p.cl.getD k 0) aA
def Pr.vo (p:Pr):Nat→Bool
 |0=>p.yu p.cp
 |k+1=>p.vo k&&dle (p.cu.getD k 0) aA
def Pr.jA (p:Pr):Nat→Bool
 |0=>p.vo p.cp&&dle p.tk aA
 |i+1=>((((((((p.jA i&&dle (p.tn i 0) aA)&&dle (p.tn i 1) aA)&&dle (p.tn i 2) aA)&&dle (p.tn i 3) aA)&&dle (p.tn i 4) 18446744073709551615)&&dle (p.tn i 5) 1)&&dle (p.tn i 6) 18446744073709551615)&&dle (p.tn i 7) 4294967295)&&decide (p.lF i≤65535)
def Pr.lG (p:Pr) (base:Bool) (g:Nat):Nat→Bool
 |0=>base
 |c+1=>if g=0 then p.lG base g c&&dle (p.sn g c 0) 18446744073709551615 else ((p.lG base g c&&dle (p.sn g c 0) 18446744073709551615)&&dle (p.sn g c 1) 4294967295)&&dle (p.sn g c 2) 18446744073709551615
def Pr.mD (p:Pr):Nat→Bool
 |0=>p.jA p.tk
 |g+1=>p.lG (p.mD g) g p.cp
def Pr.okB (p:Pr):Bool:=p.mD p.gp
section
variable {p:Pr} (h:p.Fit)
def Pr.oC (p:Pr):Nat:=4+2*(p.gp-1)
def Pr.oT (p:Pr):Nat:=p.oC+2*p.cp
def Pr.oS (p:Pr):Nat:=p.oT+1+8*p.tk
theorem LD {m:List Nat} (hk:k<abl l):(l++m).getD k 0=l.getD k 0:=by grind
theorem DJ {m:List Nat} {j:Nat} (hk:k=abl l+j):(l++m).getD k 0=m.getD j 0:=by grind
def zar (p:Pr):p.nums.getD 0 0=p.nx∧p.nums.getD 1 0=p.cp∧p.nums.getD 2 0=p.cr∧p.nums.getD 3 0=p.gp:=by
 unfold Pr.nums
 simp [aby]
include h in
theorem zas:p.nums.length=p.oS+p.sp.length∧p.sp.length=p.cp+3*p.cp*(p.gp-1):=by
 unfold Pr.nums Pr.oS Pr.oT Pr.oC
 simp only [List.length_append,List.length_cons,List.length_nil,h.gs,h.cl,h.cu,h.ts]
 exact ⟨by omega,h.sp⟩
include h in
theorem ZT {j:Nat} (a:j<2*(p.gp-1)):p.nums.getD (4+j) 0=p.gs.getD j 0:=by
 have:=h.gs
 unfold Pr.nums
 rw [List.append_assoc,List.append_assoc,List.append_assoc,List.append_assoc,List.append_assoc,DJ (l:=[p.nx,p.cp,p.cr,p.gp]) (k:=4+j) (j:=j) rfl,LD om]
include h in
theorem zga {j:Nat} (a:j<p.cp):p.nums.getD (p.oC+j) 0=p.cl.getD j 0:=by
 have:=h.gs
 have:=h.cl
 unfold Pr.nums Pr.oC
 rw [List.append_assoc,List.append_assoc,List.append_assoc,List.append_assoc,DJ (j:=j) (by simp only [List.length_append,List.length_cons,List.length_nil];omega),LD om]
include h in
theorem zgb {j:Nat} (a:j<p.cp):p.nums.getD (p.oC+p.cp+j) 0=p.cu.getD j 0:=by
 have:=h.gs
 have:=h.cl
 have:=h.cu
 unfold Pr.nums Pr.oC
 rw [List.append_assoc,List.append_assoc,List.append_assoc,DJ (j:=j) (by simp only [List.length_append,List.length_cons,List.length_nil];omega),LD om]
include h in
theorem zgc:p.nums.getD p.oT 0=p.tk:=by
 have:=h.gs
 have:=h.cl
 have:=h.cu
 unfold Pr.nums Pr.oT Pr.oC
 rw [List.append_assoc,List.append_assoc,DJ (j:=0) (by simp only [List.length_append,List.length_cons,List.length_nil];omega)]
 rfl
include h in
theorem zS {j:Nat} (a:j<8*p.tk):p.nums.getD (p.oT+1+j) 0=p.ts.getD j 0:=by
 have:=h.gs
 have:=h.cl
 have:=h.cu
 have:=h.ts
 unfold Pr.nums Pr.oT Pr.oC
 rw [List.append_assoc,DJ (j:=j) (by simp only [List.length_append,List.length_cons,List.length_nil];omega),LD om]
include h in
theorem LG (j:Nat):p.nums.getD (p.oS+j) 0=p.sp.getD j 0:=by
 have:=h.gs
 have:=h.cl
 have:=h.cu
 have:=h.ts
 unfold Pr.nums Pr.oS Pr.oT Pr.oC
 rw [DJ (j:=j) (by simp only [List.length_append,List.length_cons,List.length_nil];omega)]
theorem yw (p:Pr) (c:Nat):p.so 0 c=c:=if_pos rfl
theorem sH (a:0<g) (c:Nat):p.so g c=p.cp+3*p.cp*(g-1)+3*c:=if_neg om
theorem LH:p.so (g+1) 0=p.so g p.cp:=by
 rw [sH om]
 rcases ach g with h0|h0
 ·subst h0;rw [yw];omega
 ·rw [sH h0,show g+1-1=(g-1)+1 by omega,aev];omega
include h in
theorem GN (a:g<p.gp) (hc:c<p.cp):p.so g c+(if g=0 then 1 else 3)≤p.sp.length:=by
 rw [h.sp]
 rcases Nat.eq_zero_or_pos g with h0|h0
 ·subst h0;rw [yw,if_pos rfl];omega
 ·rw [sH h0,if_neg om]
  have:3*p.cp*(g-1)+3*p.cp≤3*p.cp*(p.gp-1):=by
   rw [←Nat.mul_succ]
   exact Nat.mul_le_mul_left _ om
  omega
end
def dA (A:Option Addr) (c:Nat):Nat→Option Addr
 |0=>A
 |k+1=>if c-k=1 then dA A c k else (dA A c k).map (·.add (1*1))
def Rh {B c:Nat} (h:Rd w B 1 A (abl q) (q.map bq)) (hc:abl q≤c):∀k,k≤abl q→Rd w B 1 (dA A c k) (abl q-k) ((q.drop k).map bq)
 |0,_=>h
 |k+1,a=>by
  have h1:=Rh h hc k om
  have h2:=h1.mid (i:=1) (j:=abl q-k) (c:=c-k) om (abq _) om
  simp only [acX] at h2
  rw [←afU,←aeQ,abP (by rw [abN];omega),acV] at h2
  rw [show abl q- (k+1)=abl q-k-1 by omega]
  exact h2
theorem zi7 {B c k m oS:Nat} (h:Rd w B 1 A (abl q) (q.map bq)) (hc:abl q≤c) (hk:k<abl q) (a:dA A c k=some ⟨m,oS,none⟩):w.cell? ⟨m,oS,none⟩=some (.int .u64 (q.getD k 0:Int)):=by
 have h1:=Rh h hc k om
 rw [a] at h1
 have h2:=h1.Er (k:=0) (xg (F:=bq) (x:=q.getD k 0) (by rw [acI,abo,acF,abp hk];rfl))
 rwa [Nat.zero_mul,acF] at h2
theorem LJ (x:Nat):bE x=((x:Int)+9223372036854775808)%18446744073709551616-9223372036854775808:=by unfold bE;rw [aeg]
theorem DK (h:x<18446744073709551616):aH (bE x)=x:=by rw [LJ];unfold aH;omega
theorem zgd (h:x<18446744073709551616) (h0:0≤bE x):bE x=x:=by rw [LJ] at*;omega
theorem Ri (h:x≤4611686018427387904):bE x=x:=by rw [LJ];omega
theorem ZU {a:Int} (h:x<18446744073709551616):aH (Go.IntKind.i64.wrap (a+bE x)-a)=x:=by rw [aeg,LJ];unfold aH;omega
def Pr.mO (p:Pr):Nat→Int
 |0=>0
 |i+1=>Go.IntKind.i64.wrap (p.mO i+bE (p.tn i 0))
def Pr.mE (p:Pr) (i:Nat):Tk:=⟨p.mO (i+1),bE (p.tn i 1),bE (p.tn i 2),bE (p.tn i 3),p.tn i 4,decide (0<p.tn i 5),p.tn i 6,p.tn i 7%4294967296⟩
def Pr.jJ (p:Pr):cO:=⟨bE p.nx,⟨(p.cp:Int),p.cr,none,0,bO p.gp p.gX,none,0,p.cl.map bE,none,0,p.cu.map bE,none,0,bO p.tk p.mE,none,0,bO p.gp λg=>⟨none,0,p.row g⟩⟩⟩
theorem ZV (p:Pr) (i:Nat):p.rC (i+1)=if 65535<p.lF i then 65535 else p.lF i:=rfl
theorem GQ {p:Pr}:∀i,(∀j,j<i→p.lF j≤65535)→p.rC i=p.mO i
 |0,_=>rfl
 |i+1,h=>by
  have h1:=GQ i λj a=>h j om
  have h2:=h i om
  rw [ZV,if_neg om]
  unfold Pr.lF
  rw [h1]
  rfl
def GR {p:Pr}:∀i,(∀j,j<i→p.mO (j+1)≤65535)→p.rC i=p.mO i
 |0,_=>rfl
 |i+1,h=>by
  have h1:=GR i λj a=>h j om
  have h2:=h i om
  have h3:p.lF i=p.mO (i+1):=by unfold Pr.lF;rw [h1];rfl
  rw [ZV,if_neg om,h3]
theorem zU {p:Pr} (h:p.rC i=p.mO i):p.lF i=p.mO (i+1):=by unfold Pr.lF;rw [h];rfl
theorem Rj (l:List α) (o:Nat→Nat) (h0:o 0=0) (a:∀i,o i≤o (i+1)):∀k,(dS k λi=>(l.drop (o i)).take (o (i+1)-o i))=l.take (o k)
 |0=>by rw [Bn,h0,List.take_zero]
 |k+1=>by
  rw [qz,Rj l o h0 a k,←List.take_add]
  congr 1
  have:=a k
  omega
theorem zge (l:List Nat):∀(m a:Nat),a+m≤abl l→(l.drop a).take m=(acW m).map λj=>l.getD (a+j) 0:=by intro x;induction x<;>grind [abp,agp,adP]
theorem sZ {f g:Nat→List α} (h:∀i,i<k→f i=g i):dS k f=dS k g:=KY k h
def LK (h:abl l=m*k):l=dS k λi=>(acW m).map λj=>l.getD (m*i+j) 0:=by
 have h1:=Rj l (λi=>m*i) rfl (λi=>by show m*i≤m*(i+1);rw [aev];omega) k
 rw [abP (show abl l≤m*k by omega)] at h1
 refine h1.symm.trans (sZ λi hi=>?_)
 show (l.drop (m*i)).take (m*(i+1)-m*i)=_
 have h2:m*(i+1)≤m*k:=af2 _ hi
 grind [zge]
theorem LM {f g:Nat→List α}:∀k,(∀i,i<k→abl (f i)=abl (g i))→dS k f=dS k g→∀i,i<k→f i=g i:=by intro x;induction x<;>grind [dS,qz,adi,adz,abn,ab7]
theorem DL {f g:Nat→List α}:∀k,(∀i,i<k→abl (f i)=abl (g i))→abl (dS k f)=abl (dS k g)
 |0,_=>rfl
 |k+1,h=>by rw [qz,qz,abn,abn,DL k (λi hi=>h i om),h k om]
def Pr.sec (p:Pr):Nat→List Nat
 |0=>[p.nx]
 |1=>[p.cp,p.cr,p.gp]
 |2=>p.gs
 |3=>p.cl
 |4=>p.cu
 |5=>p.tk::p.ts
 |6=>p.sp
 |_=>[]
theorem ZW (p:Pr):p.nums=dS 7 p.sec:=by simp_all [Pr.nums,Pr.sec,qz,Bn]
structure Pr.Low (p:Pr):Prop where
 t5:∀i,i<p.tk→p.tn i 5≤1
 t7:∀i,i<p.tk→p.tn i 7≤4294967295
 s1:∀g,g<p.gp→0<g→∀c,c<p.cp→p.sn g c 1≤4294967295
section
variable {p:Pr}
def zi8 (x:Nat) (h:x∈p.gs):x∈p.nums:=by simp [Pr.nums,h]
def ZX (x:Nat) (h:x∈p.cl):x∈p.nums:=by simp [Pr.nums,h]
def ZY (x:Nat) (h:x∈p.cu):x∈p.nums:=by simp [Pr.nums,h]
def zi9 (x:Nat) (h:x∈p.ts):x∈p.nums:=by simp [Pr.nums,h]
def zja (x:Nat) (h:x∈p.sp):x∈p.nums:=by simp [Pr.nums,h]
def GU (h:∀x∈l,x<n) (a:0<n) (k:Nat):l.getD k 0<n:=by grind [abp,ac6,List.getElem_mem,ab7]
variable (h:p.Fit)
include h
theorem vv (k:Nat):p.gs.getD k 0<18446744073709551616:=GU (λx a=>h.lt x (zi8 x a)) de k
theorem GV (k:Nat):p.cl.getD k 0<18446744073709551616:=GU (λx a=>h.lt x (ZX x a)) de k
theorem zV (k:Nat):p.cu.getD k 0<18446744073709551616:=GU (λx a=>h.lt x (ZY x a)) de k
theorem iC (i j:Nat):p.tn i j<18446744073709551616:=GU (λx a=>h.lt x (zi9 x a)) de _
theorem vw (g c j:Nat):p.sn g c j<18446744073709551616:=GU (λx a=>h.lt x (zja x a)) de _
theorem zW:p.nx<18446744073709551616:=h.lt _ (by simp [Pr.nums])
theorem vC:p.cr<18446744073709551616:=h.lt _ (by simp [Pr.nums])
theorem zat:p.gs=dS (p.gp-1) λi=>[p.gs.getD (2*i) 0,p.gs.getD (2*i+1) 0]:=LK h.gs
theorem Rk:p.ts=dS p.tk λi=>[p.tn i 0,p.tn i 1,p.tn i 2,p.tn i 3,p.tn i 4,p.tn i 5,p.tn i 6,p.tn i 7]:=LK h.ts
theorem zjb (d:g<p.gp):(p.sp.drop (p.so g 0)).take (p.so (g+1) 0-p.so g 0)=dS p.cp λc=>if g=0 then [p.sn g c 0] else [p.sn g c 0,p.sn g c 1,p.sn g c 2]:=by
 have hs:=h.sp
 rcases ach g with h0|h0
 ·subst h0
  have e1:p.so (0+1) 0=p.cp:=by rw [LH,yw]
  rw [e1,yw,Nat.sub_zero,List.drop_zero]
  have a:abl (p.sp.take p.cp)=1*p.cp:=by rw [abr];omega
  refine (LK a).trans (sZ λc hc=>?_)
  rw [if_pos rfl]
  show [(p.sp.take p.cp).getD (1*c+0) 0]=[p.sp.getD (p.so 0 c+0) 0]
  rw [yw,abo,abo,afi om,Nat.one_mul]
 ·have e1:p.so (g+1) 0=p.so g 0+3*p.cp:=by rw [LH,sH h0,sH h0,Nat.mul_zero,acF]
  have b:p.so g 0+3*p.cp≤abl p.sp:=by
   rw [sH h0,hs]
   have:3*p.cp*(g-1)+3*p.cp≤3*p.cp*(p.gp-1):=by
    rw [←aev]
    exact af2 _ om
   omega
  rw [e1,acH]
  have a:abl ((p.sp.drop (p.so g 0)).take (3*p.cp))=3*p.cp:=by rw [abr,abN];omega
  refine (LK a).trans (sZ λc hc=>?_)
  rw [if_neg om]
  have e2:∀j,j<3→((p.sp.drop (p.so g 0)).take (3*p.cp)).getD (3*c+j) 0=p.sn g c j:=λj e=>by
   unfold Pr.sn
   rw [abo,abo,afi om,acI,sH h0,sH h0]
   congr 2
   omega
  show [((p.sp.drop (p.so g 0)).take (3*p.cp)).getD (3*c+0) 0,((p.sp.drop (p.so g 0)).take (3*p.cp)).getD (3*c+1) 0,((p.sp.drop (p.so g 0)).take (3*p.cp)).getD (3*c+2) 0]=_
  rw [e2 0 om,e2 1 om,e2 2 om]
theorem Rl:p.sp=dS p.gp λg=>dS p.cp λc=>if g=0 then [p.sn g c 0] else [p.sn g c 0,p.sn g c 1,p.sn g c 2]:=by
 have h1:=Rj p.sp (λg=>p.so g 0) (yw p 0) (λg=>by
  show p.so g 0≤p.so (g+1) 0
  rw [LH]
  rcases ach g with h0|h0
  ·subst h0;rw [yw];omega
  ·rw [sH h0,sH h0];omega) p.gp
 have h2:p.so p.gp 0=abl p.sp:=by rw [sH h.ZQ,h.sp];omega
 rw [h2,ada] at h1
 exact h1.symm.trans (sZ λg a=>zjb h a)
end
theorem GX (p:Pr) {i:Nat} (hi:i≤p.tk):qo (bO p.tk p.mE) i=p.mO i:=by
 cases i with
 |zero=>rfl
 |succ i=>rw [Fv,Cc om];rfl
theorem yx {p:Pr} (h:p.Fit):(∀i,i<7→abl (aF p.jJ i)=abl (p.sec i))∧((∀i,i<7→aF p.jJ i=p.sec i)↔p.Low):=by
 have k:aF p.jJ 2=p.gs:=by
  show dS (abl (bO p.gp p.gX)-1) (sS (bO p.gp p.gX))=p.gs
  grind [Pr.gX,sS,vv,zat,Cc,qN,DK,sZ]
 have hm:∀l:List Nat,(∀x∈l,x<18446744073709551616)→(l.map bE).map aH=l:=λl a=>by
  rw [aep]
  exact (afS λx b=>DK (a x b)).trans (List.map_id l)
 have f:aF p.jJ 5=p.tk::dS p.tk λi=>[p.tn i 0,p.tn i 1,p.tn i 2,p.tn i 3,p.tn i 4,if decide (0<p.tn i 5)=true then 1 else 0,p.tn i 6,p.tn i 7%4294967296]:=by
  show (abl (bO p.tk p.mE)::dS (abl (bO p.tk p.mE)) λi=>lY (qo (bO p.tk p.mE) i) ((bO p.tk p.mE).getD i Tk.zero))=_
  rw [qN]
  congr 1
  refine sZ λi hi=>?_
  rw [GX p om,Cc hi]
  show [aH (Go.IntKind.i64.wrap (p.mO i+bE (p.tn i 0))-p.mO i),aH (bE (p.tn i 1)),aH (bE (p.tn i 2)),aH (bE (p.tn i 3)),_,_,_,_]=_
  rw [ZU (iC h i 0),DK (iC h i 1),DK (iC h i 2),DK (iC h i 3)]
  rfl
 have j:aF p.jJ 6=dS p.gp λg=>dS p.cp λc=>if g=0 then [p.sn g c 0] else [p.sn g c 0,p.sn g c 1%4294967296,p.sn g c 2]:=by
  show (dS (abl (bO p.gp λg=>(⟨none,0,p.row g⟩:Rw))) λg=>ni g ((bO p.gp λg=>(⟨none,0,p.row g⟩:Rw)).getD g Rw.zero).l)=_
  rw [qN]
  refine sZ λg e=>?_
  rw [Cc e]
  show dS (abl (p.row g)) (λc=>mJ g ((p.row g).getD c Sp.zero))=_
  grind [Pr.row,Pr.qO,Cc,qN,OH,KP,sZ]
 have h0:aF p.jJ 0=p.sec 0:=by show [aH (bE p.nx)]=[p.nx];rw [DK (zW h)]
 have h1:aF p.jJ 1=p.sec 1:=by
  show [aH (p.cp:Int),p.cr,abl (bO p.gp p.gX)]=[p.cp,p.cr,p.gp]
  have:=h.cp2
  rw [qN,Xt om]
 have h3:aF p.jJ 3=p.sec 3:=hm p.cl λx b=>h.lt x (ZX x b)
 have h4:aF p.jJ 4=p.sec 4:=hm p.cu λx b=>h.lt x (ZY x b)
 constructor
 ·intro i hi
  match i,hi with
  |0,_=>rw [h0]
  |1,_=>rw [h1]
  |2,_=>rw [k];rfl
  |3,_=>rw [h3]
  |4,_=>rw [h4]
  |5,_=>
   rw [f]
   refine congrArg (· +1) (af3 ?_ (congrArg adz (Rk h).symm))
   exact DL p.tk λi _=>rfl
  |6,_=>
   rw [j]
   refine af3 ?_ (congrArg adz (Rl h).symm)
   exact DL p.gp λg _=>DL p.cp λc _=>by split<;>rfl
 ·constructor
  ·intro m
   have e5:=m 5 om
   have e6:=m 6 om
   rw [f] at e5
   rw [j] at e6
   replace e5:=(List.cons.inj e5).2
   rw [Rk h] at e5
   replace e6:_=p.sp:=e6
   rw [Rl h] at e6
   have n:=LM p.tk (λi _=>by rfl) e5
   have o:=LM p.gp (λg _=>DL p.cp λc _=>by split<;>rfl) e6
   refine ⟨λi hi=>?_,λi hi=>?_,λg e d c hc=>?_⟩
   ·grind
   ·grind
   ·grind [LM]
  ·intro a i hi
   match i,hi with
   |0,_=>exact h0
   |1,_=>exact h1
   |2,_=>exact k
   |3,_=>exact h3
   |4,_=>exact h4
   |5,_=>
    rw [f]
    show _=p.tk::p.ts
    congr 1
    refine af3 (sZ λi hi=>?_) (Rk h).symm
    have q:=a.t5 i hi
    have r:=a.t7 i hi
    grind
   | 6, _ =>
    rw [j]
    refine af3 (sZ λg e=>sZ λc hc=>?_) (Rl h).symm
    rcases ach g with d|d
    ·rw [if_pos d,if_pos d]
    ·have:=a.s1 g e d c hc
     grind
theorem zX {p:Pr} (h:p.Fit):dU p.jJ=p.nums↔p.Low:=by
 rw [ZW]
 exact ⟨λe=>(yx h).2.1 (LM 7 (yx h).1 e),λe=>sZ ((yx h).2.2 e)⟩
theorem oG (h:x≤m):dle x m=true:=decide_eq_true h
theorem Z0 (h:dle x m=true):x≤m:=of_decide_eq_true h
section
variable {p:Pr}
def zjc {b:Bool}:∀k,p.lG b g k=true→b=true∧(0<g→∀c,c<k→p.sn g c 1≤4294967295):=by intro x;induction x<;>grind [Pr.lG,Z0]
def Z4:∀k,p.mD k=true→p.jA p.tk=true∧∀g,g<k→0<g→∀c,c<p.cp→p.sn g c 1≤4294967295
 |0,h=>⟨h,λg a=>by omega⟩
 |k+1,h=>by
  obtain ⟨h1,h2⟩:=zjc p.cp h
  obtain ⟨h3,h4⟩:=Z4 k h1
  grind
def zjd:∀k,p.jA k=true→∀i,i<k→p.tn i 5≤1∧p.tn i 7≤4294967295∧p.lF i≤65535:=by intro x;induction x<;>grind [Pr.jA,Z0]
theorem Z5 (h:p.okB=true):p.Low∧∀i,i<p.tk→p.lF i≤65535:=by
 obtain ⟨h1,h2⟩:=Z4 p.gp h
 have h3:=zjd p.tk h1
 exact ⟨⟨λi hi=>(h3 i hi).1,λi hi=>(h3 i hi).2.1,h2⟩,λi hi=>(h3 i hi).2.2⟩
theorem zY (h:p.Low) (h2:∀i,i≤p.tk→p.rC i=p.mO i):p.pY=p.jJ:=by
 have e:bO p.tk p.sG=bO p.tk p.mE:=by
  unfold bO
  refine afS λi hi=>?_
  rw [afB] at hi
  unfold Pr.sG Pr.mE
  rw [zU (h2 i om),show decide (p.tn i 5=1)=decide (0<p.tn i 5) from decide_eq_decide.2 (by have:=h.t5 i hi;omega)]
 unfold Pr.pY Pr.jJ
 rw [e]
end
section
variable {p:Pr} (h:p.Fit)
include h
theorem Z6 (a:p.nx≤aA):p.ok0=true:=by
 unfold Pr.ok0
 have h1:=h.cp2
 have h2:=h.GL
 have h3:=vC h
 unfold aA at*
 rw [oG a,oG (show p.cp≤4611686018427387904 by omega),oG (show p.cr≤18446744073709551615 by omega),oG (show p.gp≤4611686018427387904 by omega)]
 rfl
theorem Z7 (a:p.nx≤aA) (b:∀i,i<2*(p.gp-1)→p.gs.getD i 0≤aA):∀k,k≤p.gp→p.oF k=true
 |0,_=>Z6 h a
 | k + 1, c => by
  rw [Pr.oF]
  split
  ·exact Z6 h a
  ·rw [Z7 a b k om,oG (b _ om),oG (b _ om)]
   rfl
end
section
variable {p:Pr}
def zje (h0:p.oF p.gp=true) (hc:∀i,i<p.cp→p.cl.getD i 0≤aA):∀k,k≤p.cp→p.yu k=true:=by intro x;induction x<;>grind [Pr.yu,oG]
def zjf (h0:p.yu p.cp=true) (hc:∀i,i<p.cp→p.cu.getD i 0≤aA):∀k,k≤p.cp→p.vo k=true:=by intro x;induction x<;>grind [Pr.vo,oG]
theorem Z8 (h:p.Fit) (h0:p.vo p.cp=true) (a:p.Low) (ht:∀i,i<p.tk→p.tn i 0≤aA∧p.tn i 1≤aA∧p.tn i 2≤aA∧p.tn i 3≤aA) (hi:∀i,i<p.tk→p.lF i≤65535):∀k,k≤p.tk→p.jA k=true
 |0,_=>by
  rw [Pr.jA,h0,oG (by have:=h.tk;unfold aA;omega)];rfl
 |k+1,f=>by
  obtain ⟨b,c,d,e⟩:=ht k om
  have g:=iC h k 4
  have j:=iC h k 6
  rw [Pr.jA,Z8 h h0 a ht hi k om,oG b,oG c,oG d,oG e,oG (show p.tn k 4≤18446744073709551615 by omega),oG (a.t5 k om),oG (show p.tn k 6≤18446744073709551615 by omega),oG (a.t7 k om),decide_eq_true (hi k om)]
  rfl
def zjg (h:p.Fit) {b:Bool} (hb:b=true) {g:Nat} (a:0<g→∀c,c<p.cp→p.sn g c 1≤4294967295):∀k,k≤p.cp→p.lG b g k=true:=by intro x;induction x<;>grind [Pr.lG,oG,vw]
def Z9 (h:p.Fit) (h0:p.jA p.tk=true) (a:p.Low):∀k,k≤p.gp→p.mD k=true
 |0,_=>h0
 |k+1,d=>zjg h (Z9 h h0 a k om) (λb c hc=>a.s1 k om b c hc) p.cp (abq _)
end
def Rm (x:Int):aR (Go.IntKind.i64.wrap x):=by rw [aeg];unfold aR;omega
def yB (x:Nat):aR (bE x):=Rm _
def DN {f:Nat→α} {q:α→Prop} (h:∀i,i<n→q (f i)):∀x∈bO n f,q x:=by
 intro x a
 obtain ⟨i,hi,rfl⟩:=ab6.1 a
 exact h i (afB.1 hi)
section
variable {p:Pr} (h:p.Fit)
include h
theorem zc4 (g:Nat):(p.gX g).Ok:=by
 unfold Pr.gX
 split
 ·exact ⟨by unfold aR;decide,by unfold aR;decide⟩
 ·exact ⟨yB _,yB _⟩
theorem zjh (g c:Nat):(p.qO g c).Ok:=by
 have a:=vw h g c 0
 have b:=vw h g c 2
 unfold Pr.qO
 split
 ·exact ⟨show 0<18446744073709551616 by decide,show 0<4294967296 by decide,a⟩
 ·exact ⟨a,adr _ de,b⟩
theorem zZ:aR (p.cp:Int):=by have:=h.cp2;unfold aR;omega
theorem LP (l:List Nat):∀x∈l.map bE,aR x:=by
 intro x a
 obtain ⟨y,_,rfl⟩:=ab6.1 a
 exact yB y
theorem rows_ok:∀l∈(bO p.gp λg=>(⟨none,0,p.row g⟩:Rw)).map aeB,∀x∈l,Sp.Ok x:=by
 intro l a
 obtain ⟨y,b,rfl⟩:=ab6.1 a
 obtain ⟨g,_,rfl⟩:=ab6.1 b
 exact DN λc _=>zjh h g c
theorem zgf (i:Nat):(p.sG i).Ok:=⟨Rm _,yB _,yB _,yB _,iC h i 4,iC h i 6,adr _ de⟩
theorem zgg (i:Nat):(p.mE i).Ok:=⟨Rm _,yB _,yB _,yB _,iC h i 4,iC h i 6,adr _ de⟩
theorem zc5:p.pY.st.av.Ok:=⟨zZ h,vC h,DN λg _=>zc4 h g,LP h _,LP h _,DN λi _=>zgf h i,rows_ok h⟩
theorem zji:p.jJ.st.av.Ok:=⟨zZ h,vC h,DN λg _=>zc4 h g,LP h _,LP h _,DN λi _=>zgg h i,rows_ok h⟩
theorem LQ (a:abl l=n) (b:n≤1000000):abl (l.map bE)≤1000000:=by rw [abu];omega
theorem qwz:∀y∈bO p.gp λg=>(⟨none,0,p.row g⟩:Rw),abl y.l≤1000000:=DN λg _=>by
 have:=h.cp2
 show abl (p.row g)≤1000000
 unfold Pr.row
 rw [qN]
 omega
theorem Rn (s:cO) (hs:s=p.pY∨s=p.jJ):bN s.st:=by
 have h1:=h.cp2
 have h2:=h.GL
 have h3:=h.tk
 rcases hs with rfl|rfl
 ·exact ⟨by show abl (bO _ _)≤_;rw [qN];omega,LQ h h.cl om,LQ h h.cu om,by show abl (bO _ _)≤_;rw [qN];omega,by show abl (bO _ _)≤_;rw [qN];omega,qwz h⟩
 ·exact ⟨by show abl (bO _ _)≤_;rw [qN];omega,LQ h h.cl om,LQ h h.cu om,by show abl (bO _ _)≤_;rw [qN];omega,by show abl (bO _ _)≤_;rw [qN];omega,qwz h⟩
end
theorem q5p {p:Pr} (h:p.Fit) (hk:bV p.jJ=0) (r:p.Low):p.okB=true∧p.pY=p.jJ:=by
 have z:=(xQ hk).1
 have s:=(xQ hk).2
 have d:=Dk hk
 have e:aA=4611686018427387904:=rfl
 have big:∀{x:Nat} {n:Int},x<18446744073709551616→0≤bE x→bE x≤n→n≤4611686018427387904→x≤aA:=λ{x n} h1 h2 h3 h4=>by
  rw [zgd h1 h2] at h3;omega
 have E:abl p.jJ.st.gs=p.gp:=qN _ _
 have F:abl p.jJ.st.ts=p.tk:=qN _ _
 have t:abl p.jJ.st.rs=p.gp:=qN _ _
 have u:∀g,g<p.gp→p.jJ.st.gs.getD g Gr.zero=p.gX g:=λg v=>Cc v
 have b:∀i,i<p.tk→p.jJ.st.ts.getD i Tk.zero=p.mE i:=λi hi=>Cc hi
 obtain ⟨G,H,_,m⟩:=lX d.cfg
 have w:p.nx≤aA:=big (zW h) (by have:=z.1;show (0:Int)≤p.jJ.next;omega) z.2 om
 have I:∀i,i<2*(p.gp-1)→p.gs.getD i 0≤aA:=λi hi=>by
  have v:i/2+1<p.gp:=by omega
  have h1:=(qp m).2.2.2 (i/2+1) om
  have h2:=KF h1 om
  have h3:=oU m (g:=i/2+1) om
  unfold dP at h2
  rw [u _ v] at h2 h3
  unfold Pr.gX at h2 h3
  rw [if_neg om] at h2 h3
  rw [aec] at h2 h3
  dsimp only at h2 h3
  rcases Nat.mod_two_eq_zero_or_one i with h4|h4
  ·rw [show i=2*(i/2) by omega]
   exact big (n:=256) (vv h _) h2.1 (by have:=h2.2;have:=h.GL;show bE _≤256;omega) om
  ·rw [show i=2*(i/2)+1 by omega]
   exact big (vv h _) (by have:=h3.1;show 0≤bE _;omega) h3.2 om
 have c:∀(l:List Nat) (k:Nat),k<abl l→(l.map bE).getD k 0=bE (l.getD k 0):=λl k hk=>by
  grind
 have J:∀i,i<p.cp→p.cl.getD i 0≤aA:=λi hi=>by
  have o:=h.cl
  have h1:=d.cls i (by show i<abl (p.cl.map bE);rw [abu];omega)
  rw [show p.jJ.st.cl.getD i 0=bE (p.cl.getD i 0) from c p.cl i om] at h1
  unfold gP at h1
  rw [decide_eq_true_eq] at h1
  exact big (GV h _) h1.1 h1.2 om
 have q:∀i,i<p.tk→_:=λi hi=>Dg (d.tk i om)
 have f:∀i,i<p.tk→(1≤p.mO (i+1)∧p.mO (i+1)≤65535)∧p.tn i 1≤aA∧p.tn i 2≤aA∧p.tn i 3≤aA:=λi hi=>by
  have h1:=(q i hi).2
  rw [b i hi] at h1
  unfold dH lN at h1
  simp only [abF,decide_eq_true_eq] at h1
  obtain ⟨⟨K,L,M,y,N,A⟩,⟨B,O⟩,_⟩:=h1
  rw [kQ,t] at y
  have:=h.GL
  have:=h.cp2
  refine ⟨⟨K,L⟩,big (n:=256) (iC h i 1) M (by show bE _≤256;have y:bE (p.tn i 1)<p.gp:=y;omega) om,big (iC h i 2) (by have B:1≤bE (p.tn i 2):=B;omega) O om,big (n:=64) (iC h i 3) N (by have A:bE (p.tn i 3)<(p.cp:Int):=A;omega) om⟩
 have C:∀i,i≤p.tk→p.rC i=p.mO i:=λi hi=>GR i λj D=>(f j om).1.2
 have P:∀i,i<p.tk→p.lF i≤65535:=λi hi=>by rw [zU (C i om)];exact (f i hi).1.2
 have h0:∀i,i<p.tk→p.tn i 0≤aA:=λi hi=>by
  have h1:=(q i hi).1
  have h2:0≤p.mO i∧p.mO i<p.mO (i+1):=by
   rcases i with _|i
   ·have:=(f 0 hi).1.1
    exact ⟨ae7 _,by show (0:Int)<_;omega⟩
   ·have h3:=(f i om).1.1
    rw [aec,b i om,b (i+1) hi] at h1
    rcases h1 with h1|h1
    ·omega
    ·exact ⟨by omega,h1⟩
  have h3:=ZU (a:=p.mO i) (iC h i 0)
  have h4:Go.IntKind.i64.wrap (p.mO i+bE (p.tn i 0))=p.mO (i+1):=rfl
  grind [aH]
 have Q:∀i,i<p.cp→p.cu.getD i 0≤aA:=λi hi=>by
  have R:=h.cu
  have o:i<abl p.jJ.st.cu:=by show i<abl (p.cu.map bE);rw [abu];omega
  unfold kG at s
  rw [abF] at s
  have h1:=uz s.2 (i:=i) o
  rw [abF] at h1
  have h2:=h1.1
  unfold dR at h2
  have hz:p.jJ.st.av.cu.getD i 0=bE (p.cu.getD i 0):=c p.cu i om
  rw [hz] at h2
  rw [adw,decide_eq_true_eq] at h2
  rcases h2 with h2|h2
  ·exact big (zV h _) om (Int.le_of_eq h2) om
  ·split at h2
   ·rename_i j D
    obtain ⟨h3,h4⟩:=OB D
    have h3:j<p.tk:=by have:j<abl p.jJ.st.ts:=h3;omega
    rw [show p.jJ.st.av.ts.getD j Tk.zero=p.mE j from b j h3] at h4
    have h5:=(f j h3).1
    have h4:p.mO (j+1)=bE (p.cu.getD i 0):=h4
    exact big (n:=65535) (zV h _) om om om
   ·cases h2
 refine ⟨Z9 h (Z8 h (zjf (zje (Z7 h w I p.gp (abq _)) J p.cp (abq _)) Q p.cp (abq _)) r (λi hi=>⟨h0 i hi,(f i hi).2⟩) P p.tk (abq _)) r p.gp (abq _),zY r C⟩
theorem q5q {p:Pr} (hb:p.okB=true):p.pY=p.jJ:=by grind [GQ,Z5,zY]
def zau {ys:List Nat} (a:∀x∈xs,x<18446744073709551616) (hy:∀x∈ys,x<18446744073709551616) (b:abl xs=abl ys) (h:xs.flatMap au=ys.flatMap au):xs=ys:=by
 have h1:=Vt xs [] a
 grind [Vt]
def Ro {p:Pr} (d:∀z∈l,z<256) (h:fq l= .ok p):15≤abl l∧abl l≤16777216∧p.Fit∧l=bA ([113,115,1]++p.nums.flatMap au):=by
 unfold fq at h
 split at h
 ·cases h
 rename_i h1
 split at h
 ·cases h
 rename_i h2
 split at h
 ·cases h
 rename_i h3
 split at h
 ·cases h
 rename_i h4
 split at h
 ·cases h
 rename_i h5
 have h4:l.getD 0 0=113∧l.getD 1 0=115:=afd h4
 have h5:l.getD 2 0=1:=afd h5
 have hs:zl l=true:=by cases hq:zl l with|true=>rfl|false=>exact absurd hq h3
 have f:abl (l.take (abl l-4))=abl l-4:=by rw [abr];omega
 obtain ⟨g,i⟩:=zf9 om (λz hz=>d z (acg hz)) h
 refine ⟨by omega,by omega,g,?_⟩
 rw [←i]
 have e:([113,115,1]:List Nat)=(l.take (abl l-4)).take 3:=by
  rw [List.take_take,show min 3 (abl l-4)=3 by omega]
  match l,h1,h4,h5 with
  |a::b::c::r,_,h4,h5=>
   grind
  |[],h1,_,_=>exact absurd de h1
  |[_],h1,_,_=>exact absurd (by simp) h1
  |[_,_],h1,_,_=>exact absurd (by simp) h1
 rw [e,ab9,UN d hs]
def zav {a:List Nat} (h:bA a=bA b):a=b:=by
 have h1:=congrArg adz h
 rw [tT,tT] at h1
 exact (adi h om).1
theorem q5r {p:Pr} (b:∀z∈l,z<256) (h:fq l= .ok p):(p.okB=true∧bV p.pY=0)↔(bV p.jJ=0∧cZ p.jJ=l):=by
 obtain ⟨_,_,a,c⟩:=Ro b h
 constructor
 ·grind [dx,zX,Z5,q5q,Dl]
 ·rintro ⟨h1,h2⟩
  rw [Dl h1] at h2
  have h3:=zav (h2.trans c)
  unfold dx at h3
  have h4:=zau (KT (zji a) (Rn a _ (.inr rfl))) a.lt (by rw [ZW];exact DL 7 (yx a).1) (afq h3)
  grind [zX,q5p]
def oh (l:List Nat):Nat:=match fq l with
 | .ok p=>if p.okB=true∧bV p.pY=0 then 0 else 347
 | .error k=>k
def vD:cO:=⟨0,⟨0,0,none,0,[],none,0,[],none,0,[],none,0,[],none,0,[]⟩⟩
def lH (l:List Nat):cO:=match fq l with
 | .ok p=>if p.okB=true∧bV p.pY=0 then p.pY else vD
 | .error _=>vD
section
variable {l:List Nat} {p:Pr} {k:Nat}
theorem vE (h:fq l= .error k):oh l=k∧lH l=vD:=by unfold oh lH;rw [h];exact ⟨rfl,rfl⟩
theorem LU (h:fq l= .ok p) (h2:¬(p.okB=true∧bV p.pY=0)):oh l=347∧lH l=vD:=by unfold oh lH;rw [h];exact ⟨if_neg h2,if_neg h2⟩
theorem Rp (h:fq l= .ok p) (h2:p.okB=true∧bV p.pY=0):oh l=0∧lH l=p.pY:=by unfold oh lH;rw [h];exact ⟨if_pos h2,if_pos h2⟩
theorem zgh (a:∀z∈l,z<256) (h:fq l= .ok p) (h2:bV p.jJ=0∧cZ p.jJ=l):oh l=0∧lH l=p.jJ:=by
 have h3:=(q5r a h).2 h2
 rw [←q5q h3.1]
 exact Rp h h3
end
section
variable {a b:List Nat} {p q:Pr} {k:Nat} {X Y:List jl} {i:Nat}
end
theorem Mem.Ce (h:Mem W w []):Mem W w (jr vD.st):=((((h.nil 176 1).nil 232 8).nil 3 1).nil 3 1).nil 198 2
def qw0:eP vD.st:=⟨abq _,abq _,abq _,abq _,abq _,λy c=>by cases c⟩
def qrv (s:cO):eD s s:=uP rfl (qyz _)
def LV (w:World) (er:Nat) (s:cO) (r:Ending) (c:World):Prop:=∃z:cO,r= .returned (.tuple #[.agg z.cells,.int .i64 (er:Int)])∧eD s z∧eP z.st∧Mem w c (jr z.st)
def Rq {s:cO} (h:er=k∧s=vD) (hr:r= .returned (.tuple #[.agg vD.cells,.int .i64 (k:Int)])) (c:Mem w W []):LV w er s r W:=by
 obtain ⟨rfl,rfl⟩:=h
 exact ⟨vD,hr,qrv _,qw0,c.Ce⟩
def q5t {s t z:cO} (h:er=0∧s=t) (hr:r= .returned (.tuple #[.agg z.cells,.int .i64 0])) (hz:eD t z) (hc:eP z.st) (c:Mem w W (jr z.st)):LV w er s r W:=by
 obtain ⟨rfl,rfl⟩:=h
 exact ⟨z,hr,hz,hc,c⟩
theorem zc6 {s z:cO} (h:eD s z) (c:s.st.av.Ok):z.st.av.Ok:=by rw [KW (KX h)];exact c
structure Pl where
 nx:Nat
 sn:Nat
 st:Nat
 en:Nat
deriving DecidableEq
def Pl.zero:Pl:=⟨0,0,0,0⟩
def Pl.cells (p:Pl):Array Value:= #[.int .i64 (p.nx:Int),.int .i64 (p.sn:Int),.int .i64 (p.st:Int),.int .i64 (p.en:Int)]
def jY (p:Pl):List Value:=[.int .i64 (p.nx:Int),.int .i64 (p.sn:Int),.int .i64 (p.st:Int),.int .i64 (p.en:Int)]
theorem tq (p:Pl):abl (jY p)=4:=rfl
def dB (b:List Nat) (p m:Nat):Nat:=bJ m (b.drop p)
def bg (b:List Nat) (p:Nat):Nat:=p+(aB (b.drop p)).2.1
def eu (b:List Nat) (p m:Nat):Bool:=jg m (b.drop p)
section
variable {b:List Nat} {p m k last sum q s a:Nat} {l:List Pl}
theorem Rs:dB b p m≤m:=y5 _ _
def Rt:p≤bg b p:=adS _ _
theorem qc3 (h:p≤abl b):bg b p≤abl b:=by grind [bg,yO]
def LW (hb:∀x∈b,x<256) (c:p≤abl b) (h:eu b p m=true):b.take (bg b p)=b.take p++au (dB b p m):=by
 obtain ⟨h1,h2⟩:=of_decide_eq_true h
 grind [bg,dB,bJ,aB,NH]
def sI (b:List Nat) (p:Nat):Bool:=eu b p 4611686018427387904&& (eu b (bg b p) 16777216&&eu b (bg b (bg b p)) 16777216)
def rowP (b:List Nat) (p:Nat):Nat:=bg b (bg b (bg b p))
def kS (b:List Nat) (p:Nat):Nat:=dB b p 4611686018427387904
def kT (b:List Nat) (p:Nat):Nat:=dB b (bg b p) 16777216
def mF (b:List Nat) (p:Nat):Nat:=dB b (bg b (bg b p)) 16777216
def zgi (h:p≤abl b):rowP b p≤abl b:=qc3 (qc3 (qc3 h))
def jS (b:List Nat):Nat→Nat→Nat→Nat→Option (List Pl×Nat×Nat)
 |0,p,_,sum=>some ([],p,sum)
 | k + 1, p, last, sum => if sI b p = true ∧ last ≤ kS b p then
   (jS b k (rowP b p) (kS b p) (sum+kT b p+mF b p)).map λr=>(⟨kS b p,sum,sum+kT b p,sum+kT b p+mF b p⟩::r.1,r.2)
  else none
def kE (b:List Nat) (ok:Bool) (k p last sum:Nat):Option (List Pl×Nat×Nat):=if ok=true then jS b k p last sum else none
theorem q5u:kE b false k p last sum=none:=rfl
theorem GY:kE b true k p last sum=jS b k p last sum:=rfl
def Pl.up (a:Nat) (x:Pl):Pl:=⟨x.nx,x.sn+a,x.st+a,x.en+a⟩
def dK (b:List Nat):List Pl×Nat:=
 if 16777216<abl b then ([],3)
 else if ¬(b.take 3=[113,97,1]) then ([],410)
 else match kE b (eu b 3 1024) (dB b 3 1024) (bg b 3) 0 0 with
  |none=>([],410)
  |some (l,p,s)=>if p+4≤abl b∧zl (b.take (p+4))=true∧p+4+s=abl b then (l.map (Pl.up (p+4)),0) else ([],410)
def zaw (h:16777216<abl b):dK b=([],3):=by unfold dK;rw [if_pos h]
def qw2 (h:¬16777216<abl b) (h2:¬(b.take 3=[113,97,1])):dK b=([],410):=by unfold dK;rw [if_neg h,if_pos h2]
def Ru (h:¬16777216<abl b) (h2:b.take 3=[113,97,1]) (h3:kE b (eu b 3 1024) (dB b 3 1024) (bg b 3) 0 0=none):dK b=([],410):=by unfold dK;rw [if_neg h,if_neg (λx=>x h2),h3]
def Rv (h:¬16777216<abl b) (h2:b.take 3=[113,97,1]) (h3:kE b (eu b 3 1024) (dB b 3 1024) (bg b 3) 0 0=some (l,p,s)) (h4:¬(p+4≤abl b∧zl (b.take (p+4))=true∧p+4+s=abl b)):dK b=([],410):=by grind [dK]
def zc7 (h:¬16777216<abl b) (h2:b.take 3=[113,97,1]) (h3:kE b (eu b 3 1024) (dB b 3 1024) (bg b 3) 0 0=some (l,p,s)) (h4:p+4≤abl b∧zl (b.take (p+4))=true∧p+4+s=abl b):dK b=(l.map (Pl.up (p+4)),0):=by grind [dK]
def jK:Nat→Nat→List Pl→Nat→Prop
 |_,sum,[],s=>sum=s
 |last,sum,x::t,s=>(x.sn=sum∧x.sn≤x.st∧x.st≤x.en∧last≤x.nx∧x.nx≤4611686018427387904)∧jK x.nx x.en t s
theorem jK.le:∀{l:List Pl} {last sum s:Nat},jK last sum l s→sum≤s
 |[],_,_,_,h=>Nat.le_of_eq h
 |x::t,_,_,_,h=>by have:=jK.le h.2;have:=h.1;omega
theorem jK.mem:∀{l:List Pl} {last sum s:Nat},jK last sum l s→∀x∈l,sum≤x.sn∧x.sn≤x.st∧x.st≤x.en∧x.en≤s∧x.nx≤4611686018427387904
 |[],_,_,_,_=>λx c=>by cases c
 |y::t,_,_,_,h=>λx c=>by
  have h1:=h.1
  have h2:=jK.le h.2
  rcases ab0.1 c with rfl|c
  ·omega
  ·have:=jK.mem h.2 x c;omega
def yC (x:Pl):List Nat:=[x.nx,x.st-x.sn,x.en-x.st]
def qm9 (hb:∀x∈b,x<256):∀(k p last sum:Nat) {l:List Pl} {q s:Nat},p≤abl b→jS b k p last sum=some (l,q,s)→abl l=k∧jK last sum l s∧p≤q∧q≤abl b∧b.take q=b.take p++(l.flatMap yC).flatMap au
 |0,p,last,sum,l,q,s,c,h=>by
  have h:some (([]:List Pl),p,sum)=some (l,q,s):=h
  injection h with h;injection h with h1 h;injection h with h2 h3
  subst h1 h2 h3
  exact ⟨rfl,rfl,abq _,c,by simp⟩
 | k + 1, p, last, sum, l, q, s, c, h => by
  rw [jS] at h
  split at h
  ·rename_i hc
   obtain ⟨d,e⟩:=hc
   obtain ⟨⟨u,v,w⟩,h1,h2⟩:=Option.map_eq_some_iff.1 h
   injection h2 with h2 h3;injection h3 with h3 h4
   dsimp only at h2 h3 h4
   subst h2 h3 h4
   obtain ⟨f,g,i,j,n⟩:=qm9 hb k _ _ _ (zgi c) h1
   unfold sI at d
   rw [abF,abF] at d
   have o:=LW hb c d.1
   have r:=LW hb (qc3 c) d.2.1
   have t:=LW hb (qc3 (qc3 c)) d.2.2
   refine ⟨by rw [ab1,f],⟨⟨rfl,adS _ _,adS _ _,e,Rs⟩,g⟩,?_,j,?_⟩
   ·exact acM (acM Rt (acM Rt Rt)) i
   ·rw [n]
    show b.take (bg b (bg b (bg b p)))++_=_
    rw [t,r,o,abT]
    unfold yC kS kT mF
    simp_all
  ·cases h
structure vF (b:List Nat) (L:List Pl):Prop where
 form:∃(l:List Pl) (p s:Nat),L=l.map (Pl.up (p+4))∧jK 0 0 l s∧p+4+s=abl b∧abl l≤1024∧b.take (p+4)=bA ([113,97,1]++(abl l::l.flatMap yC).flatMap au)
 few:abl b≤16777216
def qw3 (hb:∀x∈b,x<256) {L:List Pl} (h:dK b=(L,0)):vF b L:=by
 unfold dK at h
 split at h
 ·injection h with _ h;cases h
 ·rename_i d
  split at h
  ·injection h with _ h;cases h
  ·rename_i c
   have c:b.take 3=[113,97,1]:=Classical.not_not.1 c
   split at h
   ·injection h with _ h;cases h
   ·rename_i l p s hi
    split at h
    ·rename_i hc
     obtain ⟨o,f,g⟩:=hc
     injection h with h _
     have h3:3≤abl b:=by
      grind
     have e:eu b 3 1024=true:=by
      grind [q5u,eu]
     rw [e,GY] at hi
     obtain ⟨i,j,r,u,v⟩:=qm9 hb _ _ _ _ (qc3 h3) hi
     have t:=LW hb h3 e
     refine ⟨⟨l,p,s,h.symm,j,g,by rw [i];exact Rs,?_⟩,by omega⟩
     have h5:=UN (l:=b.take (p+4)) (λx n=>hb x (acg n)) f
     grind
    ·injection h with _ h;cases h
end
def bS (b:List Nat) (i j:Nat):List Nat:=(b.take j).drop i
theorem GZ {j:Nat} (h:j≤abl b):abl (bS b i j)=j-i:=by grind [bS]
theorem Rx (h:∀x∈b,x<256) (i j:Nat):∀x∈bS b i j,x<256:=λx c=>h x (acg (abZ c))
def jZ (b:List Nat) (x:Pl):Nat:=
 if oh (bS b x.sn x.st)≠0 then oh (bS b x.sn x.st)
 else if (lH (bS b x.sn x.st)).next≠(x.nx:Int) then 412
 else (readAll (bS b x.st x.en)).2
def zgj {x:Pl} (h:oh (bS b x.sn x.st)≠0):jZ b x=oh (bS b x.sn x.st):=by unfold jZ;rw [if_pos h]
def zgk {x:Pl} (h:oh (bS b x.sn x.st)=0) (h2:(lH (bS b x.sn x.st)).next≠(x.nx:Int)):jZ b x=412:=by unfold jZ;rw [if_neg (λn=>n h),if_pos h2]
def q5v {x:Pl} (h:oh (bS b x.sn x.st)=0) (h2:(lH (bS b x.sn x.st)).next=(x.nx:Int)):jZ b x=(readAll (bS b x.st x.en)).2:=by unfold jZ;rw [if_neg (λn=>n h),if_neg (λn=>n h2)]
structure Pv where
 s:cO
 bs:List Bk
def Pv.zero:Pv:=⟨vD,[]⟩
def kU:List Pv→Int→Nat→Int×Nat
 |[],_,_=>(-1,0)
 |x::t,last,i=>if bV x.s≠0 then ((i:Int),bV x.s) else if fF x.bs≠0 then ((i:Int),fF x.bs) else if x.s.next<last then ((i:Int),411) else kU t x.s.next (i+1)
def oH (l:List Pv):Int×Nat:=if 1024<abl l then (-1,5) else kU l 0 0
def jk (x:Pv):List Nat:=[aH x.s.next,abl (cZ x.s),(zb x.bs).1.length]
def lI (l:List Pv) (i:Nat):List Nat:=abl l::(l.take i).flatMap jk
def pF (d:List Nat×Bool) (x:Pv):List Nat×Bool:=
 if (d.2||decide ((zb x.bs).2≠0)||decide (16777216<abl d.1+abl (cZ x.s)+(zb x.bs).1.length))=true then (d.1,true) else (d.1++cZ x.s++(zb x.bs).1,false)
def stA (l:List Pv):Nat→List Nat×Bool
 |0=>([],false)
 |i+1=>pF (stA l i) (l.getD i Pv.zero)
def headA (l:List Pv):List Nat:=bA ([113,97,1]++(lI l (abl l)).flatMap au)
def nH (l:List Pv):List Nat×Nat:=
 if (oH l).2≠0 then ([],(oH l).2)
 else if (stA l (abl l)).2=true∨16777216<abl (headA l)+(stA l (abl l)).1.length then ([],3)
 else (headA l++(stA l (abl l)).1,0)
def zjj (c:∀z∈l,z<256) (h:oh l=0):bV (lH l)=0∧cZ (lH l)=l:=by
 cases ho:fq l with
 |error k=>
  rw [(vE ho).1] at h
  have:=Rb ho
  omega
 | ok p =>
  by_cases h2:p.okB=true∧bV p.pY=0
  ·grind [q5r,zgh]
  ·rw [(LU ho h2).1] at h
   cases h
structure Ry (b:List Nat) (L:List Pl) (l:List Pv):Prop where
 len:abl l=abl L
 s:∀i,i<abl L→eD (lH (bS b (L.getD i Pl.zero).sn (L.getD i Pl.zero).st)) (l.getD i Pv.zero).s
 bs:∀i,i<abl L→(l.getD i Pv.zero).bs=(readAll (bS b (L.getD i Pl.zero).st (L.getD i Pl.zero).en)).1
section
variable {b:List Nat} {L:List Pl} {l:List Pv} {a:Nat}
def sJ (a:Nat) (L:List Pl) (i:Nat):Nat:=match i with
 |0=>a
 |i+1=>(L.getD i Pl.zero).en
theorem jK.at:∀{l:List Pl} {last sum s i:Nat},jK last sum l s→i<abl l→(l.getD i Pl.zero).sn=sJ sum l i∧(0<i→(l.getD (i-1) Pl.zero).nx≤(l.getD i Pl.zero).nx)∧(i=0→last≤(l.getD i Pl.zero).nx)
 |x::t,last,sum,s,0,h,_=>⟨h.1.1,λh=>absurd h (Nat.lt_irrefl 0),λ_=>h.1.2.2.2.1⟩
 | x :: t, last, sum, s, i + 1, h, hi => by
  have hi:i<abl t:=Nat.lt_of_succ_lt_succ hi
  obtain ⟨h1,h2,h3⟩:=jK.at h.2 hi
  refine ⟨?_,λ_=>?_,λh=>absurd h (Nat.succ_ne_zero i)⟩
  ·show (t.getD i Pl.zero).sn=_
   rw [h1]
   cases i with
   |zero=>rfl
   |succ i=>rfl
  ·grind
theorem jK.last:∀{l:List Pl} {last sum s:Nat},jK last sum l s→sJ sum l (abl l)=s
 |[],_,_,_,h=>h
 |x::t,last,sum,s,h=>by
  have h1:=jK.last h.2
  rw [←h1]
  cases t with
  |nil=>rfl
  |cons y t=>rfl
theorem LX (h:i<abl L):(L.map (Pl.up a)).getD i Pl.zero=(L.getD i Pl.zero).up a:=by grind
def q5w {s:Nat} (h:i≤abl L):sJ (s+a) (L.map (Pl.up a)) i=sJ s L i+a:=by
 cases i with
 |zero=>rfl
 |succ i=>show ((L.map (Pl.up a)).getD i Pl.zero).en=_;rw [LX om];rfl
def zjk (x:Pl):yC (x.up a)=yC x:=by grind [Pl.up,yC]
structure Rz (b:List Nat) (L:List Pl) (a:Nat):Prop where
 sn:∀i,i<abl L→(L.getD i Pl.zero).sn=sJ a L i∧(L.getD i Pl.zero).sn≤(L.getD i Pl.zero).st∧(L.getD i Pl.zero).st≤(L.getD i Pl.zero).en∧(L.getD i Pl.zero).en≤abl b∧(L.getD i Pl.zero).nx≤4611686018427387904
 nx:∀i,0<i→i<abl L→(L.getD (i-1) Pl.zero).nx≤(L.getD i Pl.zero).nx
 low:a≤abl b
 last:sJ a L (abl L)=abl b
 few:abl L≤1024
 head:b.take a=bA ([113,97,1]++(abl L::L.flatMap yC).flatMap au)
theorem vF.at (h:vF b L):∃a,Rz b L a:=by
 obtain ⟨l,p,s,rfl,hc,g,d,e⟩:=h.form
 have c:abl (l.map (Pl.up (p+4)))=abl l:=abu ..
 refine ⟨p+4,λi hi=>?_,λi h0 hi=>?_,by omega,?_,by rw [c];exact d,?_⟩
 ·rw [c] at hi
  have h1:=hc.at hi
  have h2:=hc.mem _ (qe Pl.zero hi)
  have h3:=q5w (a:=p+4) (s:=0) (L:=l) (i:=i) om
  grind [Pl.up,LX]
 ·rw [c] at hi
  rw [LX hi,LX om]
  exact (hc.at hi).2.1 h0
 ·have h3:=q5w (a:=p+4) (s:=0) (L:=l) (i:=abl l) (abq _)
  rw [acj] at h3
  rw [c,h3,hc.last]
  omega
 ·rw [c,e]
  have h4:(l.map (Pl.up (p+4))).flatMap yC=l.flatMap yC:=by
   rw [aeS]
   exact congrArg (λf=>l.flatMap f) (funext λx=>zjk x)
  rw [h4]
end
structure Pm where
 z:cO
 A:Option Addr
 c:Nat
 q:List Hb
def Pm.zero:Pm:=⟨vD,none,0,[]⟩
def Pm.v (p:Pm):Pv:=⟨p.z,p.q.map acZ⟩
def Pm.cells (p:Pm):Array Value:= #[.int .i64 p.z.next,.int .i64 p.z.st.ak,.int .u64 (p.z.st.aj:Int),.slice p.z.st.gA (abl p.z.st.gs) p.z.st.gc,.slice p.z.st.lA (abl p.z.st.cl) p.z.st.lc,.slice p.z.st.uA (abl p.z.st.cu) p.z.st.uc,.slice p.z.st.tA (abl p.z.st.ts) p.z.st.tc,.slice p.z.st.sA (abl p.z.st.rs) p.z.st.sc,.slice p.A (abl p.q) p.c]
def lJ (p:Pm):List Value:=p.cells.toList
def z8 (p:Pm):abl (lJ p)=9:=rfl
structure gq (w:World) (p:Pm):Prop where
 st:dZ w p.z.st
 bl:Rd w w.heap.size 5 p.A (abl p.q) (p.q.flatMap hbL)
 ev:nS w p.q
theorem gq.old {p:Pm} (h:gq W p) (a:Mem W w fs):gq w p:=⟨h.st.old a,a.old h.bl,h.ev.old a⟩
structure gK (p:Pm):Prop where
 ok:p.z.st.av.Ok
 few:bN p.z.st
 cap:eP p.z.st
 nx:aR p.z.next
 RA:∀h∈p.q,h.b.Ok
 bev:∀h∈p.q,abl h.b.evs≤1000000
 len:abl p.q≤1000000
 pc:abl p.q≤p.c
def j5 (p:Pm):List Fact:=jr p.z.st++(.row (.slice p.A (abl p.q) p.c) (abl p.q) (p.q.flatMap hbL) 85 5::gW 73 p.q)
def gG (l:List Pm):List Fact:=l.flatMap j5
section
variable {W w w':World} {F T:List Fact} {p:Pm} {l:List Pm}
theorem Mem.yD (h:Mem W w F) (hs:∀f∈j5 p,f∈F):gq w p:=
 ⟨h.Bz λf a=>hs f (adQ _ a),h.jO (hs _ (ac5 _ (acs ..))),h.N7 λf a=>hs f (ac5 _ (aci _ a))⟩
theorem Mem.zkg (h:Mem W w F) (hs:∀f∈gG l,f∈F):∀p∈l,gq w p:=λp a=>h.yD λf b=>hs f (acE.2 ⟨p,a,b⟩)
theorem q5x:gG (l++[p])=gG l++j5 p:=by unfold gG;rw [ab2];simp
end
theorem cB:SI abm 53 9:=⟨by kernel_rfl,by kernel_rfl⟩
def pG:EI abm 24 53 (.agg #[.int .i64 0,.int .i64 0,.int .u64 0,.slice none 0 0,.slice none 0 0,.slice none 0 0,.slice none 0 0,.slice none 0 0,.slice none 0 0]) 9 168:=⟨by kernel_rfl,by kernel_rfl,rfl,by omega⟩
theorem rD:SI abm 57 4:=⟨by kernel_rfl,by kernel_rfl⟩
theorem Aa:EI abm 35 57 (.agg #[.int .i64 0,.int .i64 0,.int .i64 0,.int .i64 0]) 4 32:=⟨by kernel_rfl,by kernel_rfl,rfl,by omega⟩
def zgl:SI abm 131 5:=⟨by kernel_rfl,by kernel_rfl⟩
theorem DR (p:Pm):∀v∈p.cells.toList,v.oneCell'=true:=by
 intro v a
 simp only [Pm.cells,ab0,acr,or_false] at a
 rcases a with rfl|rfl|rfl|rfl|rfl|rfl|rfl|rfl|rfl<;>rfl
def zjl (p:Pl):∀v∈p.cells.toList,v.oneCell'=true:=by
 intro v a
 simp only [Pl.cells,ab0,acr,or_false] at a
 rcases a with rfl|rfl|rfl|rfl<;>rfl
section
variable {l:List Pm} {i:Nat} {last:Int}
def zgm (h:i<abl l):kU ((l.map Pm.v).drop i) last i=if bV (l.getD i Pm.zero).z≠0 then ((i:Int),bV (l.getD i Pm.zero).z) else if fF ((l.getD i Pm.zero).q.map acZ)≠0 then ((i:Int),fF ((l.getD i Pm.zero).q.map acZ)) else if (l.getD i Pm.zero).z.next<last then ((i:Int),411) else kU ((l.map Pm.v).drop (i+1)) (l.getD i Pm.zero).z.next (i+1):=by
 rw [acn (by rw [abu];exact h),kU,afc,abo,abp h]
 rfl
theorem q5y:kU ((l.map Pm.v).drop (abl l)) last i=(-1,0):=by
 rw [adf (by rw [abu];exact abq _)]
 rfl
theorem Ab {R:Int×Nat} {v n:Int} (h:R=(v,m)) (a:n=(m:Int)) (hb:Below w.heap.size w w'):Is w (.tuple #[.int .i64 R.1,.int .i64 (R.2:Int)]) (.returned (.tuple #[.int .i64 v,.int .i64 n])) w':=by
 subst h a
 exact ⟨rfl,hb⟩
end
def qw4 (s:cO):abl (cZ s)≤6000007:=by grind [bV,Dk,O9,XO,Dl]
section
variable {l:List Pm} {lv:List Pv} {i:Nat} {x:Pm} {d wb:List Nat} {lg:Bool} {we ce:Nat} {ci:Int}
theorem RB (hi:i<abl l) (c:l.getD i Pm.zero=x) (a:stA (l.map Pm.v) i=(d,lg)) (e:zb (x.q.map acZ)=(wb,we)) (h:lg=true∨we≠0∨16777216<abl d+abl (cZ x.z)+abl wb):stA (l.map Pm.v) (i+1)=(d,true):=by grind [Pm.v,Pm.zero,Pv.zero,getD_at,stA,pF]
theorem zjm (hi:i<abl l) (c:l.getD i Pm.zero=x) (a:stA (l.map Pm.v) i=(d,lg)) (e:zb (x.q.map acZ)=(wb,we)) (h:¬(lg=true∨we≠0∨16777216<abl d+abl (cZ x.z)+abl wb)):stA (l.map Pm.v) (i+1)=(d++cZ x.z++wb,false):=by grind [Pm.v,Pm.zero,Pv.zero,getD_at,stA,pF]
def bQ (l:List Pm) (i:Nat):List Nat:=abl l::(l.take i).flatMap λp=>jk p.v
def qz3 (hi:i<abl l) (a:l.getD i Pm.zero=x) (c:zb (x.q.map acZ)=(wb,we)):bQ l (i+1)=bQ l i++[aH x.z.next,abl (cZ x.z),abl wb]:=by grind [Pm.v,Pm.zero,bQ,cZ,jk,xH,aH]
theorem q5z:bQ l (abl l)=lI (l.map Pm.v) (abl (l.map Pm.v)):=by grind [bQ,lI,aeS,abu,ada]
def G5:∀i,i≤abl l→abl (bQ l i)=1+3*i:=λi h=>by
 unfold bQ
 rw [ab1]
 have key:∀m:List Pm,abl (m.flatMap λp=>jk p.v)=3*abl m:=λm=>by
  induction m with
  |nil=>rfl
  |cons a t b=>rw [abT,abn,b,ab1];show 3+_=_;omega
 grind
def q50:0<abl ((bQ l i).flatMap au):=by grind [bQ,EP]
def zax (h:abl l≤1000000):∀i,∀x∈bQ l i,x<18446744073709551616:=λi x c=>by
 rcases ab0.1 c with rfl|c
 ·omega
 ·obtain ⟨p,_,a⟩:=acE.1 c
  have h1:=qw4 p.z
  have h2:=KA (p.q.map acZ)
  rcases ab0.1 a with rfl|a
  ·exact Bo _
  ·rcases ab0.1 a with rfl|a
   ·show abl (cZ p.z)<_;omega
   ·grind [zb]
def qz4 (h:oH lv=(ci,ce)) (a:ce≠0):nH lv=([],ce):=by unfold nH;rw [h];exact if_pos a
def qk6 (h:oH lv=(ci,ce)) (b:ce=0) (a:stA lv (abl lv)=(d,lg)) (c:lg=true∨16777216<abl (headA lv)+abl d):nH lv=([],3):=by grind [nH]
def q51 (h:oH lv=(ci,ce)) (b:ce=0) (a:stA lv (abl lv)=(d,lg)) (c:¬(lg=true∨16777216<abl (headA lv)+abl d)):nH lv=(headA lv++d,0):=by grind [nH]
end
def Ag (W:World) (d e f:Nat) (b:List Nat) (A:Option Addr) (c p:Nat) (a:Bool) (most:Nat) (fr:List Fact) (r:Ending) (g:World):Prop:=
 r= .returned (.int .i64 (dB b p most:Int))∧Mem W g (.blk d #[.slice A (abl b) c] 30:: .blk e #[.int .i64 (bg b p:Int)] 3:: .blk f #[.bool (a&&eu b p most)] 4::fr)
theorem Sq {a d:Bool} {fr:List Fact} {q:Nat} (h1:bg b p=q) (h2:(a&&eu b p most)=d)
  (e:Mem W w (.blk m #[.slice A (abl b) c] 30:: .blk g #[.int .i64 (q:Int)] 3:: .blk n #[.bool d] 4::fr)):Ag W m g n b A c p a most fr (.returned (.int .i64 (dB b p most:Int))) w:=by
 subst h1 h2
 exact ⟨rfl,e⟩
section
variable {b:List Nat} {p k last sum i K p0:Nat} {ok ok0 o1 o2 o3:Bool} {out:List Pl}
def gI (b:List Nat) (ok0:Bool) (K p0:Nat) (ok:Bool) (k p last sum:Nat) (out:List Pl):Prop:=kE b ok0 K p0 0 0=(kE b ok k p last sum).map λr=>(out++r.1,r.2)
def zgt:gI b ok0 K p0 ok0 K p0 0 0 []:=by
 unfold gI
 cases kE b ok0 K p0 0 0<;>rfl
def lK (b:List Nat) (p sum:Nat):Pl:=⟨kS b p,sum,sum+kT b p,sum+kT b p+mF b p⟩
theorem gI.step (h:gI b ok0 K p0 ok (k+1) p last sum out) (a:(((ok&&eu b p 4611686018427387904)&&eu b (bg b p) 16777216)&&eu b (bg b (bg b p)) 16777216)=true) (c:last≤kS b p):gI b ok0 K p0 true k (rowP b p) (kS b p) (sum+kT b p+mF b p) (out++[lK b p sum]):=by
 rw [adU,adU,abF] at a
 unfold gI at h⊢
 rw [h,a.1,GY,GY,jS,if_pos ⟨by unfold sI;rw [←adU];rw [←adU] at a;exact a.2,c⟩,Option.map_map]
 congr 1
 funext r
 show (out++(_::r.1),r.2)=((out++[_])++r.1,r.2)
 rw [aby]
 rfl
theorem gI.stop (h:gI b ok0 K p0 ok (k+1) p last sum out) (a:¬((((ok&&eu b p 4611686018427387904)&&eu b (bg b p) 16777216)&&eu b (bg b (bg b p)) 16777216)=true∧last≤kS b p)):kE b ok0 K p0 0 0=none:=by
 unfold gI at h
 rw [h]
 cases ok with
 |false=>rfl
 | true =>
  rw [GY,jS,if_neg]
  ·rfl
  ·rintro ⟨h1,h2⟩
   refine a ⟨?_,h2⟩
   unfold sI at h1
   rw [acz,adU]
   exact h1
theorem gI.fin (h:gI b ok0 K p0 true 0 p last sum out):kE b ok0 K p0 0 0=some (out,p,sum):=by grind [gI,GY,jS]
theorem gI.bad (h:gI b ok0 K p0 false k p last sum out):kE b ok0 K p0 0 0=none:=by
 unfold gI at h
 rw [h,q5u]
 rfl
def zgu:kS b p≤4611686018427387904:=y5 _ _
def zgv:kT b p≤16777216:=y5 _ _
def zgw:mF b p≤16777216:=y5 _ _
end
def DW (w:World) (R:List Pl×Nat) (r:Ending) (a:World):Prop:=
 (∃A c,r= .returned (.tuple #[.slice A (abl R.1) c,.int .i64 (R.2:Int)])∧a.ownsRow w.heap.size 57 4 (.slice A (abl R.1) c) (abl R.1) (R.1.flatMap jY)∧abl R.1≤c)∧Below w.heap.size w a
def yI {R:List Pl×Nat} {n:Int} (hb:Below w.heap.size w W) (a:R=([],er)) (c:n=er):DW w R (.returned (.tuple #[.slice none 0 0,.int .i64 n])) W:=by
 subst a c
 exact ⟨⟨none,0,rfl,acK _ _ _ _,abq _⟩,hb⟩
def q6f {R:List Pl×Nat} {L:List Pl} (a:R=(L,0)) (d:n=abl L) (e:W.ownsRow w.heap.size 57 4 (.slice A n c) n (L.flatMap jY)) (hc:n≤c) (hb:Below w.heap.size w W):DW w R (.returned (.tuple #[.slice A n c,.int .i64 0])) W:=by
 subst a d
 exact ⟨⟨A,c,rfl,e,hc⟩,hb⟩
def Pl.yJ (a:Nat) (x:Pl):Pl:={x with sn:=x.sn+a}
def Pl.Cv (a:Nat) (x:Pl):Pl:={x with sn:=x.sn+a,st:=x.st+a}
theorem q6g {f:Pl→Pl} {l:List Pl} (h:abl l≤k):fD f l k=l.map f:=by grind [fD,adf,abP]
def vL (W:World) (g p:Nat) (A:Option Addr) (c:Nat) (b q:List Nat) (h:Value) (fs:List Fact) (r:Ending) (d:World):Prop:=
 (∃x e f a,bF b p x e∧r= .returned (vQ x)∧abl (q++[x])≤a∧Mem W d (.blk g #[.slice A (abl b) c,vI e,.slice f (abl (q++[x])) a,h] 300:: .row (.slice f (abl (q++[x])) a) (abl (q++[x])) ((q++[x]).map bq) 41 1::fs))∨((aB (b.drop p)).2.2≠0∧kD W fs (pX fP 344) r d)
def za1 (h:(aB (b.drop p)).2.2≠0) (a:kD W fs (pX fP 344) r w):vL W g p A c b q z fs r w:= .inr ⟨h,a⟩
theorem za2 (h:bF b p x e) (hr:r= .returned (vQ x)) (hc:abl (q++[x])≤m) (hm:Mem W w (.blk g #[.slice A (abl b) c,vI e,.slice E (abl (q++[x])) m,z] 300:: .row (.slice E (abl (q++[x])) m) (abl (q++[x])) ((q++[x]).map bq) 41 1::fs)):vL W g p A c b q z fs r w:= .inl ⟨x,e,E,m,h,hr,hc,hm⟩
def qnc (W w:World) (g p:Nat) (A D:Option Addr) (c E:Nat) (b q:List Nat) (m:Value) (fs:List Fact) (I:Mem W w (.blk g #[abh A b c,vI p,abh D q E,m] 300:: abj D q E bq 41 1::fs)) (o:Rd W W.heap.size 1 A (abl b) (b.map B8)) (r:abl b≤c) (J:∀z∈b,z<256) (hb:abl b≤16777216) (F:p≤abl b) (R:abl q≤p):
    Calls abm 280 #[vP g 0] w (vL W g p A c b q m fs):=by
 refine (dV Tryz.func280 42) ?_
 refine (JC (h:=by exact λd=>I)) ?_
 have l:∃x n s,aB (b.drop p)=(x,n,s):=⟨_,_,_,rfl⟩
 obtain ⟨x,n,s,l⟩:=l
 have t:∀z∈b.drop p,z<256:=λz hz=>J z (abZ hz)
 have K:abl (b.drop p)=abl b-p:=abN
 refine (JP∘Jp 1∘Jj) λa Z d=>?_
 refine wp_seq ?_
 refine Jb Z d ((Vs .n []) λL=>(Vp [0,4]∘Vn 1∘Vf 2 0∘Vc 3 O0∘Vn 5∘Vf 6 1∘Vc 7 O0∘Vy 8 (v:= .slice (if c=p then A else A.map (·.add (p*1))) (abl b-p) (c-p)) (h:=by exact aaf aV (j:=p) rfl rfl rfl om)∘Vo (.slice (if c=p then A else A.map (·.add (p*1))) (abl (b.drop p)) (c-p)) (by rw [abN])∘VI 9 .n (h:=by exact λd=>zap l (GJ (d.old o) F r) t om)) λM N=>(Vp [10]∘Vx 11∘Vx 12∘Vx 13∘Vp [14,15,16]∘Vd∘JQ∘JP∘Jp 2∘bH∘Jj) (Jh (λf=>?_) λf=>?_))
 ·
  refine (JT∘JR) λa Z d=>?_
  refine fo Z 0 rfl rfl ?_
  exact qbv Z [vI 344] rfl (LC 344 _ (d.pt 2 [])) λS d=>Dz Z (za1 (q5g l f) ⟨rfl,d⟩)
 have u:s=0:=by omega
 subst u
 have G:=ZL F l
 refine (JF∘aD∘JP∘Jp 1∘Jn∘Jg 1 O0∘Jp 1∘Ja∘Jn∘Jf 1∘JW aT fU) λH=>(iE∘Jr∘Jp 2∘Jn∘Jg 2 O0∘Jp 1∘JU kK #[vQ x]) λO P=>(JD [bq x] 2 (λ_ _=>iM) kK (hr:=by exact λd=>d.aX (i:=0) (n:=1) (size:=1) rfl rfl) (h1:=by simp [acd,bq,B8])) λQ y B k=>(Jn∘Jf 2∘JW fU iM) λC=>(iE∘Jq) ?_
 have e:abl q+1=abl (q++[x]):=nk rfl
 rw [e] at k
 exact (JC (h:=by exact λd=>d.aY (i:=2) (ys:=(q++[x]).map bq) rfl e (by simp))∘JC (h:=by exact λd=>d.dL (i:=1) (ds:= #[abh A b c,vI (p+n:Nat),abh y (q++[x]) B,m]) rfl (by rw [e];try rfl))∘JG∘JP∘Jp 2∘l8∘Jj∘JZ∘aZ) λd=>za2 (.of l) rfl k (d.pt 3 [1,2])
def L9 (W w:World) (g p:Nat) (A d:Option Addr) (c a:Nat) (b q:List Nat) (f:Value) (fs:List Fact) (l:Mem W w (.blk g #[.slice A (abl b) c,vI p,.slice d (abl q) a,f] 300:: .row (.slice d (abl q) a) (abl q) (q.map bq) 41 1::fs)) (i:Rd W W.heap.size 1 A (abl b) (b.map B8)) (j:abl b≤c) (m:∀z∈b,z<256) (hb:abl b≤16777216) (n:p≤abl b) (o:abl q≤p) {x e:Nat} (h:bF b p x e):
  Calls abm 280 #[vP g 0] w (λr k=>r= .returned (vQ x)∧∃d a,abl (q++[x])≤a∧Mem W k (.blk g #[.slice A (abl b) c,vI e,.slice d (abl (q++[x])) a,f] 300:: .row (.slice d (abl (q++[x])) a) (abl (q++[x])) ((q++[x]).map bq) 41 1::fs)):=
 (qnc W w g p A d c a b q f fs l i j m hb n o).mono λr k h1 => by
  rcases h1 with ⟨s,e2,d,a,h2,h3,h4,h5⟩|⟨h2,_⟩
  ·obtain ⟨rfl,rfl⟩:=bF.one h h2
   exact ⟨h3,d,a,h4,h5⟩
  ·rw [h.1] at h2;exact absurd rfl h2
def Ma (W w:World) (g p:Nat) (A a:Option Addr) (c d:Nat) (b q:List Nat) (i:Value) (fs:List Fact) (j:Mem W w (.blk g #[.slice A (abl b) c,vI p,.slice a (abl q) d,i] 300:: .row (.slice a (abl q) d) (abl q) (q.map bq) 41 1::fs)) (e:Rd W W.heap.size 1 A (abl b) (b.map B8)) (f:abl b≤c) (k:∀z∈b,z<256) (hb:abl b≤16777216) (l:p≤abl b) (m:abl q≤p) (h:(aB (b.drop p)).2.2≠0):
  Calls abm 280 #[vP g 0] w (kD W fs (pX fP 344)):=
 (qnc W w g p A a c d b q i fs j e f k hb l m).mono λr n h1 => by
  rcases h1 with ⟨o,e2,a,d,h2,h3,h4,h5⟩|⟨_,h2⟩
  ·rw [h2.1] at h;exact absurd rfl h
  ·exact h2
def rF (W:World) (g p:Nat) (A:Option Addr) (c:Nat) (b q:List Nat) (i:Value) (f hi:Nat) (fs:List Fact) (r:Ending) (a:World):Prop:=
 (∃x e h d,bF b p x e∧¬(x<f∨hi<x)∧r= .returned (vI x)∧abl (q++[x])≤d∧Mem W a (.blk g #[.slice A (abl b) c,vI e,.slice h (abl (q++[x])) d,i] 300:: .row (.slice h (abl (q++[x])) d) (abl (q++[x])) ((q++[x]).map bq) 41 1::fs))∨((∃x e,bF b p x e∧(x<f∨hi<x))∧kD W fs (pX fP 345) r a)∨((aB (b.drop p)).2.2≠0∧kD W fs (pX fP 344) r a)
def za3 (h:(aB (b.drop p)).2.2≠0) (a:kD W fs (pX fP 344) r w):rF W g p A c b q z m hi fs r w:= .inr (.inr ⟨h,a⟩)
def qr0 (h:bF b p x e) (h2:x<m∨hi<x) (a:kD W fs (pX fP 345) r w):rF W g p A c b q z m hi fs r w:= .inr (.inl ⟨⟨x,e,h,h2⟩,a⟩)
def za4 (h:bF b p x e) (h2:¬(x<m∨hi<x)) (hr:r= .returned (vI x)) (hc:abl (q++[x])≤n) (hm:Mem W w (.blk g #[.slice A (abl b) c,vI e,.slice E (abl (q++[x])) n,z] 300:: .row (.slice E (abl (q++[x])) n) (abl (q++[x])) ((q++[x]).map bq) 41 1::fs)):rF W g p A c b q z m hi fs r w:= .inl ⟨x,e,E,n,h,h2,hr,hc,hm⟩
def R6 (W w:World) (g p:Nat) (A m:Option Addr) (c n:Nat) (b q:List Nat) (o:Value) (fs:List Fact) (u hi:Nat) (C:hi<9223372036854775808) (D:Mem W w (.blk g #[abh A b c,vI p,abh m q n,o] 300:: abj m q n bq 41 1::fs)) (i:Rd W W.heap.size 1 A (abl b) (b.map B8)) (j:abl b≤c) (r:∀z∈b,z<256) (hb:abl b≤16777216) (v:p≤abl b) (y:abl q≤p):
    Calls abm 281 #[vP g 0,vQ u,vQ hi] w (rF W g p A c b q o u hi fs):=by
 refine (xD Tryz.func281 21) ?_
 refine (JC (h:=by exact λd=>D)∘JP∘Jp 1∘Jj∘JQ) λa Z d=>?_
 rcases DF b p with f|⟨x,e,f⟩
 ·
  refine Jb Z d ((JR∘Jp 1) λa Z d=>?_)
  refine fo Z 1 rfl rfl ?_
  exact qbv Z [vP g 0] rfl (Ma W _ g p A m c n b q o _ (d.pt 2 [0,1]) i j r hb v y f) λB d=>Dz Z (za3 f ⟨rfl,(d)⟩)
 ·
  have E:=f.lt r
  refine Jb Z d ((JR∘Jp 1∘JL (h:=by exact λd=>L9 W _ g p A m c n b q o _ (d.pt 2 [0,1]) i j r hb v y f)) ?_)
  rintro d _ F ⟨rfl,G,H,s,t⟩
  refine ⟨_,rfl,_,t,?_⟩
  refine (Jp 1∘bH∘Jj∘JQ∘JP∘Jp 4) (Ji (λk=>?_) λk=>?_)
  ·
   refine (Jp 4∘aG∘Jj∘JT∘JR) λa Z d=>?_
   refine fo Z 0 rfl rfl ?_
   exact qbv Z [vI 345] rfl (LC 345 _ (d.pt 2 [])) λB d=>Dz Z (qr0 f (.inl om) ⟨rfl,d⟩)
  refine (Jp 4∘aG∘Jj) (Ji (λl=>?_) λl=>?_)
  ·
   refine (JT∘JR) λa Z d=>?_
   refine fo Z 0 rfl rfl ?_
   exact qbv Z [vI 345] rfl (LC 345 _ (d.pt 2 [])) λB d=>Dz Z (qr0 f (.inr om) ⟨rfl,d⟩)
  exact (JF∘aD∘JP∘Jp 1∘Jw .i64∘Jp 1∘bH∘Jj∘JZ∘aZ) λd=>za4 f om rfl s (d.pt 2 [0,1])
def Mc (W w:World) (g p:Nat) (A d:Option Addr) (c a:Nat) (b q:List Nat) (f:Value) (fs:List Fact) (i hi:Nat) (j:hi<9223372036854775808) (n:Mem W w (.blk g #[.slice A (abl b) c,vI p,.slice d (abl q) a,f] 300:: .row (.slice d (abl q) a) (abl q) (q.map bq) 41 1::fs)) (k:Rd W W.heap.size 1 A (abl b) (b.map B8)) (l:abl b≤c) (o:∀z∈b,z<256) (hb:abl b≤16777216) (s:p≤abl b) (t:abl q≤p) {x e:Nat} (h:bF b p x e) (u:¬(x<i∨hi<x)):
  Calls abm 281 #[vP g 0,vQ i,vQ hi] w (λr m=>r= .returned (vI x)∧∃d a,abl (q++[x])≤a∧Mem W m (.blk g #[.slice A (abl b) c,vI e,.slice d (abl (q++[x])) a,f] 300:: .row (.slice d (abl (q++[x])) a) (abl (q++[x])) ((q++[x]).map bq) 41 1::fs)):=
 (R6 W w g p A d c a b q f fs i hi j n k l o hb s t).mono λr m h1 => by
  rcases h1 with ⟨v,e2,d,a,h2,_,h3,h4,h5⟩|⟨⟨v,e2,h2,h3⟩,_⟩|⟨h2,_⟩
  ·obtain ⟨rfl,rfl⟩:=bF.one h h2
   exact ⟨h3,d,a,h4,h5⟩
  ·obtain ⟨rfl,rfl⟩:=bF.one h h2
   exact absurd h3 u
  ·rw [h.1] at h2;exact absurd rfl h2
def R7 (W w:World) (g p:Nat) (A a:Option Addr) (c d:Nat) (b q:List Nat) (l:Value) (fs:List Fact) (f hi:Nat) (i:hi<9223372036854775808) (m:Mem W w (.blk g #[.slice A (abl b) c,vI p,.slice a (abl q) d,l] 300:: .row (.slice a (abl q) d) (abl q) (q.map bq) 41 1::fs)) (j:Rd W W.heap.size 1 A (abl b) (b.map B8)) (k:abl b≤c) (n:∀z∈b,z<256) (hb:abl b≤16777216) (o:p≤abl b) (s:abl q≤p) {x e:Nat} (h:bF b p x e) (t:x<f∨hi<x):
  Calls abm 281 #[vP g 0,vQ f,vQ hi] w (kD W fs (pX fP 345)):=
 (R6 W w g p A a c d b q l fs f hi i m j k n hb o s).mono λr u h1 => by
  rcases h1 with ⟨v,e2,a,d,h2,h3,_⟩|⟨_,h2⟩|⟨h2,_⟩
  ·obtain ⟨rfl,rfl⟩:=bF.one h h2
   exact absurd t h3
  ·exact h2
  ·rw [h.1] at h2;exact absurd rfl h2
def R8 (W w:World) (g p:Nat) (A a:Option Addr) (c d:Nat) (b q:List Nat) (j:Value) (fs:List Fact) (k hi:Nat) (e:hi<9223372036854775808) (l:Mem W w (.blk g #[.slice A (abl b) c,vI p,.slice a (abl q) d,j] 300:: .row (.slice a (abl q) d) (abl q) (q.map bq) 41 1::fs)) (f:Rd W W.heap.size 1 A (abl b) (b.map B8)) (i:abl b≤c) (m:∀z∈b,z<256) (hb:abl b≤16777216) (n:p≤abl b) (o:abl q≤p) (h:(aB (b.drop p)).2.2≠0):
  Calls abm 281 #[vP g 0,vQ k,vQ hi] w (kD W fs (pX fP 344)):=
 (R6 W w g p A a c d b q j fs k hi e l f i m hb n o).mono λr t h1 => by
  rcases h1 with ⟨s,e2,a,d,h2,_⟩|⟨⟨s,e2,h2,_⟩,_⟩|⟨_,h2⟩
  ·rw [h2.1] at h;exact absurd rfl h
  ·rw [h2.1] at h;exact absurd rfl h
  ·exact h2
def R9 (W:World) (g p:Nat) (A:Option Addr) (c:Nat) (b q:List Nat) (h:Value) (n:Nat) (fs:List Fact) (r:Ending) (d:World):Prop:=
 (∃xs e f a,kJ b n p xs e∧r= .returned (.tuple #[])∧abl (q++xs)≤a∧Mem W d (.blk g #[.slice A (abl b) c,vI e,.slice f (abl (q++xs)) a,h] 300:: .row (.slice f (abl (q++xs)) a) (abl (q++xs)) ((q++xs).map bq) 41 1::fs))∨((bD n (b.drop p)).2.2≠0∧kD W fs (pX fP 344) r d)
theorem q58 (h:(bD n (b.drop p)).2.2≠0) (a:kD W fs (pX fP 344) r w):R9 W g p A c b q z n fs r w:= .inr ⟨h,a⟩
def q59 (h:kJ b n p xs e) (hr:r= .returned (.tuple #[])) (hc:abl (q++xs)≤m) (hm:Mem W w (.blk g #[.slice A (abl b) c,vI e,.slice E (abl (q++xs)) m,z] 300:: .row (.slice E (abl (q++xs)) m) (abl (q++xs)) ((q++xs).map bq) 41 1::fs)):R9 W g p A c b q z n fs r w:= .inl ⟨xs,e,E,m,h,hr,hc,hm⟩
def qw9 (W w:World) (g p:Nat) (A i:Option Addr) (c f:Nat) (b q:List Nat) (o:Value) (fs:List Fact) (n:Nat) (F:n≤1000000) (l:abl q≤f) (G:Mem W w (.blk g #[abh A b c,vI p,abh i q f,o] 300:: abj i q f bq 41 1::fs)) (r:Rd W W.heap.size 1 A (abl b) (b.map B8)) (s:abl b≤c) (C:∀z∈b,z<256) (hb:abl b≤16777216) (H:p≤abl b) (N:abl q≤p):
    Calls abm 282 #[vP g 0,vI n] w (R9 W g p A c b q o n fs):=by
 refine (iX Tryz.func282 10) ?_
 refine (JC (h:=by exact λd=>G)∘JP∘Jp 2∘Jq) λa Z d=>?_
 rw [←abU q] at d
 refine Jb Z d ((JG∘JB) λa Z d=>?_)
 refine qg (λD I J=>∃(k:Nat) (xs:List Nat) (e:Nat) (i:Option Addr) (f:Nat),(kJ b k p xs e)∧(k≤n)∧(abl (q++xs)≤f)∧D=n-k∧Fr I 10 [] [(0,vP g 0),(4,vI n),(5,vI k)]∧Mem W J (.blk g #[abh A b c,vI e,abh i (q++xs) f,o] 300:: abj i (q++xs) f bq 41 1::fs)) (m:=n-0) ⟨0,[],p,i,f,kJ.nil b p,abw _,(by rw [abU];exact l),rfl,Z.sub kr,d.pt 2 [0,1]⟩ ?_
 clear Z d;rintro D a O ⟨k,xs,e,i,f,j,K,l,rfl,Z,d⟩
 have E:=j.in H
 refine Jb Z d ((JP∘Jp 1∘Jj∘JQ) (Ji (λv=>?_) λv=>?_))
 ·
  refine (JT∘aD∘JQ∘JB) ?_
  have t:k<n:=by omega
  intro a Z d
  rcases DF b e with u|⟨x,e2,u⟩
  ·
   refine Jb Z d ((JR∘Jp 1) λa Z d=>?_)
   refine fo Z 1 rfl rfl ?_
   exact qbv Z [vP g 0] rfl (Ma W _ g e A i c f b (q++xs) o _ (d.pt 2 [0,1]) r s C hb om (by rw [abn];omega) u) λP d=>Dz Z (q58 (j.stuck t u) ⟨rfl,d⟩)
  ·
   refine Jb Z d ((JR∘Jp 1∘JL (h:=by exact λd=>L9 W _ g e A i c f b (q++xs) o _ (d.pt 2 [0,1]) r s C hb om (by rw [abn];omega) u)) ?_)
   rintro d _ Q ⟨rfl,L,M,y,B⟩
   refine ⟨_,rfl,_,B,?_⟩
   refine (mI∘Jq) λa Z d=>?_
   rw [aby] at d
   refine Jb Z d ((JG∘JR∘bT 1∘Jp 1∘aK∘Jq) λa Z d=>?_)
   exact ⟨_,om,k+1,(xs++[x]),e2,L,M,j.snoc u,t,(by rwa [aby] at y),rfl,Z.sub kr,d.pt 2 [0,1]⟩
 refine (JF∘JX) ?_
 obtain rfl:k=n:=by omega
 intro a Z d
 exact gM rfl Z (q59 j rfl l d)
theorem Hr (W w:World) (g p:Nat) (A d:Option Addr) (c a:Nat) (b q:List Nat) (f:Value) (fs:List Fact) (n:Nat) (i:n≤1000000) (j:abl q≤a) (o:Mem W w (.blk g #[.slice A (abl b) c,vI p,.slice d (abl q) a,f] 300:: .row (.slice d (abl q) a) (abl q) (q.map bq) 41 1::fs)) (k:Rd W W.heap.size 1 A (abl b) (b.map B8)) (l:abl b≤c) (s:∀z∈b,z<256) (hb:abl b≤16777216) (t:p≤abl b) (u:abl q≤p) {xs:List Nat} {e:Nat} (h:kJ b n p xs e):
  Calls abm 282 #[vP g 0,vI n] w (λr m=>r= .returned (.tuple #[])∧∃d a,abl (q++xs)≤a∧Mem W m (.blk g #[.slice A (abl b) c,vI e,.slice d (abl (q++xs)) a,f] 300:: .row (.slice d (abl (q++xs)) a) (abl (q++xs)) ((q++xs).map bq) 41 1::fs)):=
 (qw9 W w g p A d c a b q f fs n i j o k l s hb t u).mono λr m h1 => by
  rcases h1 with ⟨v,e2,d,a,h2,h3,h4,h5⟩|⟨h2,_⟩
  ·obtain ⟨rfl,rfl⟩:=kJ.one h h2
   exact ⟨h3,d,a,h4,h5⟩
  ·rw [h.1] at h2;exact absurd rfl h2
def Ht (W w:World) (g p:Nat) (A d:Option Addr) (c a:Nat) (b q:List Nat) (k:Value) (fs:List Fact) (n:Nat) (e:n≤1000000) (f:abl q≤a) (l:Mem W w (.blk g #[.slice A (abl b) c,vI p,.slice d (abl q) a,k] 300:: .row (.slice d (abl q) a) (abl q) (q.map bq) 41 1::fs)) (i:Rd W W.heap.size 1 A (abl b) (b.map B8)) (j:abl b≤c) (m:∀z∈b,z<256) (hb:abl b≤16777216) (o:p≤abl b) (s:abl q≤p) (h:(bD n (b.drop p)).2.2≠0):
  Calls abm 282 #[vP g 0,vI n] w (kD W fs (pX fP 344)):=
 (qw9 W w g p A d c a b q k fs n e f l i j m hb o s).mono λr t h1 => by
  rcases h1 with ⟨u,e2,d,a,h2,h3,h4,h5⟩|⟨_,h2⟩
  ·rw [h2.1] at h;exact absurd rfl h
  ·exact h2
def zjp (W w:World) (g p:Nat) (u y:Value) (q:Option Addr) (sc:Nat) (l:List jl) (nm:ByteArray) (fs:List Fact) (D:Mem W w (.blk g #[u,vI p,y,abh q l sc] 300:: abk q l sc gF 435 3::fs)) (E:abl l≤1000):
    Calls abm 279 #[vP g 0,.string nm] w (λr F=>r= .returned (.tuple #[])∧∃q sc,abl (l++[(⟨nm,kR l,p⟩:jl)])≤sc∧Mem W F (.blk g #[u,vI p,y,.slice q (abl (l++[(⟨nm,kR l,p⟩:jl)])) sc] 300:: .row (.slice q (abl (l++[(⟨nm,kR l,p⟩:jl)])) sc) (abl (l++[(⟨nm,kR l,p⟩:jl)])) ((l++[(⟨nm,kR l,p⟩:jl)]).flatMap gF) 435 3::fs)):=by
 refine (iX Tryz.func279 38) ?_
 refine (JC (h:=by exact λb=>D)∘JP∘Jp 1∘Jj∘JQ∘JP∘Jp 1∘Jn∘Jg 3 O0∘Jl∘Jp 1∘gu∘Jr∘Jp 2∘aK∘Jj) (Ji (λs=>?_) λs=>?_)
 ·
  refine (JT∘JR∘Jp 1∘Jn∘Jg 3 O0∘Jp 1∘yX 1) ?_
  repeat (first|clear Z|clear b)
  intro a Z b
  obtain ⟨G,rfl⟩:=b.rat 1 (abl l-1)
  refine Jb Z b ((l9 (abl l-1) 3∘Jf 2∘Jy (v:=vI ((l.getD (abl l-1) jl.zero).to)) (h:=by exact Pd rfl rfl kr (λ_ h=>h.qq q86 (i:=1) rfl (k:=(abl l-1)) (off:=2) (x:=(l.getD (abl l-1) jl.zero)) ((getD_at jl.zero om)) rfl))∘Jo (vI (kR l)) (by exact rfl)∘Jp 1∘aG∘Jj∘Vs (.t (.f .n)) [16]) λz=>(Vp [0,1,5,6,7]∘Vn 2∘Vf 3 3∘Vc 4 O0∘Vn 8∘Vf 9 1∘Vc 10 O0∘Vy 11 (v:= .agg #[.string nm,vI (kR l),vI p]) (h:=by exact Yl.build (vs:=[(0,.string nm),(1,vI (kR l)),(2,vI p)]) rfl kr kr)) λa Z b m=>?_)
  refine s_on Z 12 rfl (iT Z b L8 [(0,.agg #[.string nm,vI (kR l),vI p])] #[.string nm,vI (kR l),vI p] ?_)
  clear Z b;intro a A B Z b
  refine ay (b.pt 3 [1]) (λm=>?_)
  refine s_on Z 13 rfl (p9 Z b (i:=2) rfl L8 rfl rfl rfl (news:=([(⟨nm,kR l,p⟩:jl)].flatMap gF)) (b.aX (i:=0) (n:=1) (size:=3) rfl rfl) (XP _) om om rfl de ?_)
  clear Z b;intro a C e j Z b d
  refine ay (b.pt 3 [1]) (λm=>?_)
  refine Vb Z b m ((Vn 14∘Vf 15 3) λa Z b m=>?_)
  refine s_on Z 16 rfl (fE Z b 1 λo b=>?_)
  refine dJ kr ?_
  refine qd kr ?_
  have c:abl l+1=abl (l++[(⟨nm,kR l,p⟩:jl)]):=nk rfl
  rw [c] at d
  replace b:=b.aY (i:=2) (ys:=(l++[(⟨nm,kR l,p⟩:jl)]).flatMap gF) rfl c (List.flatMap_append.symm)
  replace Z:=Z.sp 35 (abh e (l++[(⟨nm,kR l,p⟩:jl)]) j) rfl (iy c)
  replace b:=b.dL (i:=1) (ds:= #[u,vI p,y,abh e (l++[(⟨nm,kR l,p⟩:jl)]) j]) rfl (by rw [c];try rfl)
  exact gM rfl Z ⟨rfl,e,j,d,b.pt 3 [1,2]⟩
 intro a Z b
 replace Z:=Z.sp 4 (vI (kR l)) rfl (by rw [zan (l:=l) om];rfl)
 refine Jb Z b ((JF∘aD∘Vs (.t (.f .n)) [16]) λz=>(Vp [0,1,5,6,7]∘Vn 2∘Vf 3 3∘Vc 4 O0∘Vn 8∘Vf 9 1∘Vc 10 O0∘Vy 11 (v:= .agg #[.string nm,vI (kR l),vI p]) (h:=by exact Yl.build (vs:=[(0,.string nm),(1,vI (kR l)),(2,vI p)]) rfl kr kr)) λa Z b m=>?_)
 refine s_on Z 12 rfl (iT Z b L8 [(0,.agg #[.string nm,vI (kR l),vI p])] #[.string nm,vI (kR l),vI p] ?_)
 clear Z b;intro a A B Z b
 refine ay (b.pt 3 [1]) (λm=>?_)
 refine s_on Z 13 rfl (p9 Z b (i:=2) rfl L8 rfl rfl rfl (news:=([(⟨nm,kR l,p⟩:jl)].flatMap gF)) (b.aX (i:=0) (n:=1) (size:=3) rfl rfl) (XP _) om om rfl de ?_)
 clear Z b;intro a C e j Z b d
 refine ay (b.pt 3 [1]) (λm=>?_)
 refine Vb Z b m ((Vn 14∘Vf 15 3) λa Z b m=>?_)
 refine s_on Z 16 rfl (fE Z b 1 λo b=>?_)
 refine dJ kr ?_
 refine qd kr ?_
 have c:abl l+1=abl (l++[(⟨nm,kR l,p⟩:jl)]):=nk rfl
 rw [c] at d
 replace b:=b.aY (i:=2) (ys:=(l++[(⟨nm,kR l,p⟩:jl)]).flatMap gF) rfl c (List.flatMap_append.symm)
 replace Z:=Z.sp 35 (abh e (l++[(⟨nm,kR l,p⟩:jl)]) j) rfl (iy c)
 replace b:=b.dL (i:=1) (ds:= #[u,vI p,y,abh e (l++[(⟨nm,kR l,p⟩:jl)]) j]) rfl (by rw [c];try rfl)
 exact gM rfl Z ⟨rfl,e,j,d,b.pt 3 [1,2]⟩
end Go.Proofs.YtekiimhdnigmcaaGreatDoor
