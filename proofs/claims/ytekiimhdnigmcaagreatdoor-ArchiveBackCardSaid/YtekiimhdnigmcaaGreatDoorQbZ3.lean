/- Parts. -/
import Derived.Laws.StructEq
import Derived.Test.YtekiimhdnigmcaaGreatDoorRows
import Derived.Test.YtekiimhdnigmcaaGreatDoorQbZ2
set_option linter.all false
set_option maxRecDepth 100000
set_option maxHeartbeats 1000000
namespace Go.Proofs.YtekiimhdnigmcaaGreatDoor
open Go.RowKit
open Go renaming World→aiM,Value→aiN,Program→aiO,TypeId→aiP,Ending→aiQ,Operand→aiR,Oper→aiS
open List renaming length→abo
open _root_.Go.Proofs.Tryz renaming prog→abp
open _root_.List renaming length_append→abq,getElem?_eq_getElem→abr,getD_eq_getElem?_getD→abt,append_assoc→abv,length_map→abw,length_take→abx,replicate→abD,length_drop→abE,mem_of_getElem?→abJ,take_of_length_le→abL,append_nil→abM,flatMap_cons→abR,mem_of_mem_drop→abU,length_cons→abV,mem_cons→abY,map_append→abZ,flatMap_append→ab1,mem_map→ab7,all_eq_true→ace,mem_append→acg,mem_cons_self→acj,range→aco,eq_nil_of_length_eq_zero→acu,drop_eq_getElem_cons→acz,getElem?_map→acM,drop_drop→acN,nil_append→acZ,drop_eq_nil_of_le→ac6,map_nil→adF,getElem?_drop→adL,take_add_one→adM,length_nil→aeh,cons_append→aei,mem_range→aeS,length_singleton→ae6,getElem?_cons_zero→afZ,flatMap_singleton→af6,all_append→agU
open Nat renaming le_refl→abu,zero_le→abz,lt_or_ge→ab6,zero_add→aci,add_zero→acK,mul_one→ac0,add_sub_cancel→adr,succ_mul→adI,mod_lt→ad1,add_comm→ae7,mul_succ→ae9,pow_succ→agP
open _root_.ByteArray renaming mk→aby
open Result renaming andThen_ok→abA
open Bool renaming and_eq_true→abG,eq_iff_iff→ab3,true_and→acn,not_eq_true'→acL,not_eq_false'→aec,not_eq_true→agK
open Sem renaming run_bind→abI,run_pure→abS
open Value renaming bool→abN,int→abT
open Fence renaming wide→acf
open _root_.Array renaming length_toList→acA
open World renaming ownsRow_nil→acH,cell?→aef,block_lt_of_cell?→aeA,var?_cell→agL
open Addr renaming add_mid→acI
open Op renaming equal→adg
open IntKind renaming wrap_u64→adX,u32→af2
open Lib renaming array_elem→ahd
variable {l R:List Nat} {m i x k c n g er B:Nat} {w W w':aiM} {A:aiW} {t:aiP} {fs:List aiX} {e:Ev} {P:aiO}
abbrev ais:=λa b=>((43,.bool false)::(40,.bool false)::(2,.bool false)::(1,vP a 0)::b:List (Nat×aiN))
abbrev aiG:Array aiN:=#[vI 0,vI 0,vI 0,vI 0,vQ 0,.bool false,vQ 0,vW 0]
def q1i (x:aF) (U:x.ay.Ok) (K:cK x) (w:aiM) (L:fA w x):
    Calls abp 160 #[.agg x.cells] w (Is w (.bool (nQ x.ay))):=by
 have hfs:=K.s;have hft:=K.t;have hfg:=K.g;have hfl:=K.l;have hfu:=K.u
 refine (fE Tryz.func160 123) ?_
 refine (JP∘JE) λw1 g1=>(bM 1∘JQ∘JP∘Jf 0∘Jy (v:= .agg #[vI x.au,vQ x.aj,abl x.gA x.gs x.gc]) (h:=by exact Pe rfl rfl yV rfl (λ_ h=>h.sub (i:=0) rfl 0 rfl))∘JI (h:=by exact λb=>qfy x U K _ (L.old b))) λuM B=>(Jp 2) (Ju (λC=>?_) λC=>?_)
 ·
  exact (Jv 27 [(40,.bool true)]∘lq∘Jj∘JT∘bE 1∘aW) λb=>dw (znj (by simpa using C)).symm b.below
 have hcf:gK x.ay=true:=by simpa using C
 obtain ⟨hc1,hc2,hc3,hgs⟩:=mM hcf
 have hcp:1<=x.au/\x.au<=64:=⟨hc1,hc2⟩
 refine (Jg 3 O0∘Jl∘Jf 0∘Jg 0 O0∘Jp 3) (Jh (λRO=>?_) λRO=>?_)
 ·
  exact (Jv 18 [(40,.bool true)]∘aJ∘Jj∘JT∘bE 1∘aW) λb=>dw (RD om).symm b.below
 refine (Jg 4 O0∘Jl∘Jf 0∘Jg 0 O0∘Jp 3) (Jh (λhd31=>?_) λhd31=>?_)
 ·
  exact (Jv 9 [(40,.bool true)]∘aJ∘Jj∘JT∘bE 1∘aW) λb=>dw (RD om).symm b.below
 refine (Jg 6 O0∘Jl∘Jf 0∘Jg 2 O0∘Jl∘Jp 2∘aJ∘Jj) (Jh (λCZ=>?_) λCZ=>?_)
 ·
  exact (JT∘bE 1∘aW) λb=>dw (RD om).symm b.below
 refine (aQ∘JQ∘JP∘Jg 3 O0∘JI (h:=by exact λb=>qnj x.lA x.lc x.cl _ (b.old L.l) K.l)) λw43 B=>(aL∘Jj) (Ju (λD=>?_) λD=>?_)
 ·
  exact (JT∘bE 1∘aW) λb=>dw (Hu (by simpa using D)).symm b.below
 have hcl:iH (abo x.cl) (λc=>iQ (x.cl.getD c 0))=true:=by simpa using D
 refine (aQ∘JQ∘JP∘Jg 6 O0∘Jl∘bM 1∘JB) λa Z b=>?_
 refine qg (λQ M N=>∃(g:Nat),(g<=abo x.rs)/\(gJ g (rowOk x.ay))/\Q=abo x.rs-g/\Fr M 123 [] (ahY 47 g 46 (abo x.rs) ((45,abl x.sA x.rs x.sc)::ais g1 []))/\Mem w N [.blk g1 x.cells 48]) (m:=abo x.rs-0) ⟨0,abz _,gJ.zero,rfl,Z.sub kr,b.pk [0]⟩ ?_
 clear Z b;rintro Q a w_ ⟨g,hg,hu,rfl,Z,b⟩
 refine Jb Z b ((dh 1∘JQ) (Ji (λRP=>?_) λRP=>?_))
 ·
  have d:g<abo x.rs:=by omega
  obtain ⟨y,O⟩:∃z,x.rs.getD g Rw.zero=z:=⟨_,rfl⟩
  have sN:Rd w w.heap.size 3 y.A (abo y.l) (y.l.flatMap jc):=by rw [<-O];exact L.row d
  have hyl:abo y.l<=1000000:=by rw [<-O];exact K.r _ (qf Rw.zero d)
  have nK:∀z∈y.l,z.Ok:=by rw [<-O,<-kC d];exact U.sp _ (qf [] (by rw [lJ];exact d))
  obtain ⟨wt,E⟩:∃z,(x.gs.getD g Gr.zero).weight=z:=⟨_,rfl⟩
  have hw1:=qI hgs (show g<abo x.gs by omega)
  rw [E] at hw1
  obtain ⟨Ib,Ic,hq1,_⟩:=Rd.sat L.g g
  have R:=L.g;rw [hq1] at R
  refine (eY∘aM 1) ?_
  obtain ⟨V,W,X,_⟩:=Rd.sat L.s g
  have S:=L.s;rw [X] at S
  refine (Jk 45 (.slice (some ⟨V,W,none⟩) (abo x.rs) x.sc) (h:=by rw [X];try rfl)∘iC g 1∘Jy (v:= .slice ((x.rs.getD g Rw.zero).A) ((x.rs.getD g Rw.zero).l.length) ((x.rs.getD g Rw.zero).c)) (h:=by exact aad S g Rw.zero (by first|omega|(simp;omega)) rfl rfl)∘Jo (.slice y.A (abo y.l) y.c) (by rw [O])∘bM 2∘bN 1∘Jl∘Jf 0∘Jg 0 O0∘Jp 1∘fJ∘Jj) (Jh (λC8=>?_) λC8=>?_)
  ·
   exact (JT∘bE 1∘aW) λb=>dw (ZY d (zji d (by rw [O];omega))).symm b.below
  refine (aQ∘aM 1∘Jl∘bM 1∘JB) λa Z b=>?_
  refine qg (λQ M N=>∃(c:Nat),(c<=abo y.l)/\(gJ c (λc=>eZ x.ay g (y.l.getD c Sp.zero)))/\Q=abo y.l-c/\Fr M 123 [] (ahY 60 c 59 (abo y.l) ((58,abl y.A y.l y.c)::(57,.bool false)::(4,abl y.A y.l y.c)::(3,vI g)::(45,abl (some ⟨V,W,none⟩) x.rs x.sc)::(48,.bool true)::ahY 47 g 46 (abo x.rs) (ais g1 [])))/\Mem w N [.blk g1 x.cells 48]) (m:=abo y.l-0) ⟨0,abz _,gJ.zero,rfl,Z.sub kr,b.pk [0]⟩ ?_
  clear Z b;rintro Q a w_ ⟨c,hc,hu2,rfl,Z,b⟩
  refine Jb Z b ((dh 1∘JQ) (Ji (λC9=>?_) λC9=>?_))
  ·
   have F:c<abo y.l:=by omega
   obtain ⟨z,hz⟩:∃q,y.l.getD c Sp.zero=q:=⟨_,rfl⟩
   have Y:=nK _ (qf Sp.zero F)
   rw [hz] at Y
   have hzv:=Y.v;have hzr:=Y.r
   refine (eY∘JP) ?_
   obtain ⟨Da,Db,hq3,_⟩:=Rd.sat sN c
   have T:=sN;rw [hq3] at T
   refine (Jk 58 (.slice (some ⟨Da,Db,none⟩) (abo y.l) y.c) (h:=by rw [hq3];try rfl)∘iC c 3∘qD Sp.cells yU T lY c Sp.zero (hk:=F)∘Jo (.agg z.cells) (by rw [hz])∘JA #[vQ 0,vW 0,vQ 0]) λw6 g6=>(JV lY aO (h1:=by exact ZU z)) λIe=>(bU∘Jj) λa Z b=>?_
   refine qy (λM N=>Fr M 123 [] ((91,.bool (!eZ x.ay g z))::(6,vP g6 0)::(58,abl (some ⟨Da,Db,none⟩) y.l y.c)::(61,.bool true)::ahY 60 c 59 (abo y.l) ((57,.bool false)::(4,abl y.A y.l y.c)::(3,vI g)::(45,abl (some ⟨V,W,none⟩) x.rs x.sc)::(48,.bool true)::ahY 47 g 46 (abo x.rs) (ais g1 [])))/\Mem w N [.blk g6 z.cells 200,.blk g1 x.cells 48]) ?_ ?_
   ·
    refine Jb Z b ((Vs .n []) λIg=>(Vf 0 0∘Vf 2 1∘Vf 4 0∘Vf 5 2∘Vp [7]∘Vc 1 O0∘Vc 3 O0∘Vc 6 O1) λa Z b e=>?_)
    replace Z:=Z.sp 70 (abl (some ⟨Ib,Ic,none⟩) x.gs x.gc) rfl (by rw [hq1];try rfl)
    refine Vb Z b e ((oq 8 g 2∘Vf 9 1∘Gd 10 pR R 1 g Gr.zero∘Vo (vI wt) (by rw [E])∘VI 11 .n (h:=by exact λb=>zg z.v z.r wt om _)) λw75 B=>(VI 12 .n (h:=by exact λb=>RN z.v z.r wt om om om _)) λw76 B=>(Vp [13,14]) λa Z b e=>?_)
    rcases Z.tf 78 rfl with ⟨p,Z⟩|⟨p,Z⟩
    ·
     refine Vb Z b e ((Vq [15,16,17,18,19,20,21,22,23,24,25,26,27] [(91,.bool true)]∘Vd∘aJ) λa Z b=>?_)
     have Z:=Z.sp 91 (.bool (!eZ x.ay g z)) rfl (congrArg abN (by rw [znl (by rw [E];simpa using p)];rfl))
     exact ⟨Z.sub kr,b.pk [0,1]⟩
    refine ap Z (λ_=>e) [15,16,17] (bt 28 [18,19,20,21,22,23,24,25,26,27]) [(81,.bool ((g:Int)==(0:Int)))] λa Z=>?_
    refine Jb Z b (Je (λCK=>?_) λCK=>?_)
    ·
     intro a Z b
     refine ap Z (λ_=>e) [18] (bt 28 [19,20,21,22,23,24,25,26,27]) [(82,vP g6 0)] λa Z=>?_
     refine dH Z e 19 0 (v:=vQ z.v) λa Z=>?_
     refine ap Z (λ_=>e) [20,21] (bt 28 [22,23,24,25,26,27]) [(85,.bool ((z.v:Int) !=(0:Int)))] λa Z=>?_
     refine Jb Z b (Jh (λRQ=>?_) λRQ=>?_)
     ·
      intro a Z b
      refine ap Z (λ_=>e) [22,23,24,25,26,27] (bt 28 []) [(91,.bool true)] λa Z=>?_
      refine qe kr ?_
      have Z:=Z.sp 91 (.bool (!eZ x.ay g z)) rfl (congrArg abN (by rw [znm om om];rfl))
      exact ⟨Z.sub kr,b.pk [0,1]⟩
     intro a Z b
     refine ap Z (λ_=>e) [22] (bt 28 [23,24,25,26,27]) [(86,vP g6 1)] λa Z=>?_
     refine dH Z e 23 0 (v:=vW z.r) λa Z=>?_
     refine ap Z (λ_=>e) [24,25,26,27] (bt 28 []) [(91,.bool ((z.r:Int) !=(0:Int)))] λa Z=>?_
     refine qe kr ?_
     have Z:=Z.sp 91 (.bool (!eZ x.ay g z)) rfl (congrArg abN (zjl (by rw [E];simpa using p) om om))
     exact ⟨Z.sub kr,b.pk [0,1]⟩
    intro a Z b
    refine ap Z (λ_=>e) [18,19,20,21,22,23,24,25,26,27] (bt 28 []) [(91,.bool false)] λa Z=>?_
    refine qe kr ?_
    have Z:=Z.sp 91 (.bool (!eZ x.ay g z)) rfl (congrArg abN (by rw [zjk (by rw [E];simpa using p) om];rfl))
    exact ⟨Z.sub kr,b.pk [0,1]⟩
   clear Z b;rintro a vH ⟨Z,b⟩
   refine Jb Z b (Ju (λG=>?_) λG=>?_)
   ·
    exact (JT∘bE 1∘aW) λb=>dw (ZY d (zjj d (by rw [O];exact F) (by rw [O,hz];simpa using G))).symm b.below
   refine (aQ∘JR∘dA 1∘Jp 1∘aL∘Jq) λa Z b=>?_
   replace Z:=Z.sp 58 (abl y.A y.l y.c) rfl (by rw [hq3])
   exact ⟨_,om,c+1,by omega,hu2.succ (by rw [hz];simpa using G),rfl,Z.sub kr,b.pk [1]⟩
  refine (JF∘JX∘JG∘JR∘dA 1∘Jp 1∘aL∘Jq) λa Z b=>?_
  replace Z:=Z.sp 45 (abl x.sA x.rs x.sc) rfl (by rw [X])
  exact ⟨_,om,g+1,by omega,hu.succ (Z0 d (by rw [O];omega) (by rw [O];exact λi hi=>hu2 i om)),rfl,Z.sub kr,b.pk [0]⟩
 refine (JF∘JX∘JG∘JQ∘JP∘Jg 5 O0∘Jl∘bM 1∘JB) λa Z b=>?_
 refine qg (λQ M N=>∃(i:Nat),(i<=abo x.ts)/\(gJ i (jr x.ay))/\Q=abo x.ts-i/\Fr M 123 [] (ahY 97 i 96 (abo x.ts) ((95,abl x.tA x.ts x.tc)::(48,.bool false)::ahY 47 g 46 (abo x.rs) ((45,abl x.sA x.rs x.sc)::ais g1 [])))/\Mem w N [.blk g1 x.cells 48]) (m:=abo x.ts-0) ⟨0,abz _,gJ.zero,rfl,Z.sub kr,b.pk [0]⟩ ?_
 clear Z b;rintro Q a w_ ⟨i,hi,hu3,rfl,Z,b⟩
 refine Jb Z b ((dh 1∘JQ) (Ji (λhd98=>?_) λhd98=>?_))
 ·
  have H:i<abo x.ts:=by omega
  obtain ⟨t,ht⟩:∃q,x.ts.getD i Tk.zero=q:=⟨_,rfl⟩
  have I:t.Ok:=by rw [<-ht];exact U.ts _ (qf Tk.zero H)
  have hti:=I.id
  intro a Z b
  unfold aX at hti
  refine Jb Z b ((eY∘aM 1) ?_)
  obtain ⟨AU,AV,P,_⟩:=Rd.sat L.t i
  have J:=L.t;rw [P] at J
  refine (Jk 95 (.slice (some ⟨AU,AV,none⟩) (abo x.ts) x.tc) (h:=by rw [P];try rfl)∘iC i 8∘qD Tk.cells qm J fF i Tk.zero (hk:=H)∘Jo (.agg t.cells) (by rw [ht])∘JA aiG) λw8 g8=>(Jp 1∘JV fF aO (h1:=by exact Ht t)) λaap=>(Jj) λa Z b=>?_
  refine qy (λM N=>Fr M 123 [] ((121,.bool (!jr x.ay i))::(7,vI i)::(8,vP g8 0)::(95,abl (some ⟨AU,AV,none⟩) x.ts x.tc)::(98,.bool true)::ahY 97 i 96 (abo x.ts) ((48,.bool false)::ahY 47 g 46 (abo x.rs) ((45,abl x.sA x.rs x.sc)::ais g1 [])))/\Mem w N [.blk g8 t.cells 232,.blk g1 x.cells 48]) ?_ ?_
  ·
   refine Jb Z b ((Vs .n []) λGt=>(Vp [0,1,2]) λa Z b e=>?_)
   rcases Z.tf 104 rfl with ⟨f,Z⟩|⟨f,Z⟩
   ·
    have hd104:=of_decide_eq_true f
    refine Vb Z b e ((Vf 3 5∘Vp [5]∘Vf 10 0∘Vc 4 O1∘Ez 6 1) λa Z b e=>?_)
    replace Z:=Z.sp 106 (abl (some ⟨AU,AV,none⟩) x.ts x.tc) rfl (by rw [P];try rfl)
    refine Vb Z b e ((oq 7 (i-1) 8∘Vf 8 0∘XV 9 qm J (i-1) Tk.zero (hk:=by first|omega|(simp;omega))∘Vc 11 O0∘Vp [12,13,14]) λa Z b e=>?_)
    rcases Z.tf 116 rfl with ⟨k,Z⟩|⟨k,Z⟩
    ·
     have Ih:=of_decide_eq_true k
     refine Vb Z b e ((Vp [15,16,17,18,19]∘Vd∘aJ) λa Z b=>?_)
     have Z:=Z.sp 121 (.bool (!jr x.ay i)) rfl (congrArg abN (by rw [zc3 om (by rw [ht];omega)];rfl))
     exact ⟨Z.sub kr,b.pk [0,1]⟩
    have Ih:=of_decide_eq_false k
    refine iw Z e 15 rfl (v:= .agg x.cells) (Pe rfl rfl eU rfl (λ_ h=>qj (h.blk (i:=1) rfl))) λa Z=>?_
    refine iw Z e 16 rfl (v:= .agg t.cells) (Pe rfl rfl fF rfl (λ_ h=>qj (h.blk (i:=0) rfl))) λa Z=>?_
    refine s_on Z 17 rfl (jq Z b [.agg x.cells,.agg t.cells] (.bool (eF x.ay t)) rfl rfl (qik x t I hcp K.s _) λIi B b a Z=>?_)
    refine av (b.pk [0,1]) (λe=>?_)
    refine ap Z (λ_=>e) [18,19] (bt 20 []) [(121,.bool (!(eF x.ay t)))] λa Z=>?_
    refine qe kr ?_
    have Z:=Z.sp 121 (.bool (!jr x.ay i)) rfl (congrArg abN (by rw [Z4 (by rw [ht];omega),ht]))
    exact ⟨Z.sub kr,b.pk [0,1]⟩
   have hd104:=of_decide_eq_false f
   refine ap Z (λ_=>e) [3,4,5,6,7,8,9,10,11,12,13,14] (bt 20 [15,16,17,18,19]) [(116,.bool false)] λa Z=>?_
   refine iw Z e 15 rfl (v:= .agg x.cells) (Pe rfl rfl eU rfl (λ_ h=>qj (h.blk (i:=1) rfl))) λa Z=>?_
   refine iw Z e 16 rfl (v:= .agg t.cells) (Pe rfl rfl fF rfl (λ_ h=>qj (h.blk (i:=0) rfl))) λa Z=>?_
   refine s_on Z 17 rfl (jq Z b [.agg x.cells,.agg t.cells] (.bool (eF x.ay t)) rfl rfl (qik x t I hcp K.s _) λIi B b a Z=>?_)
   refine av (b.pk [0,1]) (λe=>?_)
   refine ap Z (λ_=>e) [18,19] (bt 20 []) [(121,.bool (!(eF x.ay t)))] λa Z=>?_
   refine qe kr ?_
   have Z:=Z.sp 121 (.bool (!jr x.ay i)) rfl (congrArg abN (by rw [Z4 (by rw [ht];omega),ht]))
   exact ⟨Z.sub kr,b.pk [0,1]⟩
  clear Z b;rintro a Cr ⟨Z,b⟩
  refine Jb Z b (Ju (λo=>?_) λo=>?_)
  ·
   exact (JT∘bE 1∘aW) λb=>dw (Hw H (by simpa using o)).symm b.below
  refine (aQ∘JR∘dA 1∘Jp 1∘aL∘Jq) λa Z b=>?_
  replace Z:=Z.sp 95 (abl x.tA x.ts x.tc) rfl (by rw [P])
  exact ⟨_,om,i+1,by omega,hu3.succ (by simpa using o),rfl,Z.sub kr,b.pk [1]⟩
 exact (JF∘JX∘JG∘bE 1∘aW) λb=>dw (znk hcf om hcl (λi hi=>hu i om) (λj hj=>hu3 j om)).symm b.below
def znp {l:List Tk} {id:Int} (hs:fK l) (hm:m<abo l) (h:(l.getD m Tk.zero).id<id):∀k,k<m+1->(l.getD k Tk.zero).id<id:=λk b=>by
 rcases ab6 k m with a|a
 ·have:=hs k m a hm;omega
 ·obtain rfl:k=m:=by omega
  exact h
def zjs {l:List Tk} {id:Int} (hs:fK l) (hm:m<abo l) (h:id<=(l.getD m Tk.zero).id):∀k,m<=k->k<abo l->id<=(l.getD k Tk.zero).id:=λk c b=>by
 rcases ab6 m k with a|a
 ·have:=hs m k a b;omega
 ·obtain rfl:k=m:=by omega
  exact h
def qvy {l:List Tk} {id:Int} (hi:i=abo l) (h1:∀k,k<i->(l.getD k Tk.zero).id<id) (hb:Below w.heap.size w W):Nf w l id (.returned (.tuple #[vI i,.bool false])) W:=by
 subst hi
 exact search_end h1 hb
def uo:SI abp 283 3:=⟨by kernel_rfl,by kernel_rfl⟩
def AX (p:Int) (w:aiM):Calls abp 271 #[vI p] w (Is w (.bool false)):=by
 refine (fE Tryz.func271 6) ?_
 exact (aM 1∘bg 3∘Jo (.bool false) (by simp)∘Jp 1∘eP∘aP) tT
def Ij (p q:Int) (w:aiM):Calls abp 222 #[vI p,vI q] w (Is w (vI (j3 p q))):=by
 refine (iP Tryz.func222 20) ?_
 refine (aM 1∘bg 1∘JL (h:=by exact λa=>AX _ _)) ?_
 rintro a _ f ⟨rfl,b⟩
 refine ⟨_,rfl,_,a.call b,?_⟩
 refine (Jp 1∘bU∘bg 1∘JL (h:=by exact λa=>AX _ _)) ?_
 rintro a _ e ⟨rfl,b⟩
 refine ⟨_,rfl,_,a.call b,?_⟩
 refine (Jp 1∘bU∘Jj∘JQ∘dh 1∘aQ∘JQ∘dh 1∘aQ∘bN 3∘bU∘Jj) (Ji (λc=>?_) λc=>?_)
 ·
  exact (JT∘bE 1∘aW) λa=>by exact ⟨by rw [show j3 p q= -1 from if_pos om],a.below⟩
 refine (aQ∘bN 3∘bU∘Jj) (Ji (λd=>?_) λd=>?_)
 ·
  exact (JT∘bE 1∘aW) λa=>by exact ⟨by rw [show j3 p q=1 from (if_neg om).trans (if_pos om)],a.below⟩
 exact (aQ∘bE 1∘aW) λa=>by exact ⟨by rw [show j3 p q=0 from (if_neg om).trans (if_neg om)],a.below⟩
def AY (p:Nat) (w:aiM):Calls abp 305 #[vQ p] w (Is w (.bool false)):=by
 refine (fE Tryz.func305 6) ?_
 exact (aM 1∘bg 3∘Jo (.bool false) (by simp)∘Jp 1∘eP∘aP) tT
def Ik (p q:Nat) (w:aiM):Calls abp 272 #[vQ p,vQ q] w (Is w (vI (j3 (p:Int) (q:Int)))):=by
 refine (iP Tryz.func272 20) ?_
 refine (aM 1∘bg 1∘JL (h:=by exact λa=>AY _ _)) ?_
 rintro a _ f ⟨rfl,b⟩
 refine ⟨_,rfl,_,a.call b,?_⟩
 refine (Jp 1∘bU∘bg 1∘JL (h:=by exact λa=>AY _ _)) ?_
 rintro a _ e ⟨rfl,b⟩
 refine ⟨_,rfl,_,a.call b,?_⟩
 refine (Jp 1∘bU∘Jj∘JQ∘dh 1∘aQ∘JQ∘dh 1∘aQ∘bN 3∘bU∘Jj) (Ji (λc=>?_) λc=>?_)
 ·
  exact (JT∘bE 1∘aW) λa=>by exact ⟨by rw [show j3 (p:Int) (q:Int)= -1 from if_pos om],a.below⟩
 refine (aQ∘bN 3∘bU∘Jj) (Ji (λd=>?_) λd=>?_)
 ·
  exact (JT∘bE 1∘aW) λa=>by exact ⟨by rw [show j3 (p:Int) (q:Int)=1 from (if_neg om).trans (if_pos om)],a.below⟩
 exact (aQ∘bE 1∘aW) λa=>by exact ⟨by rw [show j3 (p:Int) (q:Int)=0 from (if_neg om).trans (if_neg om)],a.below⟩
def qsy (t:Tk) (id:Int) (w:aiM):Calls abp 221 #[.agg t.cells,vI id] w (Is w (vI (j3 t.id id))):=by
 refine (iP Tryz.func221 9) ?_
 refine (JP∘JE) λc d=>(Jp 1∘Jr∘Jg 0 O0∘Jp 1∘JL (h:=by exact λb=>Ij t.id id _)) ?_
 rintro b _ e ⟨rfl,a⟩
 refine ⟨_,rfl,_,b.call a,?_⟩
 exact (Jp 1∘eP∘aP) tT
def q1j (A:aiW) (c:Nat) (l:List Tk) (id:Int) (hs:fK l) (w:aiM) (hr:Rd w w.heap.size 8 A (abo l) (l.flatMap bX)) (F:abo l<=1000000):
    Calls abp 220 #[abl A l c,vI id,.func (.func 221) #[] #[]] w (Nf w l id):=by
 refine (uL Tryz.func220 49) ?_
 refine (aM 2∘bg 1∘Jl∘Jp 1∘bU∘bg 3∘Jj∘JQ∘JB) λa Z b=>?_
 refine qg (λt v x=>∃(i:Nat) (j:Nat),(i<=j)/\(j<=abo l)/\(∀k,k<i->(l.getD k Tk.zero).id<id)/\(∀k,j<=k->k<abo l->id<=(l.getD k Tk.zero).id)/\t=j-i/\Fr v 49 [] (ahY 10 j 9 i [(8,vI (abo l)),(7,.bool false),(6,vI 0),(0,abl A l c),(1,vI id),(2,.func (.func 221) #[] #[])])/\Mem w x []) (m:=abo l-0) ⟨0,abo l,abz _,abu _,λk h=>by omega,λk p r=>by omega,rfl,Z.sub kr,b.pk []⟩ ?_
 clear Z b;rintro t a G ⟨i,j,y,z,p,r,rfl,Z,b⟩
 refine Jb Z b ((bN 3∘bU∘Jj) (Ji (λg=>?_) λg=>?_))
 ·
  have u:i<=((i+j)/2)/\((i+j)/2)<j:=by omega
  refine (JT∘Eu∘JB∘aM 2∘Ja∘Jw .u64∘Jp 1∘Jo (vQ ((i+j)/2:Nat)) (by exact uI .u64 (i+j) (j:=1) (q:=2) rfl rfl)∘Jw .i64∘Jp 1∘aJ∘bg 3) ?_
  obtain ⟨gA,B,rfl,_⟩:=hr.sat ((i+j)/2)
  refine (iC ((i+j)/2) 8∘qD Tk.cells qm hr fF ((i+j)/2) Tk.zero∘Jp 1) λa Z b=>?_
  refine fo Z 6 rfl rfl ?_
  refine zh Z (f:=221) (vs:=[.agg ((l.getD ((i+j)/2) Tk.zero).cells),vI id]) (fst:=[]) (caps:=[]) rfl rfl rfl kr rfl de (qsy (l.getD ((i+j)/2) Tk.zero) id _) ?_
  rintro _ C ⟨rfl,e⟩
  refine ⟨_,rfl,?_⟩
  replace b:=b.call e
  clear Z;intro a Z
  refine Jb Z b ((Jp 1∘Jo (.bool (decide ((l.getD ((i+j)/2) Tk.zero).id<id))) (by exact congrArg abN Z8)∘aJ∘Jj) (Ju (λd=>?_) λd=>?_))
  ·
   have n:=of_decide_eq_true d
   have s:(l.getD ((i+j)/2) Tk.zero).id<id:=by simpa using d
   refine (JT∘JR∘Jp 1∘dA 1∘Jp 1∘bU∘Jq) λa Z b=>?_
   exact ⟨_,om,(((i+j)/2)+1),j,by omega,z,znp hs om s,r,rfl,Z.sub kr,b.pk []⟩
  have n:=of_decide_eq_false d
  have D:¬(l.getD ((i+j)/2) Tk.zero).id<id:=by simpa using d
  refine (JF∘JR∘Jp 2∘aL∘Jq) λa Z b=>?_
  exact ⟨_,om,i,((i+j)/2),by omega,by omega,p,zjs hs om om,rfl,Z.sub kr,b.pk []⟩
 obtain rfl:i=j:=by omega
 refine (JF∘JX∘JG∘aM 5) (Ji (λo=>?_) λo=>?_)
 ·
  refine (Jp 3) ?_
  obtain ⟨gA,B,rfl,_⟩:=hr.sat i
  refine (iC i 8∘qD Tk.cells qm hr fF i Tk.zero∘Jp 1) λa Z b=>?_
  refine fo Z 11 rfl rfl ?_
  refine zh Z (f:=221) (vs:=[.agg ((l.getD i Tk.zero).cells),vI id]) (fst:=[]) (caps:=[]) rfl rfl rfl kr rfl de (qsy (l.getD i Tk.zero) id _) ?_
  rintro _ E ⟨rfl,e⟩
  refine ⟨_,rfl,?_⟩
  replace b:=b.call e
  clear Z;intro a Z
  exact Jb Z b ((Jp 1∘Jo (.bool (decide ((l.getD i Tk.zero).id=id))) (by exact congrArg abN Z9)∘bM 3∘JZ∘bW) λb=>q6i hs om p r b.below)
 exact (Jv 11 [(7,.bool false),(6,vI i)]∘aP∘bW) λb=>qvy om p b.below
def qsz (x:aF) (f:Nat) (id:Int) (hs:fK x.ts) (w:aiM) (hm:w.heap[f]?=some (.cells #[vI x.au,vQ x.aj,abl x.gA x.gs x.gc,abl x.lA x.cl x.lc,abl x.uA x.cu x.uc,abl x.tA x.ts x.tc,abl x.sA x.rs x.sc,.bool true] 273 (0,0))) (ht:Rd w w.heap.size 8 x.tA (abo x.ts) (x.ts.flatMap bX)) (g:abo x.ts<=1000000):
    Calls abp 161 #[vP f 0,vI id] w (Is w (vI (fidx x.ts id))):=by
 refine (iP Tryz.func161 20) ?_
 refine (aM 1∘bg 1∘Jn∘Jf 0∘Jf 5∘Jy (v:= .slice x.tA (abo x.ts) x.tc) (h:=by exact Pd rfl rfl kr (λ_ h=>h.mH hm rfl))∘Jp 1∘JL (h:=by exact λc=>q1j x.tA x.tc x.ts id hs _ (c.old ht) g)) ?_
 rintro c _ j ⟨⟨i,b,rfl,k,d⟩,e⟩
 refine ⟨_,rfl,_,c.call e,?_⟩
 refine (Jp 1∘Jx∘Jx∘bM 2∘bN 2∘bU∘Jj) (Ju (λa=>?_) λa=>?_)
 ·
  exact (JT∘bE 1∘aW) λc=>by exact ⟨by rw [<-d,if_neg (by simpa using a)],c.below⟩
 exact (aQ∘aM 2∘aL∘aP∘aW) λc=>by exact ⟨by rw [<-d,if_pos (by simpa using a)],c.below⟩
def RS (x:aF) (a c g:Nat):Prop:=∀w:aiM,fA w x->w.heap[a]?=some (.cells #[vI x.au,vQ x.aj,.slice x.gA (abo x.gs) x.gc,.slice x.lA (abo x.cl) x.lc,.slice x.uA (abo x.cu) x.uc,.slice x.tA (abo x.ts) x.tc,.slice x.sA (abo x.rs) x.sc,.bool true] 273 (0,0))->Calls abp 162 #[vP a 0,vI g,vI c] w (Is w (.tuple #[.agg (aN bO (aU x.ay g c)).cells,.bool (!(aU x.ay g c).isEmpty)]))
def qL {x:aF} (h:jr x.ay i=true):1<=(x.ts.getD i Tk.zero).id/\(x.ts.getD i Tk.zero).id<=65535:=by
 have a:=(EO h).2
 unfold eF at a
 rw [abG,decide_eq_true_eq] at a
 exact ⟨a.1.1,a.1.2.1⟩
def q1k {p:Nat->Prop} (h:∀i,i<k->p i) (hk:p k):∀i,i<k+1->p i:=λi hi=>by
 rcases ab6 i k with a|a
 ·exact h i a
 ·obtain rfl:i=k:=by omega
  exact hk
def qs0 (m n:Mb) (A j:aiW) (c p:Nat) (w:aiM) (hr:Rd w w.heap.size 1 A 3 (m.nums.map bF)) (d:Rd w w.heap.size 1 j 3 (n.nums.map bF)):
    Calls abp 224 #[.slice A 3 c,.slice j 3 p] w (wm w m n):=by
 refine (iP Tryz.func224 36) ?_
 refine (dh 1∘bN 1∘Jl∘bM 1∘JB) λa Z b=>?_
 refine qg (λq r s=>∃(k:Nat),(k<=3)/\(∀i,i<k->m.nums.getD i 0=n.nums.getD i 0)/\q=3-k/\Fr r 36 [] [(11,vI k),(10,vI 3),(9,.slice A 3 c),(4,vI 0),(0,.slice A 3 c),(1,.slice j 3 p)]/\Mem w s []) (m:=3-0) ⟨0,by decide,λi h=>by omega,rfl,Z.sub kr,b.pk []⟩ ?_
 clear Z b;rintro q a x ⟨k,y,l,rfl,Z,b⟩
 refine Jb Z b ((dh 1∘JQ) (Ji (λe=>?_) λe=>?_))
 ·
  have f:k<3:=by omega
  refine (eY∘aM 1) ?_
  obtain ⟨gA,z,rfl,_⟩:=hr.sat k
  refine (iC k 1∘Jy (h:=by exact aad hr k 0 (show k<3 by omega) rfl rfl)∘bM 2∘bN 2∘Jl∘Jp 1∘Jo (.bool false) (by exact congrArg abN (decide_eq_false om))∘eP∘Jj∘aQ∘aM 2) ?_
  obtain ⟨t,u,rfl,_⟩:=d.sat k
  refine (iC k 1∘Jy (h:=by exact aad d k 0 (show k<3 by omega) rfl rfl)∘Jp 1∘fJ∘bg 2∘JL (h:=by exact λb=>Ik (m.nums.getD k 0) (n.nums.getD k 0) _)) ?_
  rintro b _ v ⟨rfl,o⟩
  refine ⟨_,rfl,_,b.call o,?_⟩
  refine (Jp 1∘eP∘bg 2∘Jo (.bool (decide (((m.nums.getD k 0):Int)≠((n.nums.getD k 0):Int)))) (by exact congrArg abN zjm)∘aL∘Jj) (Ji (λg=>?_) λg=>?_)
  ·
   exact (JT∘aM 2∘aL∘aP∘aW) λb=>zc6 f l om b.below
  refine (aQ∘JR∘dA 1∘Jp 1∘aL∘Jq) λa Z b=>?_
  exact ⟨_,om,k+1,by omega,q1k l om,rfl,Z.sub kr,b.pk []⟩
 exact (JF∘JX∘JG∘bN 1∘Jl∘Jp 1∘Jl∘Jv 1 [(35,.bool false)]∘fJ∘Jj∘aQ∘bE 1∘aW) λb=>zc7 (λi hi=>l i om) b.below
def zgu (m:Mb) (w:aiM):Calls abp 163 #[.agg m.cells] w (Is w (vQ (m.v:Int))):=by
 refine (fE Tryz.func163 5) ?_
 exact (JP∘JE) λa g1=>(Jp 1∘Jr∘Jy (v:=vP g1 0) (h:=by exact Yl.tL (ad:=⟨g1,0,none⟩) (m:=3) (y:=0) (sz:=1) rfl rfl rfl kr de)∘Jc O0∘Jp 1∘bU∘aP) tT
def zjt (W w:aiM) (gs c:Nat) (o:Bool) (m n:Mb) (fs:List aiX) (b:Mem W w (.blk gs #[.bool o] 4:: .blk c n.cells 283::fs)):
    Calls abp 223 ([.agg m.cells,vP gs 0,vP c 0]:List aiN).toArray w λr p=>r= .returned (.tuple #[])/\Mem W p (.blk gs #[.bool true] 4:: .blk c (if m.lt n then m else n).cells 283::fs):=by
 refine nP Tryz.func223 [.agg m.cells,vP gs 0,vP c 0] [(0,.agg m.cells),(1,vP gs 0),(2,vP c 0)] λa Z=>?_
 refine Jb Z b ((JP∘JE) λt e=>(aL∘Jr∘JW gu aO) λj=>(aL∘Jj) λa Z b=>?_)
 refine wp_seq ?_
 refine Jb Z b ((Vs .n []) λq=>(Vy 0 (v:=vS e 3 3) (h:=by exact aaP (n:=3) (sz:=1) rfl rfl kr)∘Vy 1 (v:=vS c 3 3) (h:=by exact aaP (n:=3) (sz:=1) rfl rfl kr)) λa Z b k=>?_)
 refine s_on Z 2 rfl ?_
 refine lF Z [vS e 3 3,vS c 3 3] rfl rfl (qs0 m n (some ⟨e,0,none⟩) (some ⟨c,0,none⟩) 3 3 _ (b.bB (i:=0) (n:=3) (size:=1) rfl rfl) (b.bB (i:=2) (n:=3) (size:=1) rfl rfl)) ?_
 rintro _ u ⟨⟨s,rfl,f⟩,g⟩
 refine ⟨_,rfl,?_⟩
 replace b:=b.call g
 clear Z;intro a Z
 refine av (b.pt 3 [0,1,2]) (λk=>?_)
 refine Vb Z b k ((Vq [3] [(7,.bool (decide ((s:Int)<(0:Int))))]∘Vo (.bool (m.lt n)) (by exact congrArg abN f)∘Vd∘eP) (Ju (λd=>?_) λd=>?_))
 ·
  refine (JT∘JR∘eH uo O0∘JV uo iG (h1:=by exact CV m)) λl=>(mJ∘Jq) λa Z b=>?_
  refine iB rfl Z ⟨rfl,?_⟩
  rw [if_pos d]
  exact b.pt 3 [1,2]
 refine (JF∘JS) λa Z b=>?_
 refine iB rfl Z ⟨rfl,?_⟩
 rw [if_neg (by rw [d];decide)]
 exact b.pt 3 [1,2]
abbrev aiw:=λa b=>(.blk a #[.bool b] 4:aiX)
def zgv (W w:aiM) (gs a:Nat) (b:Bool) (m:Mb) (q:List Mb) (fs:List aiX) (d:Mem W w (.blk gs #[.bool b] 4:: .blk a (aN bO q).cells 283::fs)):
  Calls abp 223 ([.agg m.cells,vP gs 0,vP a 0]:List aiN).toArray w λr e=>r= .returned (.tuple #[])/\Mem W e (aiw gs (!(q++[m]).isEmpty)::.blk a (aN bO (q++[m])).cells 283::fs):=by
 have c:=zjt W w gs a b m _ fs d
 rw [<-q1f] at c
 rw [show (!(q++[m]).isEmpty)=true from by simp]
 exact c
abbrev aiu:=λa b c d e=>((10,.func (.func 223) #[] #[vP a 0,vP b 0])::(9,vP a 0)::(8,vP b 0)::(7,.bool false)::(6,vP c 0)::(0,vP d 0)::e:List (Nat×aiN))
def q1l (x:aF) (N:x.ay.Ok) (hf:cK x) (D:ShAt x) (O c:Nat) (hc:(c:Int)<x.au) (g:Nat) (hg:g<abo x.rs) (ih:∀h,g<h->h<abo x.rs->RS x O c h):RS x O c g:=by
 intro w G hm
 have hfs:=hf.s;have hft:=hf.t;have hfg:=hf.g;have hrl:=D.rs;have hto:=N.ts
 obtain ⟨hc1,hc2,_,_⟩:=mM D.cfg
 refine (uL Tryz.func162 102) ?_
 refine (JP∘JA #[vQ 0,vQ 0,vQ 0]) λw6 M=>(Jp 1∘Jr∘Jy (v:= .agg #[vQ 18446744073709551615,vQ 18446744073709551615,vQ 18446744073709551615]) (h:=by exact aas (n:=3) (sz:=1) (vs:=[(0,vQ 18446744073709551615),(1,vQ 18446744073709551615),(2,vQ 18446744073709551615)]) rfl rfl kr kr)∘JA #[vQ 0,vQ 0,vQ 0]) λw8 j=>(JA #[.bool false]) λw9 k=>(JV uo gu) λRi=>(JW aO aO) λRU=>(Jr∘Jy (h:=by exact Yl.makeFunc (fst:=[]) (caps:=[vP k 0,vP j 0]) rfl rfl rfl)∘Jp 1∘aL∘Jq∘JC (h:=by exact λb=>b.Hz (i:=1) (ds:=(aN bO []).cells) rfl rfl)∘JG∘bN 1∘Jn∘Jf 0∘Jf 5∘Jy (v:= .slice x.tA (abo x.ts) x.tc) (h:=by exact Pd rfl rfl kr (λ_ h=>h.mH hm rfl))∘Jl∘bM 1∘JB) λa Z b=>?_
 refine qg (λP Q R=>∃(i:Nat) (q:List Mb),(i<=abo x.ts)/\(q=(x.ts.take i).filterMap (vX · g c))/\P=abo x.ts-i/\Fr Q 102 [] (ahY 24 i 23 (abo x.ts) ((22,abl x.tA x.ts x.tc)::aiu k j M O (ahY 1 g 2 c [])))/\Mem w R [aiw k (!q.isEmpty),.blk j ((aN bO q).cells) 283,.blk M #[vQ 0,vQ 0,vQ 0] 283]) (m:=abo x.ts-0) ⟨0,[],abz _,rfl,rfl,Z.sub kr,b.pk [0,1,2]⟩ ?_
 clear Z b;rintro P a w_ ⟨i,q,hi,E,rfl,Z,b⟩
 refine Jb Z b ((dh 1∘JQ) (Ji (λS=>?_) λS=>?_))
 ·
  have o:i<abo x.ts:=by omega
  obtain ⟨t,ht⟩:∃z,(x.ts.getD i Tk.zero)=z:=⟨_,rfl⟩
  have T:=qL (D.tk i o)
  rw [ht] at T
  refine (eY∘JP) ?_
  obtain ⟨U,V,F,_⟩:=Rd.sat G.t i
  have H:=G.t;rw [F] at H
  refine (Jk 22 (.slice (some ⟨U,V,none⟩) (abo x.ts) x.tc) (h:=by rw [F];try rfl)∘iC i 8∘qD Tk.cells qm H fF i Tk.zero (hk:=o)∘Jo (.agg t.cells) (by rw [ht])∘JA aiG) λxZ W=>(JV fF aO (h1:=by exact Ht t)) λCJ=>(bU∘Jj) λa Z b=>?_
  refine qy (λQ R=>Fr Q 102 [] ((41,.bool (t.here g c))::(12,vP W 0)::(22,abl (some ⟨U,V,none⟩) x.ts x.tc)::(25,.bool true)::ahY 24 i 23 (abo x.ts) (aiu k j M O (ahY 1 g 2 c [])))/\Mem w R [.blk W t.cells 232,aiw k (!q.isEmpty),.blk j ((aN bO q).cells) 283,.blk M #[vQ 0,vQ 0,vQ 0] 283]) ?_ ?_
  ·
   refine zu ?_
   refine Jb Z b ((Jg 5 O0∘Jp 1) (Ju (λp=>?_) λp=>?_))
   ·
    refine (Jg 1 O0∘Jp 4) (Je (λX=>?_) λX=>?_)
    ·
     refine (Jg 3 O0∘Jp 3∘aJ∘Jq) λa Z b=>?_
     have Z:=Z.sp 41 (.bool (t.here g c)) rfl (congrArg abN (by unfold Tk.here;rw [p,decide_eq_true om,acn,acn,ab3,beq_iff_eq,decide_eq_true_eq]))
     exact ⟨Z.sub kr,b.pk [0,1,2,3]⟩
    refine (Jp 5∘aJ∘Jq) λa Z b=>?_
    have Z:=Z.sp 41 (.bool (t.here g c)) rfl (congrArg abN (by unfold Tk.here;rw [p,decide_eq_false om];rfl))
    exact ⟨Z.sub kr,b.pk [0,1,2,3]⟩
   refine (Jv 11 [(41,.bool false)]∘bU∘Jq) λa Z b=>?_
   have Z:=Z.sp 41 (.bool (t.here g c)) rfl (congrArg abN (by unfold Tk.here;rw [p];rfl))
   exact ⟨Z.sub kr,b.pk [0,1,2,3]⟩
  clear Z b;rintro a w6 ⟨Z,b⟩
  refine Jb Z b (Ju (λB=>?_) λB=>?_)
  ·
   have r:q++[(⟨t.v,0,t.id.toNat⟩:Mb)]=(x.ts.take (i+1)).filterMap (vX · g c):=by rw [RI Tk.zero o,<-E,ht,vX,if_pos B];rfl
   refine (JT∘JR∘Jp 1∘Jg 6 O0∘Jg 0 O0∘Jv 1 [(47,vQ (IntKind.u64.wrap t.id))]∘Jo (vQ t.id.toNat) (by exact xQ om om)∘Jy (v:= .agg #[vQ t.v,vQ 0,vQ t.id.toNat]) (h:=by exact aas (n:=3) (sz:=1) (vs:=[(0,vQ t.v),(1,vQ 0),(2,vQ t.id.toNat)]) rfl rfl kr kr)) λa Z b=>?_
   refine fo Z 7 rfl rfl ?_
   refine zh Z (f:=223) (vs:=[.agg #[vQ t.v,vQ 0,vQ t.id.toNat]]) (fst:=[]) (caps:=[vP k 0,vP j 0]) rfl rfl rfl kr rfl de (zgv w _ k j _ (⟨t.v,0,t.id.toNat⟩:Mb) q _ (b.pk [1,2,0,3])) ?_
   rintro _ Ao ⟨rfl,L⟩
   refine ⟨_,rfl,?_⟩
   replace b:=L
   clear Z;intro a Z
   refine Jb Z b ((iZ∘Jj∘JR∘dA 1∘Jp 1∘aL∘Jq) λa Z b=>?_)
   replace Z:=Z.sp 22 (abl x.tA x.ts x.tc) rfl (by rw [F])
   exact ⟨_,om,i+1,(q++[(⟨t.v,0,t.id.toNat⟩:Mb)]),by omega,r,rfl,Z.sub kr,b.pk [0,1,3]⟩
  have r:q=(x.ts.take (i+1)).filterMap (vX · g c):=by rw [RI Tk.zero o,<-E,ht,vX,if_neg (by rw [B];decide)];simp
  refine (aQ∘JR∘dA 1∘Jp 1∘aL∘Jq) λa Z b=>?_
  replace Z:=Z.sp 22 (abl x.tA x.ts x.tc) rfl (by rw [F])
  exact ⟨_,om,i+1,q,by omega,r,rfl,Z.sub kr,b.pk [1,2,3]⟩
 rw [abL (by omega:abo x.ts<=i)] at E
 refine (JF∘JX∘JG∘bN 1∘dA 1∘Jp 1∘bU∘Jj∘JB) λa Z b=>?_
 refine qg (λP Q R=>∃(u:Nat) (q:List Mb),(g+1<=u)/\(u<=abo x.rs)/\(q=x.ts.filterMap (vX · g c)++((((aco (abo x.rs)).drop (g+1)).take (u- (g+1))).filterMap (lH x.ay c (λu=>aU x.ay u c) g)))/\P=abo x.rs-u/\Fr Q 102 [] ((13,vI u)::(25,.bool false)::ahY 24 i 23 (abo x.ts) ((22,abl x.tA x.ts x.tc)::aiu k j M O (ahY 1 g 2 c [])))/\Mem w R [aiw k (!q.isEmpty),.blk j ((aN bO q).cells) 283,.blk M #[vQ 0,vQ 0,vQ 0] 283]) (m:=abo x.rs- (g+1)) ⟨g+1,q,abu _,by omega,by rw [E];simp,rfl,Z.sub kr,b.pk [0,1,2]⟩ ?_
 clear Z b;rintro P a w_ ⟨u,q,hgh,hh,E,rfl,Z,b⟩
 refine Jb Z b ((bN 2∘Jn∘Jf 0∘Jf 6∘Jy (v:= .slice x.sA (abo x.rs) x.sc) (h:=by exact Pd rfl rfl kr (λ_ h=>h.mH hm rfl))∘Jl∘Jp 1∘aJ∘Jj) (Ji (λY=>?_) λY=>?_))
 ·
  have d:u<abo x.rs:=by omega
  have e:=zc8 (f:=lH x.ay c (λu=>aU x.ay u c) g) hgh d
  refine (eY∘bN 1∘Jn∘Jf 0∘Jf 0∘Jf 2∘Jy (v:= .slice x.gA (abo x.gs) x.gc) (h:=by exact Pd rfl rfl kr (λ_ h=>h.mH hm rfl))∘Jp 1) ?_
  obtain ⟨gq2,oq2,r,_⟩:=Rd.sat G.g u
  have I:=G.g;rw [r] at I
  refine (Jk 68 (.slice (some ⟨gq2,oq2,none⟩) (abo x.gs) x.gc) (h:=by rw [r];try rfl)∘iC u 2∘Jf 0∘Et pR I u Gr.zero∘Jp 2∘fJ∘Jj) (Jh (λRV=>?_) λRV=>?_)
  ·
   rw [q6j om] at e
   refine (JT∘JX∘JG∘JR∘Jp 1∘dA 1∘Jp 1∘bU∘Jq) λa Z b=>?_
   exact ⟨_,om,u+1,q,by omega,by omega,by rw [e,E];simp,rfl,Z.sub kr,b.pk [0,1,2]⟩
  refine (aQ∘aM 3∘JL (h:=by exact λb=>ih u om om _ (G.old b) (b.lG hm))) ?_
  rintro b _ w79 ⟨rfl,hbw⟩
  refine ⟨_,rfl,_,b.call hbw,?_⟩
  refine (Jp 1∘Jx∘Jx∘JA #[vQ 0,vQ 0,vQ 0]) λME g14=>(JV uo aO (h1:=by exact CV (aN bO (aU x.ay u c)))) λIl=>(Jp 1∘aJ∘bg 1∘Jj) (Ju (λC=>?_) λC=>?_)
  ·
   obtain ⟨y,hy⟩:∃z,x.rs.getD u Rw.zero=z:=⟨_,rfl⟩
   have sN:Rd w w.heap.size 3 y.A (abo y.l) (y.l.flatMap jc):=by rw [<-hy];exact G.row d
   have hyl:(abo y.l:Int)=x.au:=by rw [<-hy];exact (CU d (D.row u d)).1
   have nK:∀z∈y.l,z.Ok:=by rw [<-hy,<-kC d];exact N.sp _ (qf [] (by rw [lJ];exact d))
   have hzv:=(nK _ (qf Sp.zero (show c<abo y.l by omega))).v
   rw [zc9 d om (by simpa using C),hy] at e
   refine (JT∘JR∘Jp 2∘Jn∘Jf 0∘Jf 6∘Jy (v:= .slice x.sA (abo x.rs) x.sc) (h:=by exact Pd rfl rfl kr (λ_ h=>h.mH hm rfl))∘Jp 1) ?_
   obtain ⟨Da,Db,hq3,_⟩:=Rd.sat G.s u
   have J:=G.s;rw [hq3] at J
   refine (Jk 88 (.slice (some ⟨Da,Db,none⟩) (abo x.rs) x.sc) (h:=by rw [hq3];try rfl)∘iC u 1∘Jy (v:= .slice ((x.rs.getD u Rw.zero).A) ((x.rs.getD u Rw.zero).l.length) ((x.rs.getD u Rw.zero).c)) (h:=by exact aad J u Rw.zero om rfl rfl)∘Jo (.slice y.A (abo y.l) y.c) (by rw [hy])∘Jp 1) ?_
   obtain ⟨AU,AV,hq4,_⟩:=Rd.sat sN c
   have K:=sN;rw [hq4] at K
   refine (Jk 91 (.slice (some ⟨AU,AV,none⟩) (abo y.l) y.c) (h:=by rw [hq4];try rfl)∘iC c 3∘Jf 0∘Et yU K c Sp.zero∘Jp 1∘Jw .u64∘Jy (v:= .agg #[vQ ((y.l.getD c Sp.zero).v),vQ 1,vQ u]) (h:=by exact aas (n:=3) (sz:=1) (vs:=[(0,vQ ((y.l.getD c Sp.zero).v)),(1,vQ 1),(2,vQ u)]) rfl rfl kr kr)) λa Z b=>?_
   refine fo Z 16 rfl rfl ?_
   refine zh Z (f:=223) (vs:=[.agg #[vQ ((y.l.getD c Sp.zero).v),vQ 1,vQ u]]) (fst:=[]) (caps:=[vP k 0,vP j 0]) rfl rfl rfl kr rfl de (zgv w _ k j _ (⟨(y.l.getD c Sp.zero).v,1,u⟩:Mb) q _ (b.pk [1,2,0,3])) ?_
   rintro _ w99 ⟨rfl,L⟩
   refine ⟨_,rfl,?_⟩
   replace b:=L
   clear Z;intro a Z
   refine Jb Z b ((iZ∘Jj∘JR∘Jp 1∘dA 1∘Jp 1∘aJ∘Jq) λa Z b=>?_)
   exact ⟨_,om,u+1,(q++[(⟨(y.l.getD c Sp.zero).v,1,u⟩:Mb)]),by omega,by omega,by rw [e,E,abv];rfl,rfl,Z.sub kr,b.pk [0,1,3]⟩
  rw [q6k (by simpa using C)] at e
  refine (aQ∘JR∘Jp 1∘dA 1∘Jp 1∘bU∘Jq) λa Z b=>?_
  exact ⟨_,om,u+1,q,by omega,by omega,by rw [e,E];simp,rfl,Z.sub kr,b.pk [1,2,3]⟩
 have hqm:q=aU x.ay g c:=by rw [E,M8,lJ,show u=abo x.rs by omega,zjn];rfl
 refine (JF∘JX) λa Z b=>?_
 refine wp_seq ?_
 refine Jb Z b ((Vs (.t (.t (.f .n))) []) λDc=>(mK 0 uo O1∘Vc 1 O0) λa Z b HS=>?_)
 refine s_on Z 2 rfl (bS Z b 2 rfl rfl rfl rfl rfl uo rfl rfl (CV (aN bO q)) λAy b=>?_)
 refine av (b.pk [0,1]) (λHS=>?_)
 refine Vb Z b HS ((Vp [3]∘Vd∘bU∘JZ) λa Z b=>?_)
 exact dR rfl Z (.cellS (i:=2) Z b rfl rfl uo rfl) (.tmp Z rfl) (⟨by rw [<-hqm],b.below⟩)
def Ni (x:aF) (a:x.ay.Ok) (f:cK x) (b:ShAt x) (d c:Nat) (hc:(c:Int)<x.au):∀(n g:Nat),abo x.rs-g<=n->g<abo x.rs->RS x d c g:=by
 intro n
 induction n with
 |zero=>intro g i e;omega
 |succ n j=>intro g i e;exact q1l x a f b d c hc g e λh l k=>j h om k
def q60 {l:List Tk} {id:Int} (h:fidx l id<0):gN l id=none:=by
 rcases RH l id with a|⟨i,a,_⟩
 ·exact a.2
 ·omega
theorem qyl {l:List Tk} {id:Int} (h:¬fidx l id<0):∃i:Nat,fidx l id=i/\gN l id=some i/\i<abo l/\(l.getD i Tk.zero).id=id:=by
 rcases RH l id with a|a
 ·omega
 ·exact a
def qv3 (x:aF) (R:x.ay.Ok) (H:cK x) (w:aiM) (D:fA w x):
    Calls abp 105 #[.agg x.cells] w (Is w (.bool (lu x.ay))):=by
 have al0:=H.s;have hft:=H.t;have hfg:=H.g;have hfl:=H.l;have hfu:=H.u
 refine (fE Tryz.func105 81) ?_
 refine (JP∘JE) λw1 g1=>(bM 1∘JQ∘JP∘eH eU O0∘JI (h:=by exact λb=>q1i x R H _ (D.old b))) λxZ E=>(Jp 1∘bU∘Jj) (Ju (λj=>?_) λj=>?_)
 ·
  exact (JT∘bE 1∘aW) λb=>dw (HV (by simpa using j)).symm b.below
 have S:nQ x.ay=true:=by simpa using j
 have k:=vZ S
 have hs:=q6h k
 obtain ⟨hc1,hc2,_,_⟩:=mM k.cfg
 have oZ:=k.cu
 refine (aQ∘JP∘eH eU O0∘fD #[vI x.au,vQ x.aj,abl x.gA x.gs x.gc,abl x.lA x.cl x.lc,abl x.uA x.cu x.uc,abl x.tA x.ts x.tc,abl x.sA x.rs x.sc,.bool true]∘JE) λw16 e=>(Jp 1∘eP∘Jj∘JQ∘JP∘Jg 4 O1∘Jl∘bM 1∘JB) λa Z b=>?_
 refine qg (λT M N=>∃(c:Nat),(c<=abo x.cu)/\(gJ c λc=>fu x.ay c&&iH (abo x.rs) λg=>kR x.ay g c)/\T=abo x.cu-c/\Fr M 81 [] (ahY 20 c 19 (abo x.cu) [(18,abl x.uA x.cu x.uc),(3,vP e 0),(13,.bool false),(2,.bool false),(1,vP g1 0)])/\Mem w N [.blk e #[vI x.au,vQ x.aj,abl x.gA x.gs x.gc,abl x.lA x.cl x.lc,abl x.uA x.cu x.uc,abl x.tA x.ts x.tc,abl x.sA x.rs x.sc,.bool true] 273,.blk g1 x.cells 48]) (m:=abo x.cu-0) ⟨0,abz _,gJ.zero,rfl,Z.sub kr,b.pk [0,1]⟩ ?_
 clear Z b;rintro T a w_ ⟨c,hc,hu,rfl,Z,b⟩
 refine Jb Z b ((dh 1∘JQ) (Ji (λU=>?_) λU=>?_))
 ·
  have I:c<abo x.cu:=by omega
  obtain ⟨id,f⟩:∃z,(x.cu.getD c 0)=z:=⟨_,rfl⟩
  refine (eY∘aM 1) ?_
  obtain ⟨F,G,O,_⟩:=Rd.sat D.u c
  have J:=D.u;rw [O] at J
  refine (Jk 18 (.slice (some ⟨F,G,none⟩) (abo x.cu) x.uc) (h:=by rw [O];try rfl)∘iC c 1∘Jy (v:=vI (x.cu.getD c 0)) (h:=by exact aad J c 0 om rfl rfl)∘Jo (vI id) (by rw [f])∘Jp 2∘bg 2∘JI (h:=by exact λb=>qsz x e id hs _ (b.blk (i:=0) rfl) (b.old D.t) H.t)) λEU E=>(Jp 1∘eP∘Jj∘JQ) λa Z b=>?_
  refine qy (λM N=>Fr M 81 [] ((52,.bool (!fu x.ay c))::ahY 6 (fidx x.ts id) 5 id ((4,vI c)::(18,abl (some ⟨F,G,none⟩) x.cu x.uc)::(21,.bool true)::ahY 20 c 19 (abo x.cu) [(3,vP e 0),(13,.bool false),(2,.bool false),(1,vP g1 0)]))/\Mem w N [.blk e #[vI x.au,vQ x.aj,abl x.gA x.gs x.gc,abl x.lA x.cl x.lc,abl x.uA x.cu x.uc,abl x.tA x.ts x.tc,abl x.sA x.rs x.sc,.bool true] 273,.blk g1 x.cells 48]) ?_ ?_
  ·
   refine zu ?_
   refine Jb Z b ((Jp 3) (Jh (λV=>?_) λV=>?_))
   ·
    refine (Jp 3) (Ji (λW=>?_) λW=>?_)
    ·
     refine (Jv 19 [(52,.bool true)]∘aJ∘Jq) λa Z b=>?_
     have Z:=Z.sp 52 (.bool (!fu x.ay c)) rfl (congrArg abN (by rw [qod (by rw [f];omega) (by rw [f];exact q60 om)];rfl))
     exact ⟨Z.sub kr,b.pk [0,1]⟩
    obtain ⟨i,X,Y,hil,al1⟩:=qyl (l:=x.ts) (id:=id) om
    refine (Jg 5 O1∘Jp 1∘Jo (vI i) (by rw [X])) ?_
    obtain ⟨Da,Db,P,_⟩:=Rd.sat D.t i
    have o:=D.t;rw [P] at o
    refine (Jk 35 (.slice (some ⟨Da,Db,none⟩) (abo x.ts) x.tc) (h:=by rw [P];try rfl)∘iC i 8∘Jf 5∘Qf qm o 5 i Tk.zero∘Jp 3) (Ju (λp=>?_) λp=>?_)
    ·
     refine (Jv 10 [(52,.bool true)]∘aJ∘Jq) λa Z b=>?_
     have Z:=Z.sp 52 (.bool (!fu x.ay c)) rfl (congrArg abN (by rw [qyf (by rw [f];omega) (by rw [f];exact Y),(acL _).mp p];rfl))
     exact ⟨Z.sub kr,b.pk [0,1]⟩
    refine (Jg 5 O1∘Jp 1∘Jo (vI i) (by rw [X])∘Jk 44 (.slice (some ⟨Da,Db,none⟩) (abo x.ts) x.tc) (h:=by rw [P];try rfl)∘iC i 8∘Jf 3∘Qf qm o 3 i Tk.zero∘Jp 4∘aJ∘Jq) λa Z b=>?_
    have Z:=Z.sp 52 (.bool (!fu x.ay c)) rfl (congrArg abN (by rw [qyf (by rw [f];omega) (by rw [f];exact Y),(aec _).mp p,acn,bne,ab3];simp))
    exact ⟨Z.sub kr,b.pk [0,1]⟩
   refine (Jv 22 [(52,.bool false)]∘eP∘Jq) λa Z b=>?_
   have Z:=Z.sp 52 (.bool (!fu x.ay c)) rfl (congrArg abN (by rw [q1e (by rw [f];omega)];rfl))
   exact ⟨Z.sub kr,b.pk [0,1]⟩
  clear Z b;rintro a w8 ⟨Z,b⟩
  refine Jb Z b (Ju (λq=>?_) λq=>?_)
  ·
   exact (JT∘bE 1∘aW) λb=>dw (HY I (by simpa using q)).symm b.below
  refine (aQ∘JP∘Jg 6 O1∘Jl∘bM 1∘JB) λa Z b=>?_
  refine qg (λT M N=>∃(g:Nat),(g<=abo x.rs)/\(gJ g λg=>kR x.ay g c)/\T=abo x.rs-g/\Fr M 81 [] (ahY 56 g 55 (abo x.rs) ((54,abl x.sA x.rs x.sc)::(52,.bool false)::ahY 6 (fidx x.ts id) 5 id ((4,vI c)::(18,abl (some ⟨F,G,none⟩) x.cu x.uc)::(21,.bool true)::ahY 20 c 19 (abo x.cu) [(3,vP e 0),(13,.bool false),(2,.bool false),(1,vP g1 0)])))/\Mem w N [.blk e #[vI x.au,vQ x.aj,abl x.gA x.gs x.gc,abl x.lA x.cl x.lc,abl x.uA x.cu x.uc,abl x.tA x.ts x.tc,abl x.sA x.rs x.sc,.bool true] 273,.blk g1 x.cells 48]) (m:=abo x.rs-0) ⟨0,abz _,gJ.zero,rfl,Z.sub kr,b.pk [0,1]⟩ ?_
  clear Z b;rintro T a w_ ⟨g,hg,hu2,rfl,Z,b⟩
  refine Jb Z b ((dh 1∘JQ) (Ji (λC8=>?_) λC8=>?_))
  ·
   have d:g<abo x.rs:=by omega
   obtain ⟨y,hy⟩:∃z,x.rs.getD g Rw.zero=z:=⟨_,rfl⟩
   have sN:Rd w w.heap.size 3 y.A (abo y.l) (y.l.flatMap jc):=by rw [<-hy];exact D.row d
   have hyl:(abo y.l:Int)=x.au:=by rw [<-hy];exact (CU d (k.row g d)).1
   refine (eY∘aM 1) ?_
   obtain ⟨AU,AV,Q,_⟩:=Rd.sat D.s g
   have K:=D.s;rw [Q] at K
   refine (Jk 54 (.slice (some ⟨AU,AV,none⟩) (abo x.rs) x.sc) (h:=by rw [Q];try rfl)∘iC g 1∘Jy (v:= .slice ((x.rs.getD g Rw.zero).A) ((x.rs.getD g Rw.zero).l.length) ((x.rs.getD g Rw.zero).c)) (h:=by exact aad K g Rw.zero d rfl rfl)∘Jo (.slice y.A (abo y.l) y.c) (by rw [hy])∘Jp 2∘bg 3∘JL (h:=by exact λb=>Ni x R H k e c om _ g (abu _) d _ (D.old b) (b.blk (i:=0) rfl))) ?_
   rintro b _ w65 ⟨rfl,E⟩
   refine ⟨_,rfl,_,b.call E,?_⟩
   refine (Jp 1∘Jx∘Jx∘JA #[vQ 0,vQ 0,vQ 0]) λw9 g9=>(JV uo aO (h1:=by exact CV (aN bO (aU x.ay g c)))) λIl=>(bM 1) λa Z b=>?_
   refine qy (λM N=>Fr M 81 [] ((78,.bool (!kR x.ay g c))::(10,.bool (!(aU x.ay g c).isEmpty))::(9,vP g9 0)::(8,abl y.A y.l y.c)::(7,vI g)::(54,abl (some ⟨AU,AV,none⟩) x.rs x.sc)::(57,.bool true)::ahY 56 g 55 (abo x.rs) ((52,.bool false)::ahY 6 (fidx x.ts id) 5 id ((4,vI c)::(18,abl (some ⟨F,G,none⟩) x.cu x.uc)::(21,.bool true)::ahY 20 c 19 (abo x.cu) [(3,vP e 0),(13,.bool false),(2,.bool false),(1,vP g1 0)])))/\Mem w N [.blk g9 ((aN bO (aU x.ay g c)).cells) 283,.blk e #[vI x.au,vQ x.aj,abl x.gA x.gs x.gc,abl x.lA x.cl x.lc,abl x.uA x.cu x.uc,abl x.tA x.ts x.tc,abl x.sA x.rs x.sc,.bool true] 273,.blk g1 x.cells 48]) ?_ ?_
   ·
    refine Jb Z b ((Vs .n []) λyP=>(Vp [0,1]) λa Z b HS=>?_)
    rcases Z.tf 69 rfl with ⟨r,Z⟩|⟨r,Z⟩
    ·
     refine Vb Z b HS ((Vp [4,5]∘mK 2 uo O0) ?_)
     obtain ⟨R7,R8,L,_⟩:=Rd.sat sN c
     have B:=sN;rw [L] at B
     intro a Z b HS
     replace Z:=Z.sp 72 (abl (some ⟨R7,R8,none⟩) y.l y.c) rfl (by rw [L];try rfl)
     refine Vb Z b HS ((oq 6 c 3∘Vf 7 2∘Gd 8 yU B 2 c Sp.zero∘VI 3 .n (h:=by exact λb=>zgu (aN bO (aU x.ay g c)) _)) λw71 E=>(Vp [9,10]∘Vd∘lq) λa Z b=>?_)
     have Z:=Z.sp 78 (.bool (!kR x.ay g c)) rfl (congrArg abN (by rw [znn (by simpa using r),RJ d,hy,<-decide_not];exact decide_eq_decide.2 om))
     exact ⟨Z.sub kr,b.pk [0,1,2]⟩
    refine ap Z (λ_=>HS) [2,3,4,5,6,7,8,9,10] (bt 11 []) [(78,.bool false)] λa Z=>?_
    refine qe kr ?_
    have Z:=Z.sp 78 (.bool (!kR x.ay g c)) rfl (congrArg abN (by rw [zjo (by simpa using r)];rfl))
    exact ⟨Z.sub kr,b.pk [0,1,2]⟩
   clear Z b;rintro a ME ⟨Z,b⟩
   refine Jb Z b (Ju (λC=>?_) λC=>?_)
   ·
    exact (JT∘bE 1∘aW) λb=>dw (HZ I d (by simpa using C)).symm b.below
   refine (aQ∘JR∘dA 1∘Jp 1∘aL∘Jq) λa Z b=>?_
   replace Z:=Z.sp 54 (abl x.sA x.rs x.sc) rfl (by rw [Q])
   exact ⟨_,om,g+1,by omega,hu2.succ (by simpa using C),rfl,Z.sub kr,b.pk [1,2]⟩
  refine (JF∘JX∘JG∘JR∘dA 1∘Jp 1∘aL∘Jq) λa Z b=>?_
  replace Z:=Z.sp 18 (abl x.uA x.cu x.uc) rfl (by rw [O])
  exact ⟨_,om,c+1,by omega,hu.succ (by rw [show fu x.ay c=true by simpa using q,acn];exact gJ.all λi hi=>hu2 i om),rfl,Z.sub kr,b.pk [0,1]⟩
 exact (JF∘JX∘JG∘bE 1∘aW) λb=>dw (H6 S (λi hi=>hu i om)).symm b.below
def dV {α:Type} (k:Nat) (f:Nat->List α):List α:=(aco k).flatMap f
theorem qz {α:Type} (k:Nat) (f:Nat->List α):dV (k+1) f=dV k f++f k:=by unfold dV;rw [List.range_succ,ab1];simp
def CW {α:Type} (f:Nat->List α):dV 0 f=[]:=rfl
def H7 {α:Type} {f:Nat->List α} {m:Nat} (h:∀i,abo (f i)<=m):∀k,abo (dV k f)<=m*k
 |0=>abz _
 |k+1=>by rw [qz,abq,ae9];have:=H7 h k;have:=h k;omega
def q6l {α:Type} {f:Nat->List α} {m:Nat}:∀k,(∀i,i<k->abo (f i)<=m)->abo (dV k f)<=m*k
 |0,_=>abz _
 |k+1,h=>by rw [qz,abq,ae9];have:=q6l k (λi hi=>h i om);have:=h k om;omega
def EP {α:Type} {f:Nat->List α} {p:α->Prop}:∀k,(∀i,i<k->∀x∈f i,p x)->∀x∈dV k f,p x
 |0,_=>λx a=>by cases a
 |k+1,h=>λx a=>by
  rw [qz] at a
  rcases acg.1 a with a|a
  ·exact EP k (λi hi=>h i om) x a
  ·exact h k om x a
def aK (n:Int):Nat:=(n%18446744073709551616).toNat
theorem CX (n:Int):aK n<18446744073709551616:=by unfold aK;omega
def RL (n:Int):abT .u64 (Go.IntKind.u64.wrap n)= .int .u64 ((aK n:Nat):Int):=by
 unfold aK
 rw [Int.toNat_of_nonneg (Int.emod_nonneg _ de)]
 rfl
structure dF where
 next:Int
 st:aF
def dF.cells (s:dF):Array aiN:= #[.int .i64 s.next,.int .i64 s.st.au,.int .u64 (s.st.aj:Int),.slice s.st.gA (abo s.st.gs) s.st.gc,.slice s.st.lA (abo s.st.cl) s.st.lc,.slice s.st.uA (abo s.st.cu) s.st.uc,.slice s.st.tA (abo s.st.ts) s.st.tc,.slice s.st.sA (abo s.st.rs) s.st.sc]
def Ng (x:dF):∀v∈x.cells.toList,v.oneCell'=true:=by simp [dF.cells,Value.oneCell']
def uR (l:List Gr) (i:Nat):List Nat:=[aK (l.getD (i+1) Gr.zero).parent,aK (l.getD (i+1) Gr.zero).weight]
def qq (l:List Tk) (i:Nat):Int:=if i=0 then 0 else (l.getD (i-1) Tk.zero).id
def kT (p:Int) (t:Tk):List Nat:=[aK (t.id-p),aK t.group,aK t.weight,aK t.cpu,t.mask,if t.ready then 1 else 0,t.v,t.r]
def nI (g:Nat) (z:Sp):List Nat:=(if 0<g then [z.v,z.r] else [])++[z.floor]
def kU (g:Nat) (l:List Sp):List Nat:=dV (abo l) λc=>nI g (l.getD c Sp.zero)
def aI (s:dF):Nat->List Nat
 |0=>[aK s.next]
 |1=>[aK s.st.au,s.st.aj,abo s.st.gs]
 |2=>dV (abo s.st.gs-1) (uR s.st.gs)
 |3=>s.st.cl.map aK
 |4=>s.st.cu.map aK
 |5=>abo s.st.ts::dV (abo s.st.ts) λi=>kT (qq s.st.ts i) (s.st.ts.getD i Tk.zero)
 |6=>dV (abo s.st.rs) λg=>kU g (s.st.rs.getD g Rw.zero).l
 |_=>[]
def qb:Nat->ByteArray
 |0=>⟨#[110,101,120,116]⟩
 |1=>⟨#[99,111,110,102,105,103]⟩
 |2=>⟨#[103,114,111,117,112,115]⟩
 |3=>⟨#[99,108,111,99,107,115]⟩
 |4=>⟨#[99,117,114,114,101,110,116]⟩
 |5=>⟨#[116,97,115,107,115]⟩
 |6=>⟨#[115,112,111,116,115]⟩
 |_=>⟨#[]⟩
def dP (s:dF):Nat:=if s.next<1\/281474976710657<s.next then 330 else if lu s.st.ay=false then 331 else 0
def eX (s:dF):List Nat:=dV 7 (aI s)
def bR (s:dF):List Nat:=[113,115,1]++(eX s).flatMap ak
def dz (s:dF):List Nat:=if dP s=0 then aY (bR s) else []
structure jV where
 nm:ByteArray
 fr:Nat
 to:Nat
def nJ (s:dF) (i:Nat):Nat:=3+abo ((dV i (aI s)).flatMap ak)
theorem AO (s:dF) (i:Nat):nJ s (i+1)=nJ s i+abo ((aI s i).flatMap ak):=by grind [nJ,qz]
def iy (x:jV):List aiN:=[.string x.nm,.int .i64 (x.fr:Int),.int .i64 (x.to:Int)]
def zda (x:jV):abo (iy x)=3:=rfl
def yt (w:aiM) (R:List Nat) (r:aiQ) (a:aiM):Prop:=
 (∃A c,r= .returned (.slice A (abo R) c)/\a.ownsRow w.heap.size 41 1 (.slice A (abo R) c) (abo R) (R.map bF)/\abo R<=c)/\Below w.heap.size w a
def AP {q:List Nat} (h:q=R) (a:W.ownsRow w.heap.size 41 1 (.slice A (abo q) c) (abo q) (q.map bF)) (hc:abo q<=c) (hb:Below w.heap.size w W):yt w R (.returned (.slice A (abo q) c)) W:=by
 subst h
 exact ⟨⟨A,c,rfl,a,hc⟩,hb⟩
def wz (l:List Nat):∀u∈l.map bF,u.oneCell'=true:=by
 intro u a
 obtain ⟨x,_,rfl⟩:=ab7.1 a
 rfl
theorem qp0 {l:List Int} (h:k<abo l):(l.take (k+1)).map aK=(l.take k).map aK++[aK (l.getD k 0)]:=by grind [abr,adM]
def nS {α:Type} {a b:List α} (h:abo b=n):abo a+n=abo (a++b):=by rw [abq,h]
def q6m (h:n<18446744073709551616):aK (n:Int)=n:=by unfold aK;omega
def zjp {E:aiW} {l:List Gr} (h:Rd w w.heap.size 2 A (abo l) (l.flatMap fQ)) (h1:1<=abo l) (hc:abo l<=c) (b:(if c=1 then A else A.map (·.add (1*2)))=E):Rd w w.heap.size 2 E (abo (l.drop 1)) ((l.drop 1).flatMap fQ):=by
 have a:=Rd.zpc pR h h1 hc
 rw [b] at a
 exact a
def getD_drop {α:Type} (l:List α) (j k:Nat) (d:α):(l.drop j).getD k d=l.getD (k+j) d:=by
 rw [abt,adL,abt,ae7]
def H8 (l:List Tk) (k:Nat):qq l (k+1)=(l.getD k Tk.zero).id:=by unfold qq;rw [if_neg om];rfl
def qvv (l:List Tk):qq l 0=0:=rfl
theorem AQ {z:Sp} (h:0<g):nI g z=[z.v,z.r]++[z.floor]:=by unfold nI;rw [if_pos h]
theorem CY {z:Sp} (h:¬0<g):nI g z=[z.floor]:=by unfold nI;rw [if_neg h];rfl
def H9 {p:Int} {t:Tk} (h:t.ready=true):kT p t=[aK (t.id-p),aK t.group,aK t.weight,aK t.cpu]++[t.mask,1,t.v,t.r]:=by unfold kT;rw [h];rfl
def Ia {p:Int} {t:Tk} (h:t.ready=false):kT p t=[aK (t.id-p),aK t.group,aK t.weight,aK t.cpu]++[t.mask,0,t.v,t.r]:=by unfold kT;rw [h];rfl
def U5 (A:aiW) (c:Nat) (l:List Int) (w:aiM) (hr:Rd w w.heap.size 1 A (abo l) (l.map aZ)) (C:abo l<=1000000):
    Calls abp 277 #[abl A l c] w (yt w (l.map aK)):=by
 refine (fE Tryz.func277 19) ?_
 refine (aM 1∘bg 1∘Jq∘JC (h:=by exact λb=>b.nil 41 1)∘JG∘bN 1∘Jl∘bM 1∘JB) λa Z b=>?_
 refine qg (λt v x=>∃(k:Nat) (q:List Nat) (o:aiW) (co:Nat),(k<=abo l)/\(q=(l.take k).map aK)/\(abo q=k)/\(abo q<=co)/\t=abo l-k/\Fr v 19 [] (ahY 8 k 7 (abo l) [(6,abl A l c),(3,abl o q co),(2,vN)])/\Mem w x [abm o q co bF 41 1]) (m:=abo l-0) ⟨0,[],none,0,abz _,rfl,rfl,abu _,rfl,Z.sub kr,b.pk [0]⟩ ?_
 clear Z b;rintro t a D ⟨k,q,o,co,E,u,p,r,rfl,Z,b⟩
 refine Jb Z b ((dh 1∘JQ) (Ji (λs=>?_) λs=>?_))
 ·
  have f:k<abo l:=by omega
  refine (eY∘JP) ?_
  obtain ⟨gA,F,rfl,_⟩:=hr.sat k
  refine (iC k 1∘Jy (h:=by exact aad hr k 0 f rfl rfl)∘Jp 1∘bU∘Jj∘JR∘Jp 2∘Jv 1 [(14,vQ (IntKind.u64.wrap (l.getD k 0)))]∘Jo (vQ (aK (l.getD k 0))) (by exact RL _)∘JU kM #[vQ (aK (l.getD k 0))]) λy z=>(JD ([aK (l.getD k 0)].map bF) 1 (λ_ _=>gu) kM (hr:=by exact λb=>b.bB (i:=0) (n:=1) (size:=1) rfl rfl) (h1:=by exact wz _)) λB g j e=>(Jp 1∘lq∘Jq) ?_
  have d:abo q+1=abo (q++[aK (l.getD k 0)]):=nS rfl
  rw [d] at e
  refine (JC (h:=by exact λb=>b.bC (i:=1) (ys:=(q++[aK (l.getD k 0)]).map bF) rfl d (List.map_append.symm))∘Jk 3 (.slice g (abo (q++[aK (l.getD k 0)])) j) (h:=by exact iW d)∘JG∘JR∘dA 1∘Jp 1∘aL∘Jq) λa Z b=>?_
  exact ⟨_,om,k+1,(q++[aK (l.getD k 0)]),g,j,by omega,by rw [u,qp0 f],by rw [abq,p];rfl,e,rfl,Z.sub kr,b.pk [1]⟩
 exact (JF∘JX∘JG∘aM 2∘aL∘aP∘aW) λb=>AP (by rw [u,abL om]) (b.own (i:=0) rfl) r b.below
def KC (A:aiW) (c n:Nat) (l:List Int) (R:List Nat) (w:aiM) (a:abo l=n) (hr:Rd w w.heap.size 1 A n (l.map aZ)) (b:n<=1000000) (d:l.map aK=R):
  Calls abp 277 #[.slice A n c] w (yt w R):=by
 subst a;subst d
 exact U5 A c l w hr b
def q9i (s:dF) (d:s.st.ay.Ok) (f:cK s.st) (w:aiM) (g:fA w s.st):
    Calls abp 230 #[.agg s.cells] w (yt w (aI s 0)):=by
 refine (fE Tryz.func230 7) ?_
 refine (JP∘JE) λj g1=>(Jp 1∘Jr∘Jg 0 O0∘JU j6 #[vI s.next]) λk e=>(JK (h:=by exact λa=>KC (some ⟨e,0,none⟩) 1 1 [s.next] [aK s.next] _ rfl (a.bB (i:=0) (n:=1) (size:=1) rfl rfl) de rfl)) λl m o b=>?_
 have c: [aK s.next].length=1:=rfl
 exact (Jp 1∘eP∘aP∘aW) λa=>AP rfl (a.own (i:=0) rfl) b a.below
def qw2 (s:dF) (c:s.st.ay.Ok) (d:cK s.st) (w:aiM) (k:fA w s.st):
    Calls abp 231 #[.agg s.cells] w (yt w (aI s 1)):=by
 have e:=d.g
 refine (fE Tryz.func231 17) ?_
 exact (JP∘JE) λl g1=>(Jp 1∘Jr∘Jf 1∘Jf 0∘Jy (v:= .agg #[vI s.st.au,vQ s.st.aj,abl s.st.gA s.st.gs s.st.gc]) (h:=by exact Pe rfl rfl yV rfl (λ_ h=>h.sub (i:=0) rfl 1 rfl))∘JA #[vI 0,vQ 0,vN]) λm o=>(JV yV aO) λb=>(eP∘Jr∘Jg 0 O0∘Jv 1 [(9,vQ (IntKind.u64.wrap s.st.au))]∘Jo (vQ (aK s.st.au)) (by exact RL _)∘Jg 1 O0∘Jg 2 O0∘Jl∘Jw .u64∘JU kM #[vQ (aK s.st.au),vQ s.st.aj,vQ (abo s.st.gs)]) λf j=>(Jp 1∘aJ∘Jq∘JC (h:=by exact λa=>(a.fU (i:=0) (n:=3) (size:=1) rfl rfl de).dG (i:=0) (ys:=[aK s.st.au,s.st.aj,abo s.st.gs].map bF) rfl (rfl))∘JG∘JZ∘aW) λa=>AP (q:=[aK s.st.au,s.st.aj,abo s.st.gs]) rfl (a.own (i:=0) rfl) (abu 3) a.below
def qw3 (s:dF) (c:s.st.ay.Ok) (d:cK s.st) (w:aiM) (e:fA w s.st):
    Calls abp 233 #[.agg s.cells] w (yt w (aI s 3)):=by
 refine (fE Tryz.func233 7) ?_
 exact (JP∘JE) λf g1=>(Jp 1∘Jr∘Jf 1∘Jg 3 O0∘JK (h:=by exact λa=>U5 s.st.lA s.st.lc s.st.cl _ (a.old e.l) d.l)) λg j k b=>(Jp 1∘eP∘aP∘aW) λa=>AP rfl (a.own (i:=0) rfl) b a.below
def qt2 (s:dF) (c:s.st.ay.Ok) (d:cK s.st) (w:aiM) (e:fA w s.st):
    Calls abp 234 #[.agg s.cells] w (yt w (aI s 4)):=by
 refine (fE Tryz.func234 7) ?_
 exact (JP∘JE) λf g1=>(Jp 1∘Jr∘Jf 1∘Jg 4 O0∘JK (h:=by exact λa=>U5 s.st.uA s.st.uc s.st.cu _ (a.old e.u) d.u)) λg j k b=>(Jp 1∘eP∘aP∘aW) λa=>AP rfl (a.own (i:=0) rfl) b a.below
def qw4 (s:dF) (M:s.st.ay.Ok) (N:cK s.st) (w:aiM) (O:fA w s.st) (hc:gD s.st) (u:ShAt s.st):
    Calls abp 232 #[.agg s.cells] w (yt w (aI s 2)):=by
 have P:=N.g;have x:=hc.g
 have y:=(qt (mM u.cfg).2.2.2).1
 obtain ⟨l,d⟩:∃z,(if s.st.gc=1 then s.st.gA else s.st.gA.map (·.add (1*2)))=z:=⟨_,rfl⟩
 have f:=zjp O.g y x d
 obtain ⟨m,hm⟩:∃z,s.st.gs.drop 1=z:=⟨_,rfl⟩
 have A:abo m=abo s.st.gs-1:=by rw [<-hm,abE]
 rw [hm] at f
 refine (fE Tryz.func232 26) ?_
 refine (JP∘JE) λX g1=>(Jp 1∘bg 1∘Jq∘JC (h:=by exact λb=>b.nil 41 1)∘JG∘JQ∘JP∘Jf 1∘Jf 0∘Jg 2 O1∘Jy (v:= .slice (if s.st.gc=1 then s.st.gA else (s.st.gA:aiW).map (·.add (1*2))) (abo s.st.gs-1) (s.st.gc-1)) (h:=by exact aaf jv (j:=1) rfl rfl rfl om)∘Jo (.slice l (abo m) (s.st.gc-1)) (by rw [d,A])∘Jl∘bM 1∘JB) λa Z b=>?_
 refine qg (λG Q R=>∃(k:Nat) (q:List Nat) (B:aiW) (co:Nat),(k<=abo m)/\(q=dV k (uR s.st.gs))/\(abo q=2*k)/\(abo q<=co)/\G=abo m-k/\Fr Q 26 [] (ahY 12 k 11 (abo m) [(10,abl l m (s.st.gc-1)),(3,abl B q co),(2,vN)])/\Mem w R [abm B q co bF 41 1,.blk g1 s.cells 50]) (m:=abo m-0) ⟨0,[],none,0,abz _,rfl,rfl,abu _,rfl,Z.sub kr,b.pk [0,1]⟩ ?_
 clear Z b;rintro G a Y ⟨k,q,B,co,hk,H,C,D,rfl,Z,b⟩
 refine Jb Z b ((dh 1∘JQ) (Ji (λo=>?_) λo=>?_))
 ·
  have p:k<abo m:=by omega
  refine (eY∘JP) ?_
  obtain ⟨I,J,rfl,_⟩:=f.sat k
  refine (iC k 2∘qD Gr.cells pR f kD k Gr.zero (hk:=p)∘JA #[vI 0,vI 0]) λw5 g5=>(JV kD aO (h1:=by exact ZT (m.getD k Gr.zero))) λK=>(bU∘Jj∘JR∘Jp 1∘Jg 0 O0∘Jg 1 O0∘JU j6 #[vI ((m.getD k Gr.zero).parent),vI ((m.getD k Gr.zero).weight)]) λS E=>(JK (h:=by exact λb=>KC (some ⟨E,0,none⟩) 2 2 [(m.getD k Gr.zero).parent,(m.getD k Gr.zero).weight] [aK (m.getD k Gr.zero).parent,aK (m.getD k Gr.zero).weight] _ rfl (b.bB (i:=0) (n:=2) (size:=1) rfl rfl) de rfl)) λT U V L=>?_
  have F: [aK (m.getD k Gr.zero).parent,aK (m.getD k Gr.zero).weight].length=2:=rfl
  refine (JD ([aK (m.getD k Gr.zero).parent,aK (m.getD k Gr.zero).weight].map bF) 3 (λ_ _=>og) kM (hr:=by exact λb=>b.rd (i:=0) rfl) (h1:=by exact wz _)) λW r t e=>(Jp 1∘aJ∘Jq) ?_
  have c:abo q+([aK (m.getD k Gr.zero).parent,aK (m.getD k Gr.zero).weight].length)=abo (q++[aK (m.getD k Gr.zero).parent,aK (m.getD k Gr.zero).weight]):=nS rfl
  rw [c] at e
  refine (JC (h:=by exact λb=>b.bC (i:=3) (ys:=(q++[aK (m.getD k Gr.zero).parent,aK (m.getD k Gr.zero).weight]).map bF) rfl c (List.map_append.symm))∘Jk 3 (.slice r (abo (q++[aK (m.getD k Gr.zero).parent,aK (m.getD k Gr.zero).weight])) t) (h:=by exact iW c)∘JG∘JR∘dA 1∘Jp 1∘aL∘Jq) λa Z b=>?_
  exact ⟨_,om,k+1,(q++[aK (m.getD k Gr.zero).parent,aK (m.getD k Gr.zero).weight]),r,t,by omega,by rw [H,qz,<-hm,getD_drop];rfl,by rw [abq,C];rfl,e,rfl,Z.sub kr,b.pk [3,4]⟩
 exact (JF∘JX∘JG∘aM 2∘aL∘aP∘aW) λb=>AP (by rw [H,show k=abo s.st.gs-1 by omega];try rfl) (b.own (i:=0) rfl) D b.below
def q20 (s:dF) (L:s.st.ay.Ok) (hf:cK s.st) (w:aiM) (hx:fA w s.st) (hc:gD s.st) (M:ShAt s.st):
    Calls abp 235 #[.agg s.cells] w (yt w (aI s 5)):=by
 have htl:=hf.t
 refine (fE Tryz.func235 53) ?_
 refine (JP∘JE) λw1 g1=>(Jp 1∘Jr∘Jf 1∘Jg 5 O0∘Jl∘JU j6 #[vI (abo s.st.ts)]) λxZ F=>(JK (h:=by exact λb=>KC (some ⟨F,0,none⟩) 1 1 [(abo s.st.ts:Int)] [aK (abo s.st.ts:Int)] _ rfl (b.bB (i:=0) (n:=1) (size:=1) rfl rfl) de rfl)) λG H vH x=>?_
 have N: [aK (abo s.st.ts:Int)].length=1:=rfl
 refine (Jp 1∘lq∘Jq) ?_
 have f: [aK (abo s.st.ts:Int)].length=[abo s.st.ts].length:=rfl
 rw [f] at x
 refine (JC (h:=by exact λb=>b.bC (i:=0) (ys:=[abo s.st.ts].map bF) rfl f (by rw [q6m om]))∘Jk 3 (.slice G ([abo s.st.ts].length) H) (h:=by exact iW f)∘JG∘dh 1∘JQ∘JP∘Jf 1∘Jg 5 O2∘Jl∘bM 1∘JB) λa Z b=>?_
 refine qg (λmS aS wS=>∃(k:Nat) (q:List Nat) (O:aiW) (co:Nat),(k<=abo s.st.ts)/\(0<=qq s.st.ts k/\qq s.st.ts k<=65535)/\(q=[abo s.st.ts]++dV k λi=>kT (qq s.st.ts i) (s.st.ts.getD i Tk.zero))/\(abo q=8*k+1)/\(abo q<=co)/\mS=abo s.st.ts-k/\Fr aS 53 [] (ahY 18 k 17 (abo s.st.ts) [(16,abl s.st.tA s.st.ts s.st.tc),(4,vI (qq s.st.ts k)),(3,abl O q co),(2,vN),(1,vP g1 0)])/\Mem w wS [abm O q co bF 41 1,ahU F (abo s.st.ts),.blk g1 s.cells 50]) (m:=abo s.st.ts-0) ⟨0,[abo s.st.ts],G,H,abz _,by rw [qvv];decide,by rw [CW,abM],rfl,x,rfl,Z.sub kr,b.pk [0,1,2]⟩ ?_
 clear Z b;rintro mS a w_ ⟨k,q,O,co,hk,hp,P,hql,Q,rfl,Z,b⟩
 refine Jb Z b ((dh 1∘JQ) (Ji (λI=>?_) λI=>?_))
 ·
  have g:k<abo s.st.ts:=by omega
  obtain ⟨t,ht⟩:∃z,(s.st.ts.getD k Tk.zero)=z:=⟨_,rfl⟩
  have J:=qL (M.tk k g)
  rw [ht] at J
  have A:=L.ts _ (qf Tk.zero g)
  replace A:Tk.Ok t:=by rw [<-ht];exact A
  have htr:=A.r
  refine (eY∘JP) ?_
  obtain ⟨R,S,u,_⟩:=Rd.sat hx.t k
  have y:=hx.t;rw [u] at y
  refine (Jk 16 (.slice (some ⟨R,S,none⟩) (abo s.st.ts) s.st.tc) (h:=by rw [u];try rfl)∘iC k 8∘qD Tk.cells qm y fF k Tk.zero (hk:=g)∘Jo (.agg t.cells) (by rw [ht])∘JA aiG) λw6 g6=>(JV fF aO (h1:=by exact Ht t)) λCJ=>(bU∘bg 1∘Jj∘JQ∘JP∘Jg 5 O0∘Jj) (Ju (λj=>?_) λj=>?_)
  ·
   refine (JT∘JR∘Jp 1∘bg 1∘Jg 0 O0∘Jp 2∘Jo (vI (t.id-qq s.st.ts k)) (by exact nD ⟨by omega,by omega⟩)∘Jg 1 O0∘Jg 2 O0∘Jg 3 O0∘JU j6 #[vI (t.id-qq s.st.ts k),vI t.group,vI t.weight,vI t.cpu]) λT B=>(JK (h:=by exact λb=>KC (some ⟨B,0,none⟩) 4 4 [t.id-qq s.st.ts k,t.group,t.weight,t.cpu] [aK (t.id-qq s.st.ts k),aK t.group,aK t.weight,aK t.cpu] _ rfl (b.bB (i:=0) (n:=4) (size:=1) rfl rfl) de rfl)) λU V W K=>?_
   have C: [aK (t.id-qq s.st.ts k),aK t.group,aK t.weight,aK t.cpu].length=4:=rfl
   refine (JD ([aK (t.id-qq s.st.ts k),aK t.group,aK t.weight,aK t.cpu].map bF) 3 (λ_ _=>og) kM (hr:=by exact λb=>b.rd (i:=0) rfl) (h1:=by exact wz _)) λX D E l=>(Jp 1∘aJ∘Jq) ?_
   have c:abo q+([aK (t.id-qq s.st.ts k),aK t.group,aK t.weight,aK t.cpu].length)=abo (q++[aK (t.id-qq s.st.ts k),aK t.group,aK t.weight,aK t.cpu]):=nS rfl
   rw [c] at l
   refine (JC (h:=by exact λb=>b.bC (i:=3) (ys:=(q++[aK (t.id-qq s.st.ts k),aK t.group,aK t.weight,aK t.cpu]).map bF) rfl c (List.map_append.symm))∘Jk 3 (.slice D (abo (q++[aK (t.id-qq s.st.ts k),aK t.group,aK t.weight,aK t.cpu])) E) (h:=by exact iW c)∘JG∘aM 1∘Jg 4 O2∘Jp 1∘Jg 6 O2∘Jg 7 O2∘Jw .u64∘JU kM #[vQ t.mask,vQ 1,vQ t.v,vQ t.r]) λY g47=>(JD ([t.mask,1,t.v,t.r].map bF) 4 (λ_ _=>qB) kM (hr:=by exact λb=>b.bB (i:=0) (n:=4) (size:=1) rfl rfl) (h1:=by exact wz _)) λCx o p e=>(Jp 1∘aJ∘Jq) ?_
   have d:(abo (q++[aK (t.id-qq s.st.ts k),aK t.group,aK t.weight,aK t.cpu]))+4=abo ((q++[aK (t.id-qq s.st.ts k),aK t.group,aK t.weight,aK t.cpu])++[t.mask,1,t.v,t.r]):=nS rfl
   rw [d] at e
   refine (JC (h:=by exact λb=>b.bC (i:=4) (ys:=((q++[aK (t.id-qq s.st.ts k),aK t.group,aK t.weight,aK t.cpu])++[t.mask,1,t.v,t.r]).map bF) rfl d (List.map_append.symm))∘Jk 3 (.slice o (abo ((q++[aK (t.id-qq s.st.ts k),aK t.group,aK t.weight,aK t.cpu])++[t.mask,1,t.v,t.r])) p) (h:=by exact iW d)∘JG∘JR∘Jf 0∘Jc O3∘Jo (vI (qq s.st.ts (k+1))) (by rw [H8,ht])∘Jp 1∘bU∘Jj∘JR∘dA 1∘Jp 1∘aL∘Jq) λa Z b=>?_
   replace Z:=Z.sp 16 (abl s.st.tA s.st.ts s.st.tc) rfl (by rw [u])
   exact ⟨_,om,k+1,(q++[aK (t.id-qq s.st.ts k),aK t.group,aK t.weight,aK t.cpu]++[t.mask,1,t.v,t.r]),o,p,by omega,by rw [H8,ht];omega,by rw [P,qz,ht,H9 j,abv,abv],by (simp only [abq,abV,aeh];omega),e,rfl,Z.sub kr,b.pk [4,5,6]⟩
  refine (aQ∘aM 1∘Jg 0 O0∘Jp 2∘Jo (vI (t.id-qq s.st.ts k)) (by exact nD ⟨by omega,by omega⟩)∘Jg 1 O0∘Jg 2 O0∘Jg 3 O0∘JU j6 #[vI (t.id-qq s.st.ts k),vI t.group,vI t.weight,vI t.cpu]) λT B=>(JK (h:=by exact λb=>KC (some ⟨B,0,none⟩) 4 4 [t.id-qq s.st.ts k,t.group,t.weight,t.cpu] [aK (t.id-qq s.st.ts k),aK t.group,aK t.weight,aK t.cpu] _ rfl (b.bB (i:=0) (n:=4) (size:=1) rfl rfl) de rfl)) λU V W K=>?_
  have C: [aK (t.id-qq s.st.ts k),aK t.group,aK t.weight,aK t.cpu].length=4:=rfl
  refine (JD ([aK (t.id-qq s.st.ts k),aK t.group,aK t.weight,aK t.cpu].map bF) 3 (λ_ _=>og) kM (hr:=by exact λb=>b.rd (i:=0) rfl) (h1:=by exact wz _)) λX D E l=>(Jp 1∘aJ∘Jq) ?_
  have c:abo q+([aK (t.id-qq s.st.ts k),aK t.group,aK t.weight,aK t.cpu].length)=abo (q++[aK (t.id-qq s.st.ts k),aK t.group,aK t.weight,aK t.cpu]):=nS rfl
  rw [c] at l
  refine (JC (h:=by exact λb=>b.bC (i:=3) (ys:=(q++[aK (t.id-qq s.st.ts k),aK t.group,aK t.weight,aK t.cpu]).map bF) rfl c (List.map_append.symm))∘Jk 3 (.slice D (abo (q++[aK (t.id-qq s.st.ts k),aK t.group,aK t.weight,aK t.cpu])) E) (h:=by exact iW c)∘JG∘aM 1∘Jg 4 O2∘Jp 1∘Jg 6 O2∘Jg 7 O2∘Jw .u64∘JU kM #[vQ t.mask,vQ 0,vQ t.v,vQ t.r]) λY g47=>(JD ([t.mask,0,t.v,t.r].map bF) 4 (λ_ _=>qB) kM (hr:=by exact λb=>b.bB (i:=0) (n:=4) (size:=1) rfl rfl) (h1:=by exact wz _)) λCx o p e=>(Jp 1∘aJ∘Jq) ?_
  have d:(abo (q++[aK (t.id-qq s.st.ts k),aK t.group,aK t.weight,aK t.cpu]))+4=abo ((q++[aK (t.id-qq s.st.ts k),aK t.group,aK t.weight,aK t.cpu])++[t.mask,0,t.v,t.r]):=nS rfl
  rw [d] at e
  refine (JC (h:=by exact λb=>b.bC (i:=4) (ys:=((q++[aK (t.id-qq s.st.ts k),aK t.group,aK t.weight,aK t.cpu])++[t.mask,0,t.v,t.r]).map bF) rfl d (List.map_append.symm))∘Jk 3 (.slice o (abo ((q++[aK (t.id-qq s.st.ts k),aK t.group,aK t.weight,aK t.cpu])++[t.mask,0,t.v,t.r])) p) (h:=by exact iW d)∘JG∘JR∘Jf 0∘Jc O3∘Jo (vI (qq s.st.ts (k+1))) (by rw [H8,ht])∘Jp 1∘bU∘Jj∘JR∘dA 1∘Jp 1∘aL∘Jq) λa Z b=>?_
  replace Z:=Z.sp 16 (abl s.st.tA s.st.ts s.st.tc) rfl (by rw [u])
  exact ⟨_,om,k+1,(q++[aK (t.id-qq s.st.ts k),aK t.group,aK t.weight,aK t.cpu]++[t.mask,0,t.v,t.r]),o,p,by omega,by rw [H8,ht];omega,by rw [P,qz,ht,Ia j,abv,abv],by (simp only [abq,abV,aeh];omega),e,rfl,Z.sub kr,b.pk [4,5,6]⟩
 exact (JF∘JX∘JG∘aM 2∘aL∘aP∘aW) λb=>AP (by rw [P,show k=abo s.st.ts by omega];try rfl) (b.own (i:=0) rfl) Q b.below
def q21 (s:dF) (Q:s.st.ay.Ok) (hf:cK s.st) (w:aiM) (R:fA w s.st) (hc:gD s.st) (F:ShAt s.st):
    Calls abp 236 #[.agg s.cells] w (yt w (aI s 6)):=by
 have hrl:=hf.s
 obtain ⟨hc1,hc2,_,_⟩:=mM F.cfg
 refine (fE Tryz.func236 41) ?_
 refine (JP∘JE) λw1 g1=>(Jp 1∘bg 1∘Jq∘JC (h:=by exact λb=>b.nil 41 1)∘JG∘JQ∘JP∘Jf 1∘Jg 6 O1∘Jl∘bM 1∘JB) λa Z b=>?_
 refine qg (λG S T=>∃(g:Nat) (q:List Nat) (p:aiW) (co:Nat),(g<=abo s.st.rs)/\(q=dV g λi=>kU i (s.st.rs.getD i Rw.zero).l)/\(abo q<=192*g)/\(abo q<=co)/\G=abo s.st.rs-g/\Fr S 41 [] (ahY 12 g 11 (abo s.st.rs) [(10,abl s.st.sA s.st.rs s.st.sc),(3,abl p q co),(2,vN)])/\Mem w T [abm p q co bF 41 1,.blk g1 s.cells 50]) (m:=abo s.st.rs-0) ⟨0,[],none,0,abz _,rfl,abu _,abu _,rfl,Z.sub kr,b.pk [0,1]⟩ ?_
 clear Z b;rintro G a w_ ⟨g,q,p,co,hg,E,U,t,rfl,Z,b⟩
 refine Jb Z b ((dh 1∘JQ) (Ji (λH=>?_) λH=>?_))
 ·
  have e:g<abo s.st.rs:=by omega
  obtain ⟨y,I⟩:∃z,s.st.rs.getD g Rw.zero=z:=⟨_,rfl⟩
  have J:Rd w w.heap.size 3 y.A (abo y.l) (y.l.flatMap jc):=by rw [<-I];exact R.row e
  have hyl:(abo y.l:Int)=s.st.au:=by rw [<-I];exact (CU e (F.row g e)).1
  have V:∀z∈y.l,z.Ok:=by rw [<-I,<-kC e];exact Q.sp _ (qf [] (by rw [lJ];exact e))
  refine (eY∘aM 1) ?_
  obtain ⟨K,L,D,_⟩:=Rd.sat R.s g
  have x:=R.s;rw [D] at x
  refine (Jk 10 (.slice (some ⟨K,L,none⟩) (abo s.st.rs) s.st.sc) (h:=by rw [D];try rfl)∘iC g 1∘Jy (v:= .slice ((s.st.rs.getD g Rw.zero).A) ((s.st.rs.getD g Rw.zero).l.length) ((s.st.rs.getD g Rw.zero).c)) (h:=by exact aad x g Rw.zero e rfl rfl)∘Jo (.slice y.A (abo y.l) y.c) (by rw [I])∘Jp 2∘bg 1∘Jl∘bM 1∘JB) λa Z b=>?_
  refine qg (λG S T=>∃(c:Nat) (q:List Nat) (p:aiW) (co:Nat),(c<=abo y.l)/\(q=(dV g λi=>kU i (s.st.rs.getD i Rw.zero).l)++dV c λi=>nI g (y.l.getD i Sp.zero))/\(abo q<=192*g+3*c)/\(abo q<=co)/\G=abo y.l-c/\Fr S 41 [] (ahY 19 c 18 (abo y.l) ((17,abl y.A y.l y.c)::(5,abl y.A y.l y.c)::(4,vI g)::(10,abl (some ⟨K,L,none⟩) s.st.rs s.st.sc)::(13,.bool true)::ahY 12 g 11 (abo s.st.rs) [(3,abl p q co),(2,vN)]))/\Mem w T [abm p q co bF 41 1,.blk g1 s.cells 50]) (m:=abo y.l-0) ⟨0,q,p,co,abz _,by rw [E,CW,abM],by omega,t,rfl,Z.sub kr,b.pk [0,1]⟩ ?_
  clear Z b;rintro G a w_ ⟨c,q,p,co,hc,E,U,t,rfl,Z,b⟩
  refine Jb Z b ((dh 1∘JQ) (Ji (λM=>?_) λM=>?_))
  ·
   have B:c<abo y.l:=by omega
   obtain ⟨z,hz⟩:∃q,(y.l.getD c Sp.zero)=q:=⟨_,rfl⟩
   have N:=V _ (qf Sp.zero B)
   rw [hz] at N
   have hzr:=N.r
   refine (eY∘JP) ?_
   obtain ⟨W,X,u,_⟩:=Rd.sat J c
   have C:=J;rw [u] at C
   refine (Jk 17 (.slice (some ⟨W,X,none⟩) (abo y.l) y.c) (h:=by rw [u];try rfl)∘iC c 3∘qD Sp.cells yU C lY c Sp.zero (hk:=B)∘Jo (.agg z.cells) (by rw [hz])∘JA #[vQ 0,vW 0,vQ 0]) λw7 g7=>(JV lY aO (h1:=by exact ZU z)) λarF=>(bU∘Jj∘bN 2∘aL∘Jj) (Ji (λO=>?_) λO=>?_)
   ·
    refine (JT∘JR∘Jp 1∘Jg 0 O0∘Jg 1 O0∘Jw .u64∘JU kM #[vQ z.v,vQ z.r]) λGX g31=>(JD ([z.v,z.r].map bF) 2 (λ_ _=>iG) kM (hr:=by exact λb=>b.bB (i:=0) (n:=2) (size:=1) rfl rfl) (h1:=by exact wz _)) λw32 Y c32 P=>(Jp 1∘aJ∘Jq) ?_
    have j:abo q+2=abo (q++[z.v,z.r]):=nS rfl
    rw [j] at P
    refine (JC (h:=by exact λb=>b.bC (i:=2) (ys:=(q++[z.v,z.r]).map bF) rfl j (List.map_append.symm))∘Jk 3 (.slice Y (abo (q++[z.v,z.r])) c32) (h:=by exact iW j)∘JG∘JR∘Jp 1∘Jg 2 O1∘JU kM #[vQ z.floor]) λw36 g36=>(JD ([z.floor].map bF) 3 (λ_ _=>og) kM (hr:=by exact λb=>b.bB (i:=0) (n:=1) (size:=1) rfl rfl) (h1:=by exact wz _)) λEJ k o f=>(Jp 1∘fJ∘Jq) ?_
    have d:(abo (q++[z.v,z.r]))+1=abo ((q++[z.v,z.r])++[z.floor]):=nS rfl
    rw [d] at f
    refine (JC (h:=by exact λb=>b.bC (i:=3) (ys:=((q++[z.v,z.r])++[z.floor]).map bF) rfl d (List.map_append.symm))∘Jk 3 (.slice k (abo ((q++[z.v,z.r])++[z.floor])) o) (h:=by exact iW d)∘JG∘JR∘dA 1∘Jp 1∘aL∘Jq) λa Z b=>?_
    replace Z:=Z.sp 17 (abl y.A y.l y.c) rfl (by rw [u])
    exact ⟨_,om,c+1,((q++[z.v,z.r])++[z.floor]),k,o,by omega,by rw [E,qz,hz,AQ om];simp only [abv],by (simp only [abq,abV,aeh];omega),f,rfl,Z.sub kr,b.pk [3,4]⟩
   refine (aQ∘JR∘Jp 1∘Jg 2 O0∘JU kM #[vQ z.floor]) λw36 g36=>(JD ([z.floor].map bF) 2 (λ_ _=>iG) kM (hr:=by exact λb=>b.bB (i:=0) (n:=1) (size:=1) rfl rfl) (h1:=by exact wz _)) λEJ k o f=>(Jp 1∘fJ∘Jq) ?_
   have d:abo q+1=abo (q++[z.floor]):=nS rfl
   rw [d] at f
   refine (JC (h:=by exact λb=>b.bC (i:=2) (ys:=(q++[z.floor]).map bF) rfl d (List.map_append.symm))∘Jk 3 (.slice k (abo (q++[z.floor])) o) (h:=by exact iW d)∘JG∘JR∘dA 1∘Jp 1∘aL∘Jq) λa Z b=>?_
   replace Z:=Z.sp 17 (abl y.A y.l y.c) rfl (by rw [u])
   exact ⟨_,om,c+1,(q++[z.floor]),k,o,by omega,by rw [E,qz,hz,CY om,abv],by (simp only [abq,abV,aeh];omega),f,rfl,Z.sub kr,b.pk [2,3]⟩
  refine (JF∘JX∘JG∘JR∘dA 1∘Jp 1∘aL∘Jq) λa Z b=>?_
  replace Z:=Z.sp 10 (abl s.st.sA s.st.rs s.st.sc) rfl (by rw [D])
  exact ⟨_,om,g+1,q,p,co,by omega,by rw [E,show c=abo y.l by omega,qz,I];rfl,by omega,t,rfl,Z.sub kr,b.pk [0,1]⟩
 exact (JF∘JX∘JG∘aM 2∘aL∘aP∘aW) λb=>AP (by rw [E,show g=abo s.st.rs by omega];try rfl) (b.own (i:=0) rfl) t b.below
def sW:SI abp 362 2:=⟨by kernel_rfl,by kernel_rfl⟩
def zlc:EI abp 363 362 (.agg #[.string (aby #[]),.nilFunc]) 2 24:=⟨by kernel_rfl,by kernel_rfl,rfl,by omega⟩
def q6 (s:dF):Array aiN:= #[.string (aby #[110,101,120,116]),.func (.func 230) #[.agg s.cells] #[],.string (aby #[99,111,110,102,105,103]),.func (.func 231) #[.agg s.cells] #[],.string (aby #[103,114,111,117,112,115]),.func (.func 232) #[.agg s.cells] #[],.string (aby #[99,108,111,99,107,115]),.func (.func 233) #[.agg s.cells] #[],.string (aby #[99,117,114,114,101,110,116]),.func (.func 234) #[.agg s.cells] #[],.string (aby #[116,97,115,107,115]),.func (.func 235) #[.agg s.cells] #[],.string (aby #[115,112,111,116,115]),.func (.func 236) #[.agg s.cells] #[]]
def qzn (P:aiO) (W:aiM) (a:Nat) (s:dF) (Inv:Nat->List aiX->Prop):Prop:=
 ∀(i:Nat) (F fr:List aiX) (w:aiM) (A:aiW) (c:Nat),Inv i F->i<7->abo (aI s i)<=c->Mem W w (.row (.slice A (abo (aI s i)) c) (abo (aI s i)) ((aI s i).map bF) 41 1::(F++fr))->YieldAt acf 0 P a #[.string (qb i),.slice A (abo (aI s i)) c] w (Rx W fr (Inv (i+1)))
def q9j (s:dF) (w:aiM):
    Calls abp 166 #[.agg s.cells] w λr e=>∃d gp,r= .returned (.func (.func 237) #[] #[vP d 0])/\Mem w e [.blk d #[.slice (some ⟨gp,0,none⟩) 7 7] 363,.blk gp (q6 s) 362]:=by
 refine (fE Tryz.func166 27) ?_
 refine (JP∘JE) λj g1=>(Jp 1∘Jr∘eH zo O0∘Jy (h:=by exact Yl.makeFunc (fst:=[.agg s.cells]) (caps:=[]) rfl rfl rfl)∘fD #[.string (aby #[110,101,120,116]),.func (.func 230) #[.agg s.cells] #[]]∘eH zo O0∘Jy (h:=by exact Yl.makeFunc (fst:=[.agg s.cells]) (caps:=[]) rfl rfl rfl)∘fD #[.string (aby #[99,111,110,102,105,103]),.func (.func 231) #[.agg s.cells] #[]]∘eH zo O0∘Jy (h:=by exact Yl.makeFunc (fst:=[.agg s.cells]) (caps:=[]) rfl rfl rfl)∘fD #[.string (aby #[103,114,111,117,112,115]),.func (.func 232) #[.agg s.cells] #[]]∘eH zo O0∘Jy (h:=by exact Yl.makeFunc (fst:=[.agg s.cells]) (caps:=[]) rfl rfl rfl)∘fD #[.string (aby #[99,108,111,99,107,115]),.func (.func 233) #[.agg s.cells] #[]]∘eH zo O0∘Jy (h:=by exact Yl.makeFunc (fst:=[.agg s.cells]) (caps:=[]) rfl rfl rfl)∘fD #[.string (aby #[99,117,114,114,101,110,116]),.func (.func 234) #[.agg s.cells] #[]]∘eH zo O0∘Jy (h:=by exact Yl.makeFunc (fst:=[.agg s.cells]) (caps:=[]) rfl rfl rfl)∘fD #[.string (aby #[116,97,115,107,115]),.func (.func 235) #[.agg s.cells] #[]]∘eH zo O0∘Jy (h:=by exact Yl.makeFunc (fst:=[.agg s.cells]) (caps:=[]) rfl rfl rfl)∘fD #[.string (aby #[115,112,111,116,115]),.func (.func 236) #[.agg s.cells] #[]]) λa Z b=>?_
 refine fo Z 21 rfl rfl (jA Z b zlc [(0,.agg #[.string (aby #[110,101,120,116]),.func (.func 230) #[.agg s.cells] #[]]),(1,.agg #[.string (aby #[99,111,110,102,105,103]),.func (.func 231) #[.agg s.cells] #[]]),(2,.agg #[.string (aby #[103,114,111,117,112,115]),.func (.func 232) #[.agg s.cells] #[]]),(3,.agg #[.string (aby #[99,108,111,99,107,115]),.func (.func 233) #[.agg s.cells] #[]]),(4,.agg #[.string (aby #[99,117,114,114,101,110,116]),.func (.func 234) #[.agg s.cells] #[]]),(5,.agg #[.string (aby #[116,97,115,107,115]),.func (.func 235) #[.agg s.cells] #[]]),(6,.agg #[.string (aby #[115,112,111,116,115]),.func (.func 236) #[.agg s.cells] #[]])] (q6 s) ?_)
 clear Z b;intro a f g Z b
 exact Jb Z b ((JA #[vN]) λk i=>(JW aO aO) λc=>(aJ∘Jr∘Jy (h:=by exact Yl.makeFunc (fst:=[]) (caps:=[vP i 0]) rfl rfl rfl)∘Jp 1∘aL∘aP∘aW) λb=>by exact ⟨_,_,rfl,b.pk [0,1]⟩)
abbrev ahO:=λa b c d=>(.blk a #[vS b 7 7] 363::.blk b (q6 c) 362::d:List aiX)
abbrev ah0:=λa b=>(.blk a #[.string (aby #[99,117,114,114,101,110,116]),.func (.func 234) #[.agg b] #[]] 362:aiX)
abbrev ah2:=λa b=>(.blk a #[.string (aby #[103,114,111,117,112,115]),.func (.func 232) #[.agg b] #[]] 362:aiX)
abbrev ah3:=λa b=>(.blk a #[.string (aby #[99,111,110,102,105,103]),.func (.func 231) #[.agg b] #[]] 362:aiX)
abbrev ah4:=λa b=>(.blk a #[.string (aby #[99,108,111,99,107,115]),.func (.func 233) #[.agg b] #[]] 362:aiX)
abbrev ah7:=λa b=>(.blk a #[.string (aby #[115,112,111,116,115]),.func (.func 236) #[.agg b] #[]] 362:aiX)
abbrev ah9:=λa b=>(.blk a #[.string (aby #[116,97,115,107,115]),.func (.func 235) #[.agg b] #[]] 362:aiX)
abbrev aib:=λa b=>(.blk a #[.string (aby #[110,101,120,116]),.func (.func 230) #[.agg b] #[]] 362:aiX)
abbrev aik:=λa b c=>((14,vP a 1)::(12,vP a 0)::(11,.func (.yield b) #[] #[])::c:List (Nat×aiN))
def q22 (W w:aiM) (g gp u:Nat) (s:dF) (x:s.st.ay.Ok) (C:cK s.st) (D:fA W s.st) (hc:gD s.st) (E:ShAt s.st) (Inv:Nat->List aiX->Prop) (H:List aiX) (hy:qzn abp W u s Inv) (I:Inv 0 H) (b:Mem W w (.blk g #[.slice (some ⟨gp,0,none⟩) 7 7] 363:: .blk gp (q6 s) 362::H)):
    Calls abp 237 (.func (.yield u) #[] #[]:: [vP g 0]).toArray w (ZV W (Inv 7)):=by
 refine nP Tryz.func237 [.func (.yield u) #[] #[],vP g 0] [ahZ u,(1,vP g 0)] λa Z=>?_
 refine Jb Z b ((JP∘Jc O0∘Jl∘bM 1∘JB) λa Z b=>?_)
 refine qg (λK L M=>∃(k:Nat) (F:List aiX),(k<=7)/\(Inv k F)/\K=7-k/\Fr L 20 [] [(7,vI k),(6,vI 7),(5,vS gp 7 7),ahZ u]/\Mem W M (ahO g gp s F)) (m:=7-0) ⟨0,H,by decide,I,rfl,Z.sub kr,b.pt 2 [0,1]⟩ ?_
 clear Z b;rintro K a N ⟨k,F,O,B,rfl,Z,b⟩
 refine Jb Z b ((dh 1∘JQ) (Ji (λJ=>?_) λJ=>?_))
 ·
  repeat (first|clear Z|clear b)
  intro a Z b
  obtain rfl|rfl|rfl|rfl|rfl|rfl|rfl:k=0\/k=1\/k=2\/k=3\/k=4\/k=5\/k=6:=by omega
  ·
   replace Z:=Z.sp 7 (vI 0) rfl rfl
   refine Jb Z b ((eY∘JP∘Jy (v:=vP gp 0) (h:=by exact Yl.indexAddr (ad:=⟨gp,0,none⟩) (y:=0) (sz:=2) rfl rfl rfl de kr)∘Jy (v:= .agg #[.string (aby #[110,101,120,116]),.func (.func 230) #[.agg s.cells] #[]]) (h:=by exact Pe rfl rfl sW rfl (λ_ h=>h.sub (i:=1) rfl 0 rfl))∘JA #[.string (aby #[]),.nilFunc]) λG c=>(JV sW aO) λr=>(bU∘Jj) λa Z b=>?_)
   refine wp_seq ?_
   refine DR 6 b (aib c s.cells::ahO g gp s F) 3 [0,1,2] [] λb l=>?_
   refine ap Z (λ_=>l) [0,1,3] (bf 6 [0,1,3]) (aik c u []) λa Z=>?_
   refine dH Z l 2 0 λa Z=>?_
   refine dH Z l 4 0 λa Z=>?_
   refine s_on Z 5 rfl ?_
   refine zh Z (f:=230) (vs:=[]) (fst:=[.agg s.cells]) (caps:=[]) rfl rfl rfl kr rfl de (q9i s x C _ (D.old b)) ?_
   rintro _ z ⟨⟨d,e,rfl,A,j⟩,n⟩
   refine ⟨_,rfl,?_⟩
   replace b:=b.cZ n A
   clear Z;intro a Z
   refine av (b.pt 4 [1,2,3]) (λl=>?_)
   refine qe kr ?_
   replace b:=b.pt (fs':=(abm d (aI s 0) e bF 41 1::aib c s.cells::ahO g gp s F)) 4 [0,1,2,3]
   refine uJ Z (i:=6) (vs:=[.string (aby #[110,101,120,116]),abl d (aI s 0) e]) rfl rfl rfl rfl rfl rfl de (hy 0 F (aib c s.cells::ahO g gp s []) _ d e B om j (aal (es:=(aib c s.cells::ahO g gp s [])) b)) zp ?_
   clear Z b;rintro v o a ⟨t,b,p,q⟩ Z;injection p with p;subst p
   replace b:Mem W o (aib c s.cells::ahO g gp s t):=aag (es:=(aib c s.cells::ahO g gp s [])) b
   replace Z:=Z.to [(17,.bool true),(7,vI 0),(6,vI 7),(5,vS gp 7 7),ahZ u]
   refine Jb Z b ((Jp 1∘aL∘Jq∘aQ∘JR∘Jv 2 [(7,vI 1)]∘Jq) λa Z b=>?_)
   exact ⟨_,om,1,t,by omega,q,rfl,Z.sub kr,b.pt 3 [1,2]⟩
  ·
   replace Z:=Z.sp 7 (vI 1) rfl rfl
   refine Jb Z b ((eY∘JP∘Jy (v:=vP gp 2) (h:=by exact Yl.indexAddr (ad:=⟨gp,0,none⟩) (y:=1) (sz:=2) rfl rfl rfl de kr)∘Jy (v:= .agg #[.string (aby #[99,111,110,102,105,103]),.func (.func 231) #[.agg s.cells] #[]]) (h:=by exact Pe rfl rfl sW rfl (λ_ h=>h.sub (i:=1) rfl 2 rfl))∘JA #[.string (aby #[]),.nilFunc]) λG c=>(JV sW aO) λr=>(bU∘Jj) λa Z b=>?_)
   refine wp_seq ?_
   refine DR 6 b (ah3 c s.cells::ahO g gp s F) 3 [0,1,2] [] λb l=>?_
   refine ap Z (λ_=>l) [0,1,3] (bf 6 [0,1,3]) (aik c u []) λa Z=>?_
   refine dH Z l 2 0 λa Z=>?_
   refine dH Z l 4 0 λa Z=>?_
   refine s_on Z 5 rfl ?_
   refine zh Z (f:=231) (vs:=[]) (fst:=[.agg s.cells]) (caps:=[]) rfl rfl rfl kr rfl de (qw2 s x C _ (D.old b)) ?_
   rintro _ z ⟨⟨d,e,rfl,A,j⟩,n⟩
   refine ⟨_,rfl,?_⟩
   replace b:=b.cZ n A
   clear Z;intro a Z
   refine av (b.pt 4 [1,2,3]) (λl=>?_)
   refine qe kr ?_
   replace b:=b.pt (fs':=(abm d (aI s 1) e bF 41 1::ah3 c s.cells::ahO g gp s F)) 4 [0,1,2,3]
   refine uJ Z (i:=6) (vs:=[.string (aby #[99,111,110,102,105,103]),abl d (aI s 1) e]) rfl rfl rfl rfl rfl rfl de (hy 1 F (ah3 c s.cells::ahO g gp s []) _ d e B om j (aal (es:=(ah3 c s.cells::ahO g gp s [])) b)) zp ?_
   clear Z b;rintro v o a ⟨t,b,p,q⟩ Z;injection p with p;subst p
   replace b:Mem W o (ah3 c s.cells::ahO g gp s t):=aag (es:=(ah3 c s.cells::ahO g gp s [])) b
   replace Z:=Z.to [(17,.bool true),(7,vI 1),(6,vI 7),(5,vS gp 7 7),ahZ u]
   refine Jb Z b ((Jp 1∘aL∘Jq∘aQ∘JR∘Jv 2 [(7,vI 2)]∘Jq) λa Z b=>?_)
   exact ⟨_,om,2,t,by omega,q,rfl,Z.sub kr,b.pt 3 [1,2]⟩
  ·
   replace Z:=Z.sp 7 (vI 2) rfl rfl
   refine Jb Z b ((eY∘JP∘Jy (v:=vP gp 4) (h:=by exact Yl.indexAddr (ad:=⟨gp,0,none⟩) (y:=2) (sz:=2) rfl rfl rfl de kr)∘Jy (v:= .agg #[.string (aby #[103,114,111,117,112,115]),.func (.func 232) #[.agg s.cells] #[]]) (h:=by exact Pe rfl rfl sW rfl (λ_ h=>h.sub (i:=1) rfl 4 rfl))∘JA #[.string (aby #[]),.nilFunc]) λG c=>(JV sW aO) λr=>(bU∘Jj) λa Z b=>?_)
   refine wp_seq ?_
   refine DR 6 b (ah2 c s.cells::ahO g gp s F) 3 [0,1,2] [] λb l=>?_
   refine ap Z (λ_=>l) [0,1,3] (bf 6 [0,1,3]) (aik c u []) λa Z=>?_
   refine dH Z l 2 0 λa Z=>?_
   refine dH Z l 4 0 λa Z=>?_
   refine s_on Z 5 rfl ?_
   refine zh Z (f:=232) (vs:=[]) (fst:=[.agg s.cells]) (caps:=[]) rfl rfl rfl kr rfl de (qw4 s x C _ (D.old b) hc E) ?_
   rintro _ z ⟨⟨d,e,rfl,A,j⟩,n⟩
   refine ⟨_,rfl,?_⟩
   replace b:=b.cZ n A
   clear Z;intro a Z
   refine av (b.pt 4 [1,2,3]) (λl=>?_)
   refine qe kr ?_
   replace b:=b.pt (fs':=(abm d (aI s 2) e bF 41 1::ah2 c s.cells::ahO g gp s F)) 4 [0,1,2,3]
   refine uJ Z (i:=6) (vs:=[.string (aby #[103,114,111,117,112,115]),abl d (aI s 2) e]) rfl rfl rfl rfl rfl rfl de (hy 2 F (ah2 c s.cells::ahO g gp s []) _ d e B om j (aal (es:=(ah2 c s.cells::ahO g gp s [])) b)) zp ?_
   clear Z b;rintro v o a ⟨t,b,p,q⟩ Z;injection p with p;subst p
   replace b:Mem W o (ah2 c s.cells::ahO g gp s t):=aag (es:=(ah2 c s.cells::ahO g gp s [])) b
   replace Z:=Z.to [(17,.bool true),(7,vI 2),(6,vI 7),(5,vS gp 7 7),ahZ u]
   refine Jb Z b ((Jp 1∘aL∘Jq∘aQ∘JR∘Jv 2 [(7,vI 3)]∘Jq) λa Z b=>?_)
   exact ⟨_,om,3,t,by omega,q,rfl,Z.sub kr,b.pt 3 [1,2]⟩
  ·
   replace Z:=Z.sp 7 (vI 3) rfl rfl
   refine Jb Z b ((eY∘JP∘Jy (v:=vP gp 6) (h:=by exact Yl.indexAddr (ad:=⟨gp,0,none⟩) (y:=3) (sz:=2) rfl rfl rfl de kr)∘Jy (v:= .agg #[.string (aby #[99,108,111,99,107,115]),.func (.func 233) #[.agg s.cells] #[]]) (h:=by exact Pe rfl rfl sW rfl (λ_ h=>h.sub (i:=1) rfl 6 rfl))∘JA #[.string (aby #[]),.nilFunc]) λG c=>(JV sW aO) λr=>(bU∘Jj) λa Z b=>?_)
   refine wp_seq ?_
   refine DR 6 b (ah4 c s.cells::ahO g gp s F) 3 [0,1,2] [] λb l=>?_
   refine ap Z (λ_=>l) [0,1,3] (bf 6 [0,1,3]) (aik c u []) λa Z=>?_
   refine dH Z l 2 0 λa Z=>?_
   refine dH Z l 4 0 λa Z=>?_
   refine s_on Z 5 rfl ?_
   refine zh Z (f:=233) (vs:=[]) (fst:=[.agg s.cells]) (caps:=[]) rfl rfl rfl kr rfl de (qw3 s x C _ (D.old b)) ?_
   rintro _ z ⟨⟨d,e,rfl,A,j⟩,n⟩
   refine ⟨_,rfl,?_⟩
   replace b:=b.cZ n A
   clear Z;intro a Z
   refine av (b.pt 4 [1,2,3]) (λl=>?_)
   refine qe kr ?_
   replace b:=b.pt (fs':=(abm d (aI s 3) e bF 41 1::ah4 c s.cells::ahO g gp s F)) 4 [0,1,2,3]
   refine uJ Z (i:=6) (vs:=[.string (aby #[99,108,111,99,107,115]),abl d (aI s 3) e]) rfl rfl rfl rfl rfl rfl de (hy 3 F (ah4 c s.cells::ahO g gp s []) _ d e B om j (aal (es:=(ah4 c s.cells::ahO g gp s [])) b)) zp ?_
   clear Z b;rintro v o a ⟨t,b,p,q⟩ Z;injection p with p;subst p
   replace b:Mem W o (ah4 c s.cells::ahO g gp s t):=aag (es:=(ah4 c s.cells::ahO g gp s [])) b
   replace Z:=Z.to [(17,.bool true),(7,vI 3),(6,vI 7),(5,vS gp 7 7),ahZ u]
   refine Jb Z b ((Jp 1∘aL∘Jq∘aQ∘JR∘Jv 2 [(7,vI 4)]∘Jq) λa Z b=>?_)
   exact ⟨_,om,4,t,by omega,q,rfl,Z.sub kr,b.pt 3 [1,2]⟩
  ·
   replace Z:=Z.sp 7 (vI 4) rfl rfl
   refine Jb Z b ((eY∘JP∘Jy (v:=vP gp 8) (h:=by exact Yl.indexAddr (ad:=⟨gp,0,none⟩) (y:=4) (sz:=2) rfl rfl rfl de kr)∘Jy (v:= .agg #[.string (aby #[99,117,114,114,101,110,116]),.func (.func 234) #[.agg s.cells] #[]]) (h:=by exact Pe rfl rfl sW rfl (λ_ h=>h.sub (i:=1) rfl 8 rfl))∘JA #[.string (aby #[]),.nilFunc]) λG c=>(JV sW aO) λr=>(bU∘Jj) λa Z b=>?_)
   refine wp_seq ?_
   refine DR 6 b (ah0 c s.cells::ahO g gp s F) 3 [0,1,2] [] λb l=>?_
   refine ap Z (λ_=>l) [0,1,3] (bf 6 [0,1,3]) (aik c u []) λa Z=>?_
   refine dH Z l 2 0 λa Z=>?_
   refine dH Z l 4 0 λa Z=>?_
   refine s_on Z 5 rfl ?_
   refine zh Z (f:=234) (vs:=[]) (fst:=[.agg s.cells]) (caps:=[]) rfl rfl rfl kr rfl de (qt2 s x C _ (D.old b)) ?_
   rintro _ z ⟨⟨d,e,rfl,A,j⟩,n⟩
   refine ⟨_,rfl,?_⟩
   replace b:=b.cZ n A
   clear Z;intro a Z
   refine av (b.pt 4 [1,2,3]) (λl=>?_)
   refine qe kr ?_
   replace b:=b.pt (fs':=(abm d (aI s 4) e bF 41 1::ah0 c s.cells::ahO g gp s F)) 4 [0,1,2,3]
   refine uJ Z (i:=6) (vs:=[.string (aby #[99,117,114,114,101,110,116]),abl d (aI s 4) e]) rfl rfl rfl rfl rfl rfl de (hy 4 F (ah0 c s.cells::ahO g gp s []) _ d e B om j (aal (es:=(ah0 c s.cells::ahO g gp s [])) b)) zp ?_
   clear Z b;rintro v o a ⟨t,b,p,q⟩ Z;injection p with p;subst p
   replace b:Mem W o (ah0 c s.cells::ahO g gp s t):=aag (es:=(ah0 c s.cells::ahO g gp s [])) b
   replace Z:=Z.to [(17,.bool true),(7,vI 4),(6,vI 7),(5,vS gp 7 7),ahZ u]
   refine Jb Z b ((Jp 1∘aL∘Jq∘aQ∘JR∘Jv 2 [(7,vI 5)]∘Jq) λa Z b=>?_)
   exact ⟨_,om,5,t,by omega,q,rfl,Z.sub kr,b.pt 3 [1,2]⟩
  ·
   replace Z:=Z.sp 7 (vI 5) rfl rfl
   refine Jb Z b ((eY∘JP∘Jy (v:=vP gp 10) (h:=by exact Yl.indexAddr (ad:=⟨gp,0,none⟩) (y:=5) (sz:=2) rfl rfl rfl de kr)∘Jy (v:= .agg #[.string (aby #[116,97,115,107,115]),.func (.func 235) #[.agg s.cells] #[]]) (h:=by exact Pe rfl rfl sW rfl (λ_ h=>h.sub (i:=1) rfl 10 rfl))∘JA #[.string (aby #[]),.nilFunc]) λG c=>(JV sW aO) λr=>(bU∘Jj) λa Z b=>?_)
   refine wp_seq ?_
   refine DR 6 b (ah9 c s.cells::ahO g gp s F) 3 [0,1,2] [] λb l=>?_
   refine ap Z (λ_=>l) [0,1,3] (bf 6 [0,1,3]) (aik c u []) λa Z=>?_
   refine dH Z l 2 0 λa Z=>?_
   refine dH Z l 4 0 λa Z=>?_
   refine s_on Z 5 rfl ?_
   refine zh Z (f:=235) (vs:=[]) (fst:=[.agg s.cells]) (caps:=[]) rfl rfl rfl kr rfl de (q20 s x C _ (D.old b) hc E) ?_
   rintro _ z ⟨⟨d,e,rfl,A,j⟩,n⟩
   refine ⟨_,rfl,?_⟩
   replace b:=b.cZ n A
   clear Z;intro a Z
   refine av (b.pt 4 [1,2,3]) (λl=>?_)
   refine qe kr ?_
   replace b:=b.pt (fs':=(abm d (aI s 5) e bF 41 1::ah9 c s.cells::ahO g gp s F)) 4 [0,1,2,3]
   refine uJ Z (i:=6) (vs:=[.string (aby #[116,97,115,107,115]),abl d (aI s 5) e]) rfl rfl rfl rfl rfl rfl de (hy 5 F (ah9 c s.cells::ahO g gp s []) _ d e B om j (aal (es:=(ah9 c s.cells::ahO g gp s [])) b)) zp ?_
   clear Z b;rintro v o a ⟨t,b,p,q⟩ Z;injection p with p;subst p
   replace b:Mem W o (ah9 c s.cells::ahO g gp s t):=aag (es:=(ah9 c s.cells::ahO g gp s [])) b
   replace Z:=Z.to [(17,.bool true),(7,vI 5),(6,vI 7),(5,vS gp 7 7),ahZ u]
   refine Jb Z b ((Jp 1∘aL∘Jq∘aQ∘JR∘Jv 2 [(7,vI 6)]∘Jq) λa Z b=>?_)
   exact ⟨_,om,6,t,by omega,q,rfl,Z.sub kr,b.pt 3 [1,2]⟩
  ·
   replace Z:=Z.sp 7 (vI 6) rfl rfl
   refine Jb Z b ((eY∘JP∘Jy (v:=vP gp 12) (h:=by exact Yl.indexAddr (ad:=⟨gp,0,none⟩) (y:=6) (sz:=2) rfl rfl rfl de kr)∘Jy (v:= .agg #[.string (aby #[115,112,111,116,115]),.func (.func 236) #[.agg s.cells] #[]]) (h:=by exact Pe rfl rfl sW rfl (λ_ h=>h.sub (i:=1) rfl 12 rfl))∘JA #[.string (aby #[]),.nilFunc]) λG c=>(JV sW aO) λr=>(bU∘Jj) λa Z b=>?_)
   refine wp_seq ?_
   refine DR 6 b (ah7 c s.cells::ahO g gp s F) 3 [0,1,2] [] λb l=>?_
   refine ap Z (λ_=>l) [0,1,3] (bf 6 [0,1,3]) (aik c u []) λa Z=>?_
   refine dH Z l 2 0 λa Z=>?_
   refine dH Z l 4 0 λa Z=>?_
   refine s_on Z 5 rfl ?_
   refine zh Z (f:=236) (vs:=[]) (fst:=[.agg s.cells]) (caps:=[]) rfl rfl rfl kr rfl de (q21 s x C _ (D.old b) hc E) ?_
   rintro _ z ⟨⟨d,e,rfl,A,j⟩,n⟩
   refine ⟨_,rfl,?_⟩
   replace b:=b.cZ n A
   clear Z;intro a Z
   refine av (b.pt 4 [1,2,3]) (λl=>?_)
   refine qe kr ?_
   replace b:=b.pt (fs':=(abm d (aI s 6) e bF 41 1::ah7 c s.cells::ahO g gp s F)) 4 [0,1,2,3]
   refine uJ Z (i:=6) (vs:=[.string (aby #[115,112,111,116,115]),abl d (aI s 6) e]) rfl rfl rfl rfl rfl rfl de (hy 6 F (ah7 c s.cells::ahO g gp s []) _ d e B om j (aal (es:=(ah7 c s.cells::ahO g gp s [])) b)) zp ?_
   clear Z b;rintro v o a ⟨t,b,p,q⟩ Z;injection p with p;subst p
   replace b:Mem W o (ah7 c s.cells::ahO g gp s t):=aag (es:=(ah7 c s.cells::ahO g gp s [])) b
   replace Z:=Z.to [(17,.bool true),(7,vI 6),(6,vI 7),(5,vS gp 7 7),ahZ u]
   refine Jb Z b ((Jp 1∘aL∘Jq∘aQ∘JR∘Jv 2 [(7,vI 7)]∘Jq) λa Z b=>?_)
   exact ⟨_,om,7,t,by omega,q,rfl,Z.sub kr,b.pt 3 [1,2]⟩
 refine (JF∘JX) ?_
 obtain rfl:k=7:=by omega
 intro a Z b
 exact iB rfl Z ⟨_,rfl,F,aan (ahO g gp s []) b,B⟩
structure En where
 v:Nat
 r:Nat
 w:Nat
abbrev nR:Nat:=18446744073709551615
def En.add (x:En) (d:Nat):En:=
 if nR-x.v<=(d*1048576+x.r)/x.w then ⟨nR,0,x.w⟩ else ⟨x.v+(d*1048576+x.r)/x.w,(d*1048576+x.r)%x.w,x.w⟩
def En.woken (x:En) (floor aj:Nat):En:=if x.v<floor-aj then ⟨floor-aj,0,x.w⟩ else x
def uh (v fr to:Nat):Nat:=if fr<=v then to+min (v-fr) (nR-to) else to-min to (fr-v)
def En.moved (x:En) (fr to:Nat):En:=⟨uh x.v fr to,if uh x.v fr to=nR then 0 else x.r,x.w⟩
def Tk.en (t:Tk):En:=⟨t.v,t.r,t.weight.toNat⟩
def Tk.put (t:Tk) (x:En):Tk:={t with v:=x.v,r:=x.r,weight:=x.w}
def bH.kJ (s:bH) (g c:Nat):En:=⟨(s.spot g c).v,(s.spot g c).r,(s.gs.getD g Gr.zero).weight.toNat⟩
structure bP where
 kind:Nat
 cpu:Int
 task:Int
 group:Int
 weight:Int
 to:Int
 ticks:Int
 mask:Nat
structure bP.Ok (x:bP):Prop where
 kind:x.kind<256
 cpu:aX x.cpu
 task:aX x.task
 group:aX x.group
 weight:aX x.weight
 to:aX x.to
 ticks:aX x.ticks
 mask:x.mask<18446744073709551616
def bH.jN (s:bH) (i:Nat) (t:Tk):bH:={s with ts:=s.ts.set i t}
def bH.yh (s:bH) (g c:Nat) (x:Sp):bH:={s with sp:=s.sp.set g ((s.sp.getD g []).set c x)}
def bH.wo (s:bH) (g c:Nat) (x:En):bH:=s.yh g c {s.spot g c with v:=x.v,r:=x.r}
def bH.qJ (s:bH) (c:Int):Bool:=decide (0<=c/\c<s.au)
def oV (id:Int):Bool:=decide (1<=id/\id<=65535)
def rV (s:bH) (c:Nat):Nat->Nat->List Nat
 |0,_=>[]
 |f+1,g=>if g=0 then [] else if (aU s g c).isEmpty then g::rV s c f (s.par g).toNat else []
def lC (s:bH) (g c:Nat):List Nat:=rV s c g g
def l5 (c:Nat) (s:bH) (g:Nat):bH:=s.wo g c ((s.kJ g c).woken (s.spot (s.par g).toNat c).floor s.aj)
def gZ (s:bH) (l:List Nat) (c:Nat):bH:=l.foldl (l5 c) s
def iR (s:bH) (g c:Nat) (x:Sp):Sp:=if (aU s g c).isEmpty then x else {x with floor:=max x.floor (aN bO (aU s g c)).v}
def gF (s:bH):bH:={s with sp:=s.sp.mapIdx λg l=>l.mapIdx λc x=>iR s g c x}
def yj (s:bH) (c:Nat):Nat->Nat->Nat
 |0,_=>0
 |f+1,g=>if (aU s g c).isEmpty then 0 else if (aN bO (aU s g c)).k=0 then (aN bO (aU s g c)).id else yj s c f (aN bO (aU s g c)).id
def pU (s:bH) (c:Nat):Nat:=yj s c (abo s.sp) 0
def aH (s:bH) (c:Nat):Int:=(s.ts.map λt=>if t.ready&&decide (t.cpu=(c:Int)) then t.weight else (0:Int)).sum
def jE (m:Nat) (c:Int):Bool:=decide (m/2^c.toNat%2=1)
abbrev iT:=bH×Int×Nat
def yY (s:bH) (o:bP):iT:=
 if s.qJ o.cpu=false then (s,0,300)
 else if oV o.task=false then (s,0,301)
 else if ¬(0<=o.group/\o.group<abo s.sp) then (s,0,302)
 else if mo o.weight=false\/o.mask=0\/yg o.mask s.au=true then (s,0,2)
 else if 0<=fidx s.ts o.task then (s,0,303)
 else if jE o.mask o.cpu=false then (s,0,305)
 else (gZ {s with ts:=(s.ts.takeWhile λt=>decide (t.id<=o.task))++(⟨o.task,o.group,o.weight,o.cpu,o.mask,true,(s.spot o.group.toNat o.cpu.toNat).floor,0⟩::(s.ts.dropWhile λt=>decide (t.id<=o.task)))} (lC s o.group.toNat o.cpu.toNat) o.cpu.toNat,0,0)
def oW (s:bH) (id:Int):Tk:=s.ts.getD (fidx s.ts id).toNat Tk.zero
def yZ (s:bH) (o:bP):iT:=
 if oV o.task=false then (s,0,301)
 else if fidx s.ts o.task<0 then (s,0,6)
 else if (oW s o.task).ready=true then (s,0,304)
 else
  let t:=oW s o.task
  (gZ (s.jN (fidx s.ts o.task).toNat {t.put (t.en.woken (s.spot t.group.toNat t.cpu.toNat).floor s.aj) with ready:=true}) (lC s t.group.toNat t.cpu.toNat) t.cpu.toNat,0,0)
def sK (s:bH) (o:bP):iT:=
 if s.qJ o.cpu=false then (s,0,300)
 else if s.cu.getD o.cpu.toNat 0=0 then (s,0,6)
 else
  let id:=s.cu.getD o.cpu.toNat 0
  let i:=(fidx s.ts id).toNat
  let s1:={s with cu:=s.cu.set o.cpu.toNat 0,ts:=s.ts.set i {s.ts.getD i Tk.zero with ready:=false}}
  (if o.kind=4 then {s1 with ts:=s1.ts.eraseIdx i} else s1,id,0)
def qK (c d:Nat):Nat->Nat->bH->bH
 |0,_,s=>s
 |f+1,g,s=>if g=0 then s else qK c d f (s.par g).toNat (s.wo g c ((s.kJ g c).add d))
def jO (s:bH) (o:bP):iT:=
 if s.qJ o.cpu=false then (s,0,300)
 else if ¬(1<=o.ticks/\o.ticks<=4294967295) then (s,0,2)
 else if 281474976710656<s.cl.getD o.cpu.toNat 0+o.ticks then (s,0,4)
 else
  let s1:={s with cl:=s.cl.set o.cpu.toNat (s.cl.getD o.cpu.toNat 0+o.ticks)}
  if s.cu.getD o.cpu.toNat 0=0 then (s1,0,0)
  else
   let id:=s.cu.getD o.cpu.toNat 0
   let t:=oW s id
   (qK o.cpu.toNat o.ticks.toNat t.group.toNat t.group.toNat (s1.jN (fidx s.ts id).toNat (t.put (t.en.add o.ticks.toNat))),id,0)
def kS (s:bH) (o:bP):iT:=
 if s.qJ o.cpu=false then (s,0,300)
 else ({s with cu:=s.cu.set o.cpu.toNat (pU s o.cpu.toNat)},pU s o.cpu.toNat,0)
def y5 (s:bH) (o:bP):iT:=
 if oV o.task=false then (s,0,301)
 else if mo o.weight=false then (s,0,2)
 else if fidx s.ts o.task<0 then (s,0,6)
 else (s.jN (fidx s.ts o.task).toNat {oW s o.task with r:=0,weight:=o.weight},0,0)
def y7 (s:bH) (o:bP):iT:=
 if ¬(1<=o.group/\o.group<abo s.sp) then (s,0,302)
 else if mo o.weight=false then (s,0,2)
 else ({s with sp:=s.sp.set o.group.toNat ((s.sp.getD o.group.toNat []).map λx=>{x with r:=0}),gs:=s.gs.set o.group.toNat {s.gs.getD o.group.toNat Gr.zero with weight:=o.weight}},0,0)
def jF (s:bH) (i:Nat) (to:Int):bH:=
 let t:=s.ts.getD i Tk.zero
 let s1:=s.jN i {t.put (t.en.moved (s.spot t.group.toNat t.cpu.toNat).floor (s.spot t.group.toNat to.toNat).floor) with cpu:=to}
 if t.ready then gZ s1 (lC s t.group.toNat to.toNat) to.toNat else s1
def y8 (s:bH) (o:bP):iT:=
 if s.qJ o.to=false then (s,0,300)
 else if oV o.task=false then (s,0,301)
 else if fidx s.ts o.task<0 then (s,0,6)
 else if o.task∈s.cu then (s,0,304)
 else if (oW s o.task).cpu=o.to then (s,0,2)
 else if jE (oW s o.task).mask o.to=false then (s,0,305)
 else (jF s (fidx s.ts o.task).toNat o.to,0,0)
def jd (s:bH) (cpu:Int):Nat->Int×Int
 |0=>(-1,-1)
 |c+1=>if (c:Int)≠cpu/\(jd s cpu c).2<aH s c then ((c:Int),aH s c) else jd s cpu c
def uj (s:bH) (o:bP) (t:Tk):Bool:=t.ready&& (decide (t.cpu=(jd s o.cpu s.au.toNat).1)&& (jE t.mask o.cpu&& (decide (s.cu.getD t.cpu.toNat 0≠t.id)&&decide (2*t.weight<=(jd s o.cpu s.au.toNat).2-aH s o.cpu.toNat))))
def gP (s:bH) (o:bP):Nat->Option Nat
 |0=>none
 | n + 1 => if uj s o (s.ts.getD n Tk.zero) then match gP s o n with
   |none=>some n
   |some b=>if (s.ts.getD b Tk.zero).weight<(s.ts.getD n Tk.zero).weight then some n else some b
  else gP s o n
def wu (s:bH) (o:bP):iT:=
 if s.qJ o.cpu=false then (s,0,300)
 else match gP s o (abo s.ts) with
  |none=>(s,0,6)
  |some b=>(jF s b o.cpu,(s.ts.getD b Tk.zero).id,0)
def dL (s:bH) (o:bP):iT:=
 match o.kind with
 |1=>yY s o
 |2=>yZ s o
 |3=>sK s o
 |4=>sK s o
 |5=>jO s o
 |6=>kS s o
 |7=>y5 s o
 |8=>y7 s o
 |9=>y8 s o
 |10=>wu s o
 |_=>(s,0,2)
def sM (s:bH) (o:bP):iT:=if (dL s o).2.2≠0 then (s,0,(dL s o).2.2) else (gF (dL s o).1,(dL s o).2.1,0)
def newS (au:Int) (aj:Nat) (gs:List Gr):bH:=⟨au,aj,gs,abD au.toNat 0,abD au.toNat 0,[],abD (abo gs) (abD au.toNat Sp.zero)⟩
def yN (f y:Nat):List (Nat×Bool):=if y<128 then [] else iL (f-1) (y/128)
def q4j {f y:Nat} (a:0<f):iL f y=(y%128,decide (127<y))::yN f y:=by
 obtain ⟨k,rfl⟩:∃k,f=k+1:=⟨f-1,by omega⟩
 unfold yN
 by_cases h:y<128
 ·rw [D9 k y h,if_pos h,decide_eq_false om,Nat.mod_eq_of_lt h]
 ·rw [Ea k y om,if_neg h,decide_eq_true om,adr]
def zbi {f y:Nat} (h:¬127<y):yN f y=[]:=if_pos om
def q4k {f y:Nat} (h:127<y):yN f y=iL (f-1) (y/128):=if_neg om
def XL {f y:Nat} (h:y<128^f) (h1:127<y):y/128<128^ (f-1)/\0<f-1:=by
 rcases f with _|_|f
 ·rw [Nat.pow_zero] at h;omega
 ·rw [aci,Nat.pow_one] at h;omega
 ·rw [agP] at h
  exact ⟨by rw [adr];omega,by omega⟩
def XM (W:aiM) (b:Nat) (Inv:List (Nat×Bool)->List aiX->Prop):Prop:=
 ∀(g:Nat) (m:Bool) (t:List (Nat×Bool)) (F fr:List aiX) (w:aiM),g<128->Inv ((g,m)::t) F->Mem W w (F++fr)->
  YieldAt acf 0 abp b #[.int .u8 (g:Int),.bool m] w λe c=>∃a,Mem W c (a++fr)/\e= .returned (.bool true)/\Inv t a
def zij (W:aiM) (Inv:List (Nat×Bool)->List aiX->Prop) (r:aiQ) (b:aiM):Prop:=∃v,r= .returned v/\∃a,Mem W b a/\Inv [] a
def qry {W:aiM} {fr:List aiX} {I:List aiX->Prop}:∀(e:aiQ) (b:aiM),(∃a,Mem W b (a++fr)/\e= .returned (.bool true)/\I a)->∃v,e= .returned v
 |_,_,⟨_,_,h,_⟩=>⟨_,h⟩
def Ak (W:aiM) (n:Nat) (ys:List aiN) (x:Nat) (fr:List aiX) (r:aiQ) (a:aiM):Prop:=
 ∃A c,r= .returned (.slice A (n+abo (ak x)) c)/\n+abo (ak x)<=c/\Mem W a (.row (.slice A (n+abo (ak x)) c) (n+abo (ak x)) (ys++(ak x).map B8) 5 1::fr)
def zbj {ys:List aiN} {fr:List aiX} (hz:l++([]:List (Nat×Bool)).map bJ=ak x) (hc:n+abo l<=c) (a:Mem W w (.row (.slice A (n+abo l) c) (n+abo l) (ys++l.map B8) 5 1::fr)):Ak W n ys x fr (.returned (.slice A (n+abo l) c)) w:=by
 rw [adF,abM] at hz
 subst hz
 exact ⟨A,c,rfl,hc,a⟩
def q4p (W w:aiM) (c d x:Nat) (u:x<18446744073709551616) (Inv:List (Nat×Bool)->List aiX->Prop) (l:List aiX) (hy:XM W d Inv) (n:Inv (iL 10 x) l) (b:Mem W w (.blk c #[vQ x] 41::l)):
    Calls abp 239 (.func (.yield d) #[] #[]:: [vP c 0]).toArray w (zij W Inv):=by
 refine nP Tryz.func239 [.func (.yield d) #[] #[],vP c 0] [ahZ d,(1,vP c 0)] λa Z=>?_
 refine Jb Z b ((JB) λa Z b=>?_)
 refine qg (λs z A=>∃(f:Nat) (y:Nat) (F:List aiX),(0<f)/\(y<128^f)/\(y<18446744073709551616)/\(Inv (iL f y) F)/\s=0+y/\Fr z 16 [] [ahZ d,(1,vP c 0)]/\Mem W A (.blk c #[vQ y] 41::F)) (m:=0+x) ⟨10,x,l,de,om,u,n,rfl,Z.sub kr,b.pt 1 [0]⟩ ?_
 clear Z b;rintro s a D ⟨f,y,F,B,e,g,C,rfl,Z,b⟩
 refine Jb Z b ((JQ) λa Z b=>?_)
 refine wp_seq ?_
 refine F7 (i:=6) ?_
 refine Jb Z b ((Jp 1∘Jc O0∘Jp 1∘Jo (vQ (y%128:Nat)) (by exact congrArg _ (zmm y g))∘Jv 1 [(6,vB (IntKind.u8.wrap ((y%128:Nat):Int)))]∘Jo (vB (y%128:Nat)) (by exact congrArg _ (zmn _ om))∘Jc O0∘Jp 1∘Jo (.bool (decide (127<y))) (by exact congrArg abN (decide_eq_decide.2 om))∘Jq) λa Z b=>?_)
 refine uJ Z (i:=6) (vs:=[vB (y%128:Nat),.bool (decide (127<y))]) rfl rfl rfl rfl rfl rfl de (hy _ _ _ F _ _ (ad1 _ de) (by rw [<-q4j B];exact C) (aag (F:=[.blk c #[vQ y] 41]) b)) qry ?_
 clear Z b;rintro v o a ⟨p,b,r,h⟩ Z;injection r with r;subst r
 replace b:Mem W o (.blk c #[vQ y] 41::p):=aag (es:=[.blk c #[vQ y] 41]) b
 refine Jb Z b ((Jp 1∘Jc O0∘Jp 2∘aJ∘Jq) (Ji (λk=>?_) λk=>?_))
 ·
  refine (JT∘Eu∘JB∘JR∘Jc O0∘Jp 1∘Jo (vQ (y/128:Nat)) (by exact uI .u64 y (j:=7) (q:=128) rfl rfl)∘JW aO aO) λt=>(nE∘Jq) λa Z b=>?_
  exact ⟨_,om,(f-1),(y/128),p,(XL e om).2,(XL e om).1,by omega,by rw [<-q4k om];exact h,rfl,Z.sub kr,b.pt 1 [0]⟩
 refine (JF∘JX) λa Z b=>?_
 exact iB rfl Z (⟨_,rfl,p,aan [.blk c #[vQ y] 41] b,by rw [<-zbi (f:=f) (y:=y) om];exact h⟩)
def zbl (x:Nat) (w:aiM):
    Calls abp 168 #[vQ x] w λr a=>∃g,r= .returned (.func (.func 239) #[] #[vP g 0])/\Mem w a [.blk g #[vQ x] 41]:=by
 refine (fE Tryz.func168 4) ?_
 exact (JP∘tV) λc g1=>(Jp 1∘Jr∘Jy (h:=by exact Yl.makeFunc (fst:=[]) (caps:=[vP g1 0]) rfl rfl rfl)∘Jp 1∘aL∘aP∘aW) λb=>by exact ⟨_,rfl,b⟩
abbrev ahS:=λa b c d=>(.blk a #[.slice b c d] 30:aiX)
abbrev aip:=λa b c d e f g=>(.row (.slice a (b+abo (c++[bJ (d,e)])) f) (b+abo (c++[bJ (d,e)])) g 5 1:aiX)
def XW (W w:aiM) (x:Nat) (M:x<18446744073709551616) (A:aiW) (n c:Nat) (ys:List aiN) (fr:List aiX) (V:n<=100000000000) (hc:n<=c) (d:Mem W w (.row (.slice A n c) n ys 5 1::fr)):
    Calls abp 109 #[.slice A n c,vQ x] w (Ak W n ys x fr):=by
 refine Cc (vs:=[.slice A n c,vQ x]) Tryz.func109 rfl rfl kr (σ0:=[(0,.slice A n c),(1,vQ x)]) rfl ?_
 intro a Z
 refine Jb Z d ((JP∘tV) λN s=>(bM 1∘bN 1∘JL (h:=by exact λd=>zbl x _)) ?_)
 rintro d _ X ⟨O,rfl,hm⟩
 refine ⟨_,rfl,_,d.join hm,?_⟩
 refine (aL∘Jq∘JC (h:=by exact λd=>d.bC (i:=2) (ys:=ys++([]:List Nat).map B8) rfl rfl (by rw [adF,abM]))∘JG∘JB) λa Z d=>?_
 refine Cb Z d (λF=>∃(b:List Nat) (l:aiW) (j:Nat),(b++(([]:List (Nat×Bool))).map bJ=ak x)/\(n+abo b<=j)/\F=(ahS s l (n+abo b) j::.row (.slice l (n+abo b) j) (n+abo b) (ys++b.map B8) 5 1::fr)) (λ_ _=>False) rfl kr ?_ ?_ ?_
 ·
  clear Z d;intro z y o P E d
  have Q:XM W z (λG F=>∃(b:List Nat) (l:aiW) (j:Nat),(b++(G).map bJ=ak x)/\(n+abo b<=j)/\F=(.obj z (.loop (o .ready none)):: .obj y (.deferred (some []))::(ahS s l (n+abo b) j::.row (.slice l (n+abo b) j) (n+abo b) (ys++b.map B8) 5 1::fr))):=by
   rintro q m t F p R S ⟨b,l,j,hz,C,rfl⟩ d
   have T:abo b<=10:=by have h:=congrArg List.length hz;rw [abq] at h;have:=BK x;omega
   replace d:Mem W R (ahT z (o .ready none)::ahN y::ahS s l (n+abo b) j::.row (.slice l (n+abo b) j) (n+abo b) (ys++b.map B8) 5 1::(fr++(p))):=(by simpa only [aei,abv,acZ] using d)
   refine Ep (v1:=vB q) (v2:= .bool m) E d de de λa Z=>?_
   refine wpIn_seq ?_
   refine qk ?_
   refine Jb Z d ((Jp 1∘Jq) λa Z d=>?_)
   refine qk ?_
   refine Jb Z d ((Jp 1∘Jq) λa Z d=>?_)
   refine ⟨(ahN y::ahS s l (n+abo b) j::.row (.slice l (n+abo b) j) (n+abo b) (ys++b.map B8) 5 1::(fr++(p))),d.pt (fs':=(ahT z (o .ready none)::ahN y::ahS s l (n+abo b) j::.row (.slice l (n+abo b) j) (n+abo b) (ys++b.map B8) 5 1::(fr++(p)))) 4 [0,1,2,3],λY d=>?_⟩
   refine wpIn_block ?_
   refine wpIn_seq ?_
   refine wpIn_seq ?_
   refine qk ?_
   refine Jb Z d ((Jp 1∘Jq) (Ju (λu=>?_) λu=>?_))
   ·
    intro a Z d
    have D:bJ (q,m)=q+128:=by rw [u];rfl
    refine BZ Z rfl ?_
    refine qk ?_
    refine Jb Z d ((Jp 2∘Jo (vB (q+128:Nat)) (by exact congrArg _ (FK q S))∘Jp 1∘bU∘Jq) λa Z d=>?_)
    refine qk ?_
    refine Jb Z d ((Jc O2∘Jp 1∘JU bA #[vB (q+128:Nat)]) λI J=>(JD [B8 (bJ (q,m))] 4 (λ_ _=>qB) bA (hr:=by exact λd=>(by rw [D];exact d.bB (i:=0) (n:=1) (size:=1) rfl rfl)) (h1:=by exact tK [bJ (q,m)])) λK e f k=>(JW og aO) λH=>(vF∘Jq) λa Z d=>?_)
    have g:(n+abo b)+1=(n+abo (b++[bJ (q,m)])):=by rw [abq];rfl
    rw [g] at k
    replace d:=d.bC (i:=4) (ys:=(ys++(b++[bJ (q,m)]).map B8)) rfl g (by rw [abZ,abv];rfl)
    replace d:=d.dX (i:=3) (ds:= #[.slice e (n+abo (b++[bJ (q,m)])) f]) rfl (by rw [g])
    refine ⟨(ahN y::ahS s e (n+abo (b++[bJ (q,m)])) f::aip e n b q m f (ys++(b++[bJ (q,m)]).map B8)::(fr++(p))),d.pt (fs':=(ahT z (o .busy none)::ahN y::ahS s e (n+abo (b++[bJ (q,m)])) f::aip e n b q m f (ys++(b++[bJ (q,m)]).map B8)::(fr++(p)))) 5 [1,2,3,4],λU d=>?_⟩
    exact ⟨(ahT z (o .ready none)::ahN y::ahS s e (n+abo (b++[bJ (q,m)])) f::aip e n b q m f (ys++(b++[bJ (q,m)]).map B8)::fr),(by simpa only [aei,abv,acZ] using d),rfl,(b++[bJ (q,m)]),e,f,by rw [abv];exact hz,k,rfl⟩
   intro a Z d
   have D:bJ (q,m)=q:=by rw [u];rfl
   refine Ca Z rfl ?_
   refine wpIn_skip ?_
   refine qk ?_
   refine Jb Z d ((Jc O2∘Jp 1∘JU bA #[vB q]) λI J=>(JD [B8 (bJ (q,m))] 4 (λ_ _=>qB) bA (hr:=by exact λd=>(by rw [D];exact d.bB (i:=0) (n:=1) (size:=1) rfl rfl)) (h1:=by exact tK [bJ (q,m)])) λK e f k=>(JW og aO) λH=>(vF∘Jq) λa Z d=>?_)
   have g:(n+abo b)+1=(n+abo (b++[bJ (q,m)])):=by rw [abq];rfl
   rw [g] at k
   replace d:=d.bC (i:=4) (ys:=(ys++(b++[bJ (q,m)]).map B8)) rfl g (by rw [abZ,abv];rfl)
   replace d:=d.dX (i:=3) (ds:= #[.slice e (n+abo (b++[bJ (q,m)])) f]) rfl (by rw [g])
   refine ⟨(ahN y::ahS s e (n+abo (b++[bJ (q,m)])) f::aip e n b q m f (ys++(b++[bJ (q,m)]).map B8)::(fr++(p))),d.pt (fs':=(ahT z (o .busy none)::ahN y::ahS s e (n+abo (b++[bJ (q,m)])) f::aip e n b q m f (ys++(b++[bJ (q,m)]).map B8)::(fr++(p)))) 5 [1,2,3,4],λU d=>?_⟩
   exact ⟨(ahT z (o .ready none)::ahN y::ahS s e (n+abo (b++[bJ (q,m)])) f::aip e n b q m f (ys++(b++[bJ (q,m)]).map B8)::fr),(by simpa only [aei,abv,acZ] using d),rfl,(b++[bJ (q,m)]),e,f,by rw [abv];exact hz,k,rfl⟩
  refine (q4p W P O z x M _ _ Q ⟨[],A,c,rfl,hc,rfl⟩ (d.pt 5 [2,0,1,3,4])).mono ?_
  rintro r N ⟨v,rfl,F2,L,⟨b,l,j,hz,C,rfl⟩⟩
  exact ⟨v,rfl,.inl ⟨_,⟨b,l,j,hz,C,rfl⟩,L⟩⟩
 ·
  clear Z d;rintro B a w6 _ ⟨b,l,j,hz,C,rfl⟩ Z d
  refine Jb Z d ((JG∘JP∘Jc O1∘Jp 1∘aL∘aP) λa Z d=>?_)
  refine xS Z d (i:=0) rfl λa w7 Z d=>?_
  exact lV rfl Z rfl (zbj hz C (d.pt (fs':=(.row (.slice l (n+abo b) j) (n+abo b) (ys++b.map B8) 5 1::fr)) 3 [2]))
 exact λ_ _ _ _ _ h=>h.elim
def zbm (A:aiW) (c:Nat) (b:List Nat) (w:aiM) (hr:Rd w w.heap.size 1 A (abo b) (b.map bF)) (s:∀x∈b,x<18446744073709551616) (E:abo b<=1000000000):
    Calls abp 49 #[.slice A (abo b) c] w (sD w (b.flatMap ak)):=by
 refine (fE Tryz.func49 17) ?_
 refine (aM 1∘bg 1∘Jj∘bN 1∘Jl∘Jp 1∘Jq∘JC (h:=by exact λd=>d.nil 5 1)∘JG∘JB) λa Z d=>?_
 refine qg (λv y z=>∃(k:Nat) (n:aiW) (g:Nat),(k<=abo b)/\(abo ((b.take k).flatMap ak)<=g)/\v=abo b-k/\Fr y 17 [] (ahY 8 k 7 (abo b) [(6,abl A b c),(3,abl n ((b.take k).flatMap ak) g),(2,vN)])/\Mem w z [abm n ((b.take k).flatMap ak) g B8 5 1]) (m:=abo b-0) ⟨0,none,0,abz _,abu _,rfl,Z.sub kr,d.pk [0]⟩ ?_
 clear Z d;rintro v a F ⟨k,n,g,G,o,rfl,Z,d⟩
 refine Jb Z d ((dh 1∘JQ) (Ji (λt=>?_) λt=>?_))
 ·
  have j:k<abo b:=by omega
  have B:=s _ (qf 0 j)
  have u:=uH (b.take k)
  rw [abx] at u
  have C:=BK (b.getD k 0)
  have p:(b.take (k+1)).flatMap ak=(b.take k).flatMap ak++ak (b.getD k 0):=by rw [adM,getD_at 0 j,ab1];simp
  refine (eY∘JP) ?_
  obtain ⟨gA,H,rfl,_⟩:=hr.sat k
  refine (iC k 1∘Jy (h:=by exact aad hr k 0 j rfl rfl)∘Jp 1∘bU∘Jj∘JR∘Jp 2∘JL (h:=by exact λd=>XW w _ (b.getD k 0) B n (abo ((b.take k).flatMap ak)) g (((b.take k).flatMap ak).map B8) _ om o (d.pk (fs':=[abm n ((b.take k).flatMap ak) g B8 5 1]) [0]))) ?_
  rintro d _ D ⟨q,r,rfl,f,hm⟩
  refine ⟨_,rfl,_,hm,?_⟩
  refine (Jp 1∘eP∘Jq) ?_
  have e:(abo ((b.take k).flatMap ak)+abo (ak (b.getD k 0)))=abo ((b.take (k+1)).flatMap ak):=by rw [p,abq]
  rw [e] at f
  refine (JC (h:=by exact λd=>d.bC (i:=0) (ys:=((b.take (k+1)).flatMap ak).map B8) rfl e (by rw [p,abZ]))∘Jk 3 (.slice q (abo ((b.take (k+1)).flatMap ak)) r) (h:=by exact iW e)∘JG∘JR∘dA 1∘Jp 1∘aL∘Jq) λa Z d=>?_
  exact ⟨_,om,k+1,q,r,by omega,f,rfl,Z.sub kr,d.pk [0]⟩
 have l:b.take k=b:=abL om
 exact (JF∘JX∘JG∘aM 2∘aL∘aP∘aW) λd=>by exact ⟨⟨n,g,by rw [l],by have h:=d.own (i:=0) rfl;rw [l] at h;exact h,by rw [<-l];exact o⟩,d.below⟩
def q0l {w:aiM} (e:x<18446744073709551616):Calls abp 109 #[vN,vQ x] w (sD w (ak x)):=
 (XW w w x e none 0 0 [] [] (abz _) (abu _) ((Mem.start w).nil 5 1)).mono λr f ⟨A, c, b, d, a⟩ => by
  rw [aci,acZ] at a
  rw [aci] at b d
  exact ⟨⟨A,c,b,a.own (i:=0) rfl,d⟩,a.below⟩
def Mr (A:aiW) (n c:Nat) (a:List Nat) (w:aiM) (hr:Rd w w.heap.size 1 A n (a.map bF)) (b:∀x∈a,x<18446744073709551616) (d:n<=1000000000):Calls abp 49 #[.slice A n c] w (sD w (a.flatMap ak)):=by
 obtain rfl:n=abo a:=by have h:=hr.len;rw [abw,ac0] at h;exact h.symm
 exact zbm A c a w hr b d
def qox:∀(k:Nat) (l xs:List Nat) (u x m:Nat),aV k l=(xs,u,0)->aD (l.drop u)=(x,m,0)->aV (k+1) l=(xs++[x],u+m,0)
 |0,l,xs,u,x,m,h,a=>by
  simp only [aV,Prod.mk.injEq] at h
  obtain ⟨rfl,rfl,_⟩:=h
  rw [List.drop_zero] at a
  simp [aV,a]
 | k + 1, l, xs, u, x, m, h, a => by
  rw [aV] at h
  split at h
  ·rename_i b;simp at h;exact absurd h.2.2 b
  ·rename_i b
   split at h
   ·rename_i c;simp at h;exact absurd h.2.2 c
   ·rename_i c
    simp only [Prod.mk.injEq] at h
    obtain ⟨rfl,rfl,_⟩:=h
    have d:aV k (l.drop (aD l).2.1)=((aV k (l.drop (aD l).2.1)).1,(aV k (l.drop (aD l).2.1)).2.1,0):=by
     rw [<-show (aV k (l.drop (aD l).2.1)).2.2=0 by omega]
    have e:=qox k _ _ _ x m d (by rwa [acN])
    rw [aV,if_neg b,e,if_neg (by simp)]
    simp [Nat.add_assoc]
theorem qwo:∀(k j:Nat) (l xs:List Nat) (u:Nat),aV k l=(xs,u,0)->(aD (l.drop u)).2.2≠0->(aV (k+1+j) l).2.2≠0:=by intro x;induction x<;>grind [aV,aD,acN,Prod.mk.injEq]
theorem zen:∀(k:Nat) (l xs:List Nat) (u:Nat),aV k l=(xs,u,0)->abo xs=k/\k<=u/\u<=abo l:=by intro x;induction x<;>grind [aV,aD,xJ,WR]
def q8:SI abp 73 11:=⟨by kernel_rfl,by kernel_rfl⟩
def ou {v u:Bool} (h:v=true↔u=true):abN v= .bool u:=by rw [ab3.2 h]
theorem Mem.Am (h:Mem W w fs) {p:Addr} {v:aiN} (hc:W.cell? p=some v) (hb:p.block<W.heap.size):w.cell? p=some v:=(h.below.cell hb).trans hc
def zmw {g i x:Nat} (a:Mem W w (.blk g e.cells 73::fs)) (hi:i<7):
  Calls abp 321 #[.pointer (some ⟨g,0,none⟩),.int .i64 (i:Int),.int .u64 (x:Int)] w λr b=>r= .returned (.bool (Ev.fits i x))/\Mem W b (.blk g (e.put i x).cells 73::fs):=by
 have c:=a.blk (i:=0) rfl
 have hz:4+i<e.cells.size:=by show 4+i<11;omega
 refine (zh8 g i x hi w (e.cells[4+i]'hz) (by unfold aef;rw [c];exact Array.getElem?_eq_getElem hz) (by unfold World.frozen?;rw [c];simp)).mono ?_
 rintro r b ⟨rfl,rfl⟩
 refine ⟨rfl,?_⟩
 have h:=a.set (i:=0) (o:=4+i) rfl (aaq i x)
 rw [q3s e i x hi] at h
 exact h
def zbn {vs:List Nat} (hi:l[k]?=some i) (a:vs[k]?=some x):(l.zip vs).take (k+1)=(l.zip vs).take k++[(i,x)]:=by
 rw [List.take_succ]
 congr 1
 rw [(List.getElem?_zip_eq_some (z:=(i,x))).2 ⟨hi,a⟩]
 rfl
section
variable {e:Ev} {vs:List Nat}
def Qi (h:e.dx vs=m) (a:m≠0):(e.dZ vs,e.dx vs)=(Ev.zero,m):=by unfold Ev.dZ;rw [h,if_neg a]
def zbo (h:e.kind=0\/10<e.kind):(e.dZ vs,e.dx vs)=(Ev.zero,60):=Qi (if_pos h) de
def zik (h:¬(e.kind=0\/10<e.kind)) (a:abo vs≠abo (aB e.kind)):(e.dZ vs,e.dx vs)=(Ev.zero,2):=Qi ((if_neg h).trans (if_pos a)) de
def XY (h:¬(e.kind=0\/10<e.kind)) (a:abo vs=abo (aB e.kind)) (b:(e.made vs).check≠0):(e.dZ vs,e.dx vs)=(Ev.zero,61):=Qi ((if_neg h).trans ((if_neg (λn=>n a)).trans (if_pos b))) de
def zil {o:Ev} (h:¬(e.kind=0\/10<e.kind)) (b:abo vs=abo (aB e.kind)) (a:o=e.made vs) (c:o.check=0):(e.dZ vs,e.dx vs)=(o,0):=by
 have k:e.dx vs=0:=(if_neg h).trans ((if_neg (λn=>n b)).trans (if_neg (λn=>n (by rw [<-a];exact c))))
 unfold Ev.dZ
 rw [k,a]
 rfl
def Gf {v:Ev} {n:Int} (h:(e.dZ vs,e.dx vs)=(v,m)) (a:n=m) (hb:Below w.heap.size w W) {C:Array aiN} (hc:C=v.cells):mR w (e.dZ vs) (e.dx vs) (.returned (.tuple #[.agg C,.int .i64 n])) W:=by
 injection h with b c
 rw [b,c]
 subst a hc
 exact ⟨rfl,hb⟩
end
def zmx:SI abp 424 12:=⟨by kernel_rfl,by kernel_rfl⟩
def zmy (w:aiM) (er:Nat) (R:List Nat) (r:aiQ) (w':aiM):Prop:=
 (∃A c,r= .returned (.tuple #[.slice A (abo R) c,.int .i64 (er:Int)])/\w'.ownsRow w.heap.size 41 1 (.slice A (abo R) c) (abo R) (R.map bF)/\abo R<=c)/\Below w.heap.size w w'
section
variable {b:Bs} {e:Ev} {w w':aiM} {v:Bool}
def Ms (hb:Below w.heap.size w w') (h:v=true↔(1<=b.seq/\b.seq<=281474976710656/\0<=b.time/\b.time<=281474976710656)):Is w (.bool b.right) (.returned (.bool v)) w':=by
 refine ⟨?_,hb⟩
 unfold Bs.right
 rw [show v=decide _ from (ab3.2 (h.trans decide_eq_true_iff.symm))]
def XZ (hb:Below w.heap.size w w') (h:v=true↔(b.seq<=e.seq/\b.time<=e.time)):Is w (.bool (b.behind e)) (.returned (.bool v)) w':=by
 refine ⟨?_,hb⟩
 unfold Bs.behind
 rw [show v=decide _ from (ab3.2 (h.trans decide_eq_true_iff.symm))]
end
def zbp (e:Ev) (d:e.Ok) (B:Nat) (w:aiM) (f:Laid B w) (g:B<=w.heap.size) {er:Nat} {R:List Nat} (h1:e.check=er) (i:e.qc2=R):Calls abp 286 #[.agg e.cells] w (zmy w er R):=by
 subst h1 i
 refine (q0d e d B w f g).mono λr w' ⟨⟨v,h,a⟩,j⟩=>?_
 obtain ⟨A,c,rfl,hc⟩:=BQ a
 exact ⟨⟨A,c,h,a,hc⟩,j⟩
def q4q (e:Ev) (a:e.Ok) (B:Nat) (w:aiM) (c:Laid B w) (d:B<=w.heap.size):Calls abp 243 #[.agg e.cells] w (Is w (.int .i64 (e.check:Int))):=Pp e a B w c d
theorem zbq (e:Ev):abo e.qc2<=4:=by grind [Ev.qc2,Ev.vals,Aa]
theorem zim {b:Bs} (h:e.check=er) (a:er≠0):qed b e=er/\xI b e=[]:=by grind [qed,xI]
theorem X0 {b:Bs} (h:e.check=0) (a:¬(b.right=true/\b.behind e=true)):qed b e=70/\xI b e=[]:=by grind [qed,xI]
theorem zin {b:Bs} (h:e.check=0) (h1:b.right=true) (a:b.behind e=true):qed b e=0/\xI b e=zk b e:=by grind [qed,xI]
def Gg {tX:Nat} {n:Int} (h:er=tX/\R=[]) (a:n=tX) (hb:Below w.heap.size w w'):mh w er R (.returned (.tuple #[.slice none 0 0,.int .i64 n])) w':=by
 obtain ⟨rfl,rfl⟩:=h
 subst a
 exact ⟨⟨none,0,rfl,acH _ _ _ _,abu _⟩,hb⟩
def X3 {L:List Nat} (h:er=0/\R=L) (a:w'.ownsRow w.heap.size 5 1 (.slice A (abo L) c) (abo L) (L.map B8)) (hc:abo L<=c) (hb:Below w.heap.size w w'):mh w er R (.returned (.tuple #[.slice A (abo L) c,.int .i64 0])) w':=by
 obtain ⟨rfl,rfl⟩:=h
 exact ⟨⟨A,c,rfl,a,hc⟩,hb⟩
def X4 (l:List Nat):∀u∈l.map bF,u.oneCell'=true:=by
 intro u a
 obtain ⟨x,_,rfl⟩:=ab7.1 a
 rfl
def Mt {x:Int} (h:0<=x/\x<9223372036854775808) (a:x.toNat=n):abT .u64 (IntKind.u64.wrap x)= .int .u64 (n:Int):=by rw [adX];congr 1;omega
def zbr {b:Bs} {vs:List Nat} (c:e.Ok) (h:e.check=0) (d:e.qc2=vs) (h1:b.right=true) (f:b.behind e=true):(0<=e.seq-b.seq/\e.seq-b.seq<9223372036854775808)/\(0<=e.time-b.time/\e.time-b.time<9223372036854775808)/\(∀x∈(e.seq-b.seq).toNat::(e.time-b.time).toNat::vs,x<18446744073709551616)/\zk b e=[e.kind]++((e.seq-b.seq).toNat::(e.time-b.time).toNat::vs).flatMap ak:=by
 have g:=uW h
 have j:=of_decide_eq_true h1
 have l:=of_decide_eq_true f
 have:=c.seq.2
 have:=c.time.2
 refine ⟨by omega,by omega,λx a=>?_,?_⟩
 ·rcases abY.1 a with rfl|a
  ·omega
  rcases abY.1 a with rfl|a
  ·omega
  rw [<-d] at a
  unfold Ev.qc2 at a
  rw [if_pos h] at a
  obtain ⟨i,hi,rfl⟩:=ab7.1 a
  have k:=WI c h hi
  unfold Ev.num at k
  rw [adX] at k
  omega
 ·unfold zk yG
  rw [<-d]
  unfold Ev.qc2
  rw [if_pos h]
  rfl
theorem zio {b:Bs} {A:Prop} {B:Prop} {C:Prop} (h:e.check=x) (c:x=0) (hb:b.right=true/\b.behind e=true) (d:A/\B/\C/\zk b e=[e.kind]++R.flatMap ak) (a:R.flatMap ak=l):qed b e=0/\xI b e=e.kind::l:=by grind [zin]
def X5 {c:Nat} (hr:Rd w w.heap.size 1 A (abo l) (l.map bF)) (d:∀x∈l,x<18446744073709551616) (f:abo l<=6) (a:l.flatMap ak=R):Calls abp 49 #[.slice A (abo l) c] w (sD w R):=by
 subst a
 exact Mr A (abo l) c _ w hr d om
def ziq {l:List Ev} {p:Option Ev} (hk:k=abo l):iM p k (l.drop k)=(-1,0):=by
 rw [ac6 om]
 rfl
theorem row_step {l:List Ev} {p:Option Ev} (hk:k<abo l) (a:l.getD k Ev.zero=e):iM p k (l.drop k)=if e.check≠0 then ((k:Int),e.check) else if p.all (λq=>e.after q)=false then ((k:Int),71) else iM (some e) (k+1) (l.drop (k+1)):=by grind [iM,acz,abr]
def kI (l:List Ev) (k:Nat):Option Ev:=if k=0 then none else some (l.getD (k-1) Ev.zero)
theorem zbs {l:List Ev} (a:l.getD k Ev.zero=e):kI l (k+1)=some e:=by grind [kI]
theorem zbt {l:List Ev} {q:Ev} (c:0<k) (a:l.getD (k-1) Ev.zero=q) (h:¬(e.cpu=q.cpu/\q.seq<e.seq/\q.time<=e.time)):(kI l k).all (λq=>e.after q)=false:=by
 unfold kI;rw [if_neg om,a];exact decide_eq_false h
theorem q4r {l:List Ev} {q:Ev} (c:l.getD (k-1) Ev.zero=q) (h:k=0\/(e.cpu=q.cpu/\q.seq<e.seq/\q.time<=e.time)):(kI l k).all (λq=>e.after q)=true:=by
 unfold kI
 by_cases a:k=0
 ·rw [if_pos a];rfl
 ·rw [if_neg a,c];exact decide_eq_true (h.resolve_left a)
theorem Mv {l:List Ev} {q:Ev} {v:Bool} (a:l.getD (k-1) Ev.zero=q) (h:v=true↔¬(k=0\/(e.cpu=q.cpu/\q.seq<e.seq/\q.time<=e.time))):abN v= .bool (!(kI l k).all λq=>e.after q):=by grind [zbt,q4r]
def Mw (h:0<k) (hk:k<=140737488355328):abT .i64 (IntKind.i64.wrap ((k:Int)-1))= .int .i64 ((k-1:Nat):Int):=by rw [IntKind.wrap_i64];congr 1;omega
def Qj {R:Int×Nat} {v n:Int} (h:R=(v,m)) (a:n=(m:Int)) (hb:Below w.heap.size w w'):Is w (.tuple #[.int .i64 R.1,.int .i64 (R.2:Int)]) (.returned (.tuple #[.int .i64 v,.int .i64 n])) w':=by
 subst h a
 exact ⟨rfl,hb⟩
def Ck {b:Bs} {l:List Ev} {v:Bool} (h:v=true↔¬(b.right=true/\(0<abo l->b.behind (l.getD 0 Ev.zero)=true))):abN v= .bool (!(b.right&&l.head?.all b.behind)):=by
 have e:l.head?.all b.behind=true↔(0<abo l->b.behind (l.getD 0 Ev.zero)=true):=by
  cases l with
  |nil=>exact ⟨λ_ h=>absurd h (Nat.lt_irrefl 0),λ_=>rfl⟩
  |cons x r=>exact ⟨λh _=>h,λh=>h (Nat.succ_pos _)⟩
 rw [<-e,<-abG] at h
 by_cases a:(b.right&&l.head?.all b.behind)=true
 ·rw [a,show v=false from (agK _).mp λc=>h.1 c a];rfl
 ·rw [(agK _).mp a,h.2 a];rfl
theorem q0m {b:Bs} {l:List Ev} {n:Int} (h:jg l=(n,c)) (a:c≠0):r9 b l=c/\uY b l=[]:=by grind [r9,uY]
theorem qu2 {b:Bs} {l:List Ev} {n:Int} (h:jg l=(n,c)) (a:c=0) (h1:¬(b.right&&l.head?.all b.behind)=true):r9 b l=70/\uY b l=[]:=by grind [r9,uY]
def q0n {b:Bs} {l:List Ev} {n:Int} {pre:List Nat} {a:Bs} (h:jg l=(n,c)) (d:c=0) (h1:(b.right&&l.head?.all b.behind)=true) (hr:recs b l=pre++recs a (l.drop k)) (hk:abo l<=k):r9 b l=0/\uY b l=pre:=by
 rw [abG] at h1
 have e:r9 b l=0:=by unfold r9;rw [h,if_neg om,if_pos h1]
 exact ⟨e,by unfold uY;rw [if_pos e,hr,ac6 hk];exact abM pre⟩
def q4s {b a:Bs} {l:List Ev} {n:Int} (h:jg l=(n,c)) (d:c=0) (h1:(b.right&&l.head?.all b.behind)=true) (hk:k<abo l) (hb:a=FQ b l k) (f:l.getD k Ev.zero=e):qed a e=0/\recs a (l.drop k)=zk a e++recs e.at (l.drop (k+1))/\e.at=FQ b l (k+1)/\abo (zk a e)<=61:=by
 rw [abG] at h1
 have e1:l[k]=e:=by rw [<-f,abt,abr hk];rfl
 have p:=za9 (by rw [h];exact d) h1.1 h1.2 k hk
 rw [<-hb,e1] at p
 refine ⟨p,by rw [acz hk,recs,e1],?_,zic _ _⟩
 show _=(match l[k]? with|some e=>e.at|none=>b)
 rw [abr hk,e1]
def X6 (e:Ev) (w:aiM):Calls abp 275 #[.agg e.cells] w (Is w (.agg e.at.cells)):=by
 refine (fE Tryz.func275 8) ?_
 refine (JP∘JE) λd g1=>(JA #[vI 0,vI 0]) λf g=>(Jr∘Jg 0 O1∘Jg 1 O1∘fD #[vI e.seq,vI e.time]∘JV iN aO) λb=>(oo∘aP) λa Z c=>?_
 exact iV rfl Z (.cellS (i:=0) Z c rfl rfl iN rfl) (⟨rfl,c.below⟩)
def Mx (b:Bs) (w:aiM):Calls abp 273 #[.agg b.cells] w (Is w (.bool b.right)):=by
 refine (fE Tryz.func273 21) ?_
 refine (JP∘JE) λf g1=>(Jp 1∘Jr∘Jg 0 O0∘Jp 2) (Ji (λe=>?_) λe=>?_)
 ·
  refine (Jg 0 O0∘Jp 3) (Ji (λc=>?_) λc=>?_)
  ·
   refine (Jg 1 O0∘Jp 3) (Ji (λd=>?_) λd=>?_)
   ·
    exact (Jg 1 O0∘Jp 3∘aJ∘aP∘aW) λa=>Ms a.below (by simp;omega)
   exact (Jp 5∘aJ∘aP∘aW) λa=>Ms a.below (by simp;omega)
  exact (Jv 10 [(2,.bool false)]∘aJ∘aP∘aW) λa=>Ms a.below (by simp;omega)
 exact (Jv 15 [(2,.bool false)]∘eP∘aP∘aW) λa=>Ms a.below (by simp;omega)
def X7 (b:Bs) (e:Ev) (w:aiM):Calls abp 274 #[.agg b.cells,.agg e.cells] w (Is w (.bool (b.behind e))):=by
 refine (iP Tryz.func274 17) ?_
 refine (JP∘JE) λd f=>(JE) λg h=>(Jp 1∘Jr∘Jg 0 O0∘Jg 0 O1∘Jp 2) (Ji (λa=>?_) λa=>?_)
 ·
  exact (Jg 1 O0∘Jg 1 O1∘Jp 3∘aJ∘aP∘aW) λc=>XZ c.below (by simp;omega)
 exact (Jp 7∘aJ∘aP∘aW) λc=>XZ c.below (by simp;omega)
theorem zbu (b:Bs) (e:Ev) (S:e.Ok) (B:Nat) (w:aiM) (W:Laid B w) (T:B<=w.heap.size):Calls abp 244 #[.agg b.cells,.agg e.cells] w (mh w (qed b e) (xI b e)):=by
 refine (iP Tryz.func244 47) ?_
 refine (JP∘JE) λw2 U=>(JE) λw3 V=>(Jp 2∘Jq) ?_
 obtain ⟨N,y⟩:∃N,e.check=N:=⟨_,rfl⟩
 obtain ⟨m,z⟩:∃m,e.qc2=m:=⟨_,rfl⟩
 have X:abo m<=4:=by rw [<-z];exact zbq e
 refine (JG∘JP∘eH q8 O0∘JK (h:=by exact λc=>zbp e S B _ (W.mem c T) (c.le T) y z)) λY cv uM hcv=>(Jp 1∘Jx∘Jx∘bM 2∘bN 2∘aL∘Jj) (Jh (λG=>?_) λG=>?_)
 ·
  exact (JT∘bE 3∘bW) λc=>Gg (zim y om) rfl c.below
 refine (aQ∘JQ∘JP∘eH iN O2∘JI (h:=by exact λc=>Mx b _)) λxW O=>(Jp 2) (Ju (λH=>?_) λH=>?_)
 ·
  exact (Jp 5∘aJ∘Jj∘JT∘bE 2∘bW) λc=>Gg (X0 om (by simp_all)) rfl c.below
 refine (eH iN O2∘eH q8 O1∘JI (h:=by exact λc=>X7 b e _)) λQk O=>(Jp 2∘aJ∘Jj) (Ju (λI=>?_) λI=>?_)
 ·
  exact (JT∘bE 2∘bW) λc=>Gg (X0 om (by simp_all)) rfl c.below
 have A:b.right=true/\b.behind e=true:=by simp_all
 have p:=zbr S om z A.1 A.2
 obtain ⟨q,J⟩:∃x,(e.seq-b.seq).toNat=x:=⟨_,rfl⟩
 obtain ⟨r,K⟩:∃x,(e.time-b.time).toNat=x:=⟨_,rfl⟩
 rw [J,K] at p
 obtain ⟨j,t⟩:∃j,(q::r::m).flatMap ak=j:=⟨_,rfl⟩
 have hbl:abo j<=60:=by rw [<-t];have:=uH (q::r::m);simp only [abV] at this;omega
 refine (aQ∘JP∘Jg 0 O1∘Jg 0 O2∘Jp 1∘Jo (vI (e.seq-b.seq)) (by exact nD ⟨by omega,by omega⟩)∘Jv 1 [(31,vQ (IntKind.u64.wrap (e.seq-b.seq)))]∘Jo (vQ q) (by exact Mt p.1 J)∘Jg 1 O1∘Jg 1 O2∘Jp 1∘Jo (vI (e.time-b.time)) (by exact nD ⟨by omega,by omega⟩)∘Jv 1 [(37,vQ (IntKind.u64.wrap (e.time-b.time)))]∘Jo (vQ r) (by exact Mt p.2.1 K)∘JU kM #[vQ q,vQ r]) λX8 g38=>(Jp 1∘JC (h:=by exact λc=>c.fU (i:=0) (n:=2) (size:=1) rfl rfl de)∘JD (m.map bF) 0 (λ_ _=>aO) kM (hr:=by exact λc=>c.rd (i:=1) rfl) (h1:=by exact X4 _)) λX9 C D M=>(Jp 1∘aJ∘Jq) ?_
 have o:(2+abo m)=abo (q::r::m):=ae7 2 _
 rw [o] at M
 refine (JC (h:=by exact λc=>c.bC (i:=0) (ys:=(q::r::m).map bF) rfl o (rfl))∘Jk 8 (.slice C (abo (q::r::m)) D) (h:=by exact iW o)) λa Z c=>?_
 refine qy (λaS wS=>∃(s:Nat) (F:aiW) (E:Nat) (k:aiW) (g:Nat),Fr aS 47 [] [(46,.slice k (abo (e.kind::j)) g),(4,.slice k (abo (e.kind::j)) g),(5,vI 0),(25,.bool false),(15,.bool false),(7,vI N),(3,vP V 0),(2,vP U 0)]/\Mem w wS [.row (.slice F (abo j) E) (abo j) (j.map B8) 5 1,.row (.slice k (abo (e.kind::j)) g) (abo (e.kind::j)) ((e.kind::j).map B8) 5 1,.row (.slice C (abo (q::r::m)) D) (abo (q::r::m)) ((q::r::m).map bF) 41 1,.row (.slice Y (abo m) cv) (abo m) (m.map bF) 41 1,.blk V e.cells 73,.blk U b.cells 110]/\(abo j<=E)/\(abo (e.kind::j)<=g)) ?_ ?_
 ·
  refine Jb Z c ((Vs .n []) λYa=>(Vf 0 3∘Vp [3]∘Vc 1 O2) λa Z c u=>?_)
  refine zf [2,4] kr rfl ?_
  refine all_cons ?_ ?_
  ·refine qu Z (i:=2) rfl rfl ?_
   refine jA Z c bA [(0,vB e.kind)] #[vB e.kind] ?_
   clear Z c;intro a P s Z c
   refine av (c.pk [1,2,3,4]) (λu=>?_)
   refine Vb Z c u ((VK 4 (.f .n) (h:=by exact λc=>X5 (c.rd (i:=1) rfl) p.2.2.1 (by simp only [abV];omega) t)) λF E Q v=>λa Z c u=>?_)
   refine s_on Z 5 rfl ?_
   replace c:=c.fU (i:=1) (n:=1) (size:=1) rfl rfl de
   refine rO Z c (i:=1) rfl bA rfl rfl rfl (news:=(j.map B8)) (c.rd (i:=0) rfl) (tK _) om om rfl de ?_
   clear Z c;intro a R k g Z c l
   refine av (c.pk [2,3,4,5]) (λu=>?_)
   refine Vb Z c u ((Vp [6,7]∘Vd) ?_)
   have d:(1+abo j)=abo (e.kind::j):=ae7 1 _
   rw [d] at l
   intro a Z c
   replace c:=c.bC (i:=1) (ys:=(e.kind::j).map B8) rfl d (rfl)
   replace Z:=Z.sp 4 (.slice k (abo (e.kind::j)) g) rfl (iW d)
   replace Z:=Z.sp 46 (.slice k (abo (e.kind::j)) g) rfl (iW d)
   exact ⟨s,F,E,k,g,Z.sub kr,c.pk [0,1,2,3,4,5],v,l⟩
  refine all_cons ?_ all_nil
  refine qu Z (i:=4) rfl rfl ?_
  refine Cj Z c [.slice C (abo (q::r::m)) D] (X5 (c.rd (i:=0) rfl) p.2.2.1 (by simp only [abV];omega) t) λF E Q v c a Z=>?_
  refine av (c.pk [1,2,3,4]) (λu=>?_)
  refine s_on Z 2 rfl (jA Z c bA [(0,vB e.kind)] #[vB e.kind] ?_)
  clear Z c;intro a P s Z c
  refine av (c.pk [2,3,4,5]) (λu=>?_)
  refine s_on Z 5 rfl ?_
  replace c:=c.fU (i:=0) (n:=1) (size:=1) rfl rfl de
  refine rO Z c (i:=0) rfl bA rfl rfl rfl (news:=(j.map B8)) (c.rd (i:=1) rfl) (tK _) om om rfl de ?_
  clear Z c;intro a R k g Z c l
  refine av (c.pk [2,3,4,5]) (λu=>?_)
  refine Vb Z c u ((Vp [6,7]∘Vd) ?_)
  have d:(1+abo j)=abo (e.kind::j):=ae7 1 _
  rw [d] at l
  intro a Z c
  replace c:=c.bC (i:=0) (ys:=(e.kind::j).map B8) rfl d (rfl)
  replace Z:=Z.sp 4 (.slice k (abo (e.kind::j)) g) rfl (iW d)
  replace Z:=Z.sp 46 (.slice k (abo (e.kind::j)) g) rfl (iW d)
  exact ⟨s,F,E,k,g,Z.sub kr,c.pk [1,0,2,3,4,5],v,l⟩
 clear Z c;rintro a w7 ⟨s,F,E,k,g,Z,c,v,l⟩
 exact Jb Z c ((JZ∘bW) λc=>X3 (L:=e.kind::j) (zio y om A p t) (c.own (i:=1) rfl) l c.below)
theorem zbv (A:aiW) (c:Nat) (l:List Ev) (J:∀e∈l,e.Ok) (B:Nat) (w:aiM) (Q:Laid B w) (N:B<=w.heap.size) (hr:Rd w w.heap.size 11 A (abo l) (l.flatMap fC)) (U:abo l<=140737488355328):Calls abp 171 #[.slice A (abo l) c] w (Is w (.tuple #[.int .i64 (jg l).1,.int .i64 ((jg l).2:Int)])):=by
 refine (fE Tryz.func171 57) ?_
 refine (dh 2∘bN 1∘Jl∘bM 1∘JB) λa Z b=>?_
 refine qg (λO K L=>∃(k:Nat),(k<=abo l)/\(jg l=iM (kI l k) k (l.drop k))/\O=abo l-k/\Fr K 57 [] (ahY 9 k 8 (abo l) [(7,.slice A (abo l) c),(3,vI 0),(2,vI 0),(0,.slice A (abo l) c)])/\Mem w L []) (m:=abo l-0) ⟨0,abz _,rfl,rfl,Z.sub kr,b.pk []⟩ ?_
 clear Z b;rintro O a V ⟨k,W,t,rfl,Z,b⟩
 refine Jb Z b ((dh 1∘JQ) (Ji (λC=>?_) λC=>?_))
 ·
  have y:k<abo l:=by omega
  obtain ⟨e,u⟩:∃e,l.getD k Ev.zero=e:=⟨_,rfl⟩
  obtain ⟨q,g⟩:∃q,l.getD (k-1) Ev.zero=q:=⟨_,rfl⟩
  have M:e.Ok:=J e (by rw [<-u];exact qf Ev.zero y)
  have z:=row_step (p:=kI l k) y u
  refine (eY∘aM 1) ?_
  obtain ⟨gA,o,rfl,_⟩:=hr.sat k
  refine (iC k 11∘qD Ev.cells qbv hr q8 k Ev.zero (hk:=y)∘Jo (.agg e.cells) (by rw [u])∘JA aiD) λX D=>(Jp 1∘JV q8 aO (h1:=by exact rM e)) λP=>(Jj∘JQ∘JP∘eH q8 O0∘JI (h:=by exact λb=>q4q e M B _ (Q.mem b N) (b.le N))) λR S=>(Jp 1∘bU∘bg 2∘aL∘Jj) (Jh (λE=>?_) λE=>?_)
  ·
   exact (JT∘bE 4∘bW) λb=>Qj (t.trans (z.trans (if_pos om))) rfl b.below
  refine (aQ) λa Z b=>?_
  refine qy (λK L=>Fr K 57 [] ((54,.bool (!(kI l k).all λq=>e.after q))::(17,.bool false)::ahY 6 e.check 4 k ((5,vP D 0)::(10,.bool true)::ahY 9 k 8 (abo l) [(7,.slice (some ⟨gA,o,none⟩) (abo l) c),(3,vI 0),(2,vI 0),(0,.slice (some ⟨gA,o,none⟩) (abo l) c)]))/\Mem w L [.blk D e.cells 73]) ?_ ?_
  ·
   refine Jb Z b ((Vs .n []) λT=>(Vp [0,1,2]) λa Z b f=>?_)
   rcases Z.tf 22 rfl with ⟨r,Z⟩|⟨r,Z⟩
   ·
    have F:=of_decide_eq_true r
    refine Vb Z b f ((Vf 3 2∘Vp [5,6]∘Vc 4 O0∘Vp [7]∘Vo (vI (k-1:Nat)) (by exact Mw om om)∘oq 8 (k-1) 11∘Vf 9 2∘Gd 10 qbv hr 2 (k-1) Ev.zero∘Vo (vB q.cpu) (by rw [g])∘Vp [11,12]) λa Z b f=>?_)
    rcases Z.tf 32 rfl with ⟨s,Z⟩|⟨s,Z⟩
    ·
     have G:=bne_iff_ne.1 s
     refine Vb Z b f ((Vq [13,14,15,16,17,18,19,20,21,22,23,24,25,26,27,28,29,30,31,32,33] [(53,.bool true)]∘Vq [34] [(54,.bool true)]∘Vo (.bool (!(kI l k).all λq=>e.after q)) (by exact Mv g (by first|exact iff_of_true rfl om|exact iff_of_false de om|exact decide_eq_true_iff.trans om))∘Vd∘aJ) λa Z b=>?_)
     exact ⟨Z.sub kr,b.pk [0]⟩
    have G:=bne_eq_false_iff_eq.1 s
    refine ap Z (λ_=>f) [13,15,16] (bf 35 [0,1,2,3,4,5,6,7,8,9,10,11,12,13,15,16]) [(36,vI k),(35,.slice (some ⟨gA,o,none⟩) (abo l) c),(33,vP D 0)] λa Z=>?_
    refine dH Z f 14 0 (v:=vI e.seq) λa Z=>?_
    refine pK Z (λ_=>f) (i:=17) rfl rfl (d:=37) rfl de kr (λ_ _ _ h=>h) (v:=vI (IntKind.i64.wrap ((k:Int)-1))) (λ_=>Yl.pure kr) λa Z=>?_
    replace Z:=Z.sp 37 (vI (k-1:Nat)) rfl (Mw om om)
    refine iw Z f 18 rfl (v:=vP gA (o+(k-1)*11)) (Yl.ix gA o (k-1) 11 rfl rfl rfl) λa Z=>?_
    refine ap Z (λ_=>f) [19] (bt 35 [20,21,22,23,24,25,26,27,28,29,30,31,32,33,34]) [(39,vP gA (o+(k-1)*11))] λa Z=>?_
    refine iw Z f 20 rfl (v:=vI ((l.getD (k-1) Ev.zero).seq)) (Pd rfl rfl kr (λ_ h=>(by have:=(h.old hr).partAt qbv (k:=(k-1)) (j:=0) (x:=(l.getD (k-1) Ev.zero)) ((getD_at Ev.zero (k:=k-1) om)) rfl;simpa using this))) λa Z=>?_
    replace Z:=Z.sp 40 (vI q.seq) rfl (by rw [g])
    refine ap Z (λ_=>f) [21,22,23] (bt 35 [24,25,26,27,28,29,30,31,32,33,34]) [(43,.bool (decide ((e.seq:Int)<=(q.seq:Int))))] λa Z=>?_
    refine Jb Z b (Ji (λH=>?_) λH=>?_)
    ·
     intro a Z b
     refine ap Z (λ_=>f) [24,25,26,27,28,29,30,31,32,33] (bt 35 [34]) [(53,.bool true)] λa Z=>?_
     refine pK Z (λ_=>f) (i:=34) rfl rfl (d:=54) rfl de kr (λ_ _ _ h=>h) (v:= .bool true) (λ_=>Yl.pure kr) λa Z=>?_
     replace Z:=Z.sp 54 (.bool (!(kI l k).all λq=>e.after q)) rfl (Mv g (by first|exact iff_of_true rfl om|exact iff_of_false de om|exact decide_eq_true_iff.trans om))
     refine qe kr ?_
     exact ⟨Z.sub kr,b.pk [0]⟩
    intro a Z b
    refine ap Z (λ_=>f) [24,26,27] (bt 35 [25,28,29,30,31,32,33,34]) [(47,vI k),(46,.slice (some ⟨gA,o,none⟩) (abo l) c),(44,vP D 1)] λa Z=>?_
    refine dH Z f 25 0 (v:=vI e.time) λa Z=>?_
    refine pK Z (λ_=>f) (i:=28) rfl rfl (d:=48) rfl de kr (λ_ _ _ h=>h) (v:=vI (IntKind.i64.wrap ((k:Int)-1))) (λ_=>Yl.pure kr) λa Z=>?_
    replace Z:=Z.sp 48 (vI (k-1:Nat)) rfl (Mw om om)
    refine iw Z f 29 rfl (v:=vP gA (o+(k-1)*11)) (Yl.ix gA o (k-1) 11 rfl rfl rfl) λa Z=>?_
    refine ap Z (λ_=>f) [30] (bt 35 [31,32,33,34]) [(50,vP gA (o+(k-1)*11+1))] λa Z=>?_
    refine iw Z f 31 rfl (v:=vI ((l.getD (k-1) Ev.zero).time)) (Pd rfl rfl kr (λ_ h=>(h.old hr).partAt qbv (k:=(k-1)) (j:=1) (x:=(l.getD (k-1) Ev.zero)) ((getD_at Ev.zero (k:=k-1) om)) rfl)) λa Z=>?_
    replace Z:=Z.sp 51 (vI q.time) rfl (by rw [g])
    refine ap Z (λ_=>f) [32,33] (bt 35 [34]) [(53,.bool (decide ((e.time:Int)<(q.time:Int))))] λa Z=>?_
    refine pK Z (λ_=>f) (i:=34) rfl rfl (d:=54) rfl de kr (λ_ _ _ h=>h) (v:= .bool (decide ((e.time:Int)<(q.time:Int)))) (λ_=>Yl.pure kr) λa Z=>?_
    replace Z:=Z.sp 54 (.bool (!(kI l k).all λq=>e.after q)) rfl (Mv g (by first|exact iff_of_true rfl om|exact iff_of_false de om|exact decide_eq_true_iff.trans om))
    refine qe kr ?_
    replace Z:=Z.to ((54,.bool (!(kI l k).all λq=>e.after q))::(17,.bool false)::ahY 6 e.check 4 k ((5,vP D 0)::(10,.bool true)::ahY 9 k 8 (abo l) [(7,.slice (some ⟨gA,o,none⟩) (abo l) c),(3,vI 0),(2,vI 0),(0,.slice (some ⟨gA,o,none⟩) (abo l) c)]))
    exact ⟨Z.sub kr,b.pk [0]⟩
   have F:=of_decide_eq_false r
   refine ap Z (λ_=>f) [3,4,5,6,7,8,9,10,11,12,13,14,15,16,17,18,19,20,21,22,23,24,25,26,27,28,29,30,31,32,33] (bt 35 [34]) [(53,undef)] λa Z=>?_
   refine pK Z (λ_=>f) (i:=34) rfl rfl (d:=54) rfl de kr (λ_ _ _ h=>h) (v:= .bool false) (λ_=>Yl.pure kr) λa Z=>?_
   replace Z:=Z.sp 54 (.bool (!(kI l k).all λq=>e.after q)) rfl (Mv g (by first|exact iff_of_true rfl om|exact iff_of_false de om|exact decide_eq_true_iff.trans om))
   refine qe kr ?_
   exact ⟨Z.sub kr,b.pk [0]⟩
  clear Z b;rintro a Y ⟨Z,b⟩
  refine Jb Z b (Ju (λI=>?_) λI=>?_)
  ·
   exact (JT∘bE 3∘bW) λb=>Qj (m:=71) (t.trans (z.trans ((if_neg om).trans (if_pos (by simp_all))))) rfl b.below
  refine (aQ∘JR∘dA 1∘Jp 1∘aL∘Jq) λa Z b=>?_
  exact ⟨_,om,k+1,by omega,(t.trans (z.trans ((if_neg om).trans ((if_neg (by simp_all)).trans (by rw [zbs u]))))),rfl,Z.sub kr,b.pk []⟩
 exact (JF∘JX∘JG∘bE 2∘bW) λb=>Qj (m:=0) (t.trans (ziq om)) rfl b.below
def q4t (b:Bs) (e:Ev) (a:e.Ok) {l:List Nat} (h:qed b e=0) (hb:zk b e=l) (B:Nat) (w:aiM) (c:Laid B w) (d:B<=w.heap.size):Calls abp 244 #[.agg b.cells,.agg e.cells] w (mh w 0 l):=by
 have k:=zbu b e a B w c d
 have f:xI b e=l:=by unfold xI;rw [if_pos h,hb]
 rwa [h,f] at k
def Yb (A:aiW) (c:Nat) (l:List Ev) (a:∀e∈l,e.Ok) (B:Nat) (w:aiM) (b:Laid B w) (d:B<=w.heap.size) (hr:Rd w w.heap.size 11 A (abo l) (l.flatMap fC)) (f:abo l<=140737488355328) {v:Int} {m:Nat} (h:jg l=(v,m)):Calls abp 171 #[.slice A (abo l) c] w (Is w (.tuple #[.int .i64 v,.int .i64 (m:Int)])):=by
 have k:=zbv A c l a B w b d hr f
 rwa [h] at k
theorem qu3 (b:Bs) (A:aiW) (c:Nat) (l:List Ev) (I:∀e∈l,e.Ok) (B:Nat) (w:aiM) (hL:Laid B w) (R:B<=w.heap.size) (hr:Rd w w.heap.size 11 A (abo l) (l.flatMap fC)) (hn:abo l<=1000000000000):Calls abp 228 #[.agg b.cells,.slice A (abo l) c] w (mh w (r9 b l) (uY b l)):=by
 refine (iP Tryz.func228 56) ?_
 refine (JP∘JE) λw2 S=>(Jp 2∘Jq) ?_
 obtain ⟨ri,T,q⟩:∃ri T,jg l=(ri,T):=⟨_,_,rfl⟩
 refine (JG∘bN 1∘JI (h:=by exact λg=>Yb A c l I B _ (hL.mem g R) (g.le R) (g.old hr) om q)) λEA z=>(Jp 1∘Jx∘Jx∘Jp 2∘aJ∘bg 2∘aL∘Jj) (Jh (λJ=>?_) λJ=>?_)
 ·
  exact (JT∘bE 3∘bW) λg=>Gg (q0m q om) rfl g.below
 obtain ⟨G,r⟩:∃e,l.getD 0 Ev.zero=e:=⟨_,rfl⟩
 refine (aQ∘JQ) λa Z g=>?_
 refine qy (λU V=>Fr U 56 [] [(36,.bool (!(b.right&&l.head?.all b.behind))),(19,.bool false),(7,vI T),(5,vI 0),(4,.slice none 0 0),(2,vP S 0),(1,.slice A (abo l) c)]/\Mem w V [.blk S b.cells 110]) ?_ ?_
 ·
  refine Jb Z g ((Vs .n []) λwd4=>(mK 0 iN O0∘VI 1 .n (h:=by exact λg=>Mx b _)) λQl z=>(Vp [2,3]) λa Z g o=>?_)
  rcases Z.tf 24 rfl with ⟨K,Z⟩|⟨K,Z⟩
  ·
   refine Vb Z g o ((Vq [4,5,6,7,8,9,10,11,12,13,14] [(35,undef)]∘Vq [15] [(36,.bool true)]∘Vo (.bool (!(b.right&&l.head?.all b.behind))) (by exact Ck (by rw [r];first|exact iff_of_true rfl (by simp_all)|exact iff_of_false de (by simp_all;omega)|simp_all))∘Vd∘aJ) λa Z g=>?_)
   exact ⟨Z.sub kr,g.pk [0]⟩
  refine ap Z (λ_=>o) [4] (bf 16 [0,1,2,3,4]) [(25,.slice A (abo l) c)] λa Z=>?_
  refine p9 Z o 5 λa Z=>?_
  refine ap Z (λ_=>o) [6,7] (bf 16 [0,1,2,3,4,5,6,7]) [(28,.bool (decide ((abo l:Int)>(0:Int))))] λa Z=>?_
  refine Jb Z g (Ji (λM=>?_) λM=>?_)
  ·
   intro a Z g
   refine ap Z (λ_=>o) [9] (bt 16 [8,10,11,12,13,14,15]) [(30,.slice A (abo l) c)] λa Z=>?_
   refine iw Z o 8 rfl (v:= .agg b.cells) (Pe rfl rfl iN rfl (λ_ h=>qj (h.blk (i:=0) rfl))) λa Z=>?_
   revert g;revert a;repeat (first|clear Z|clear g)
   intro a Z g
   obtain ⟨gA,W,rfl,_⟩:=hr.sat 0
   refine iw Z o 10 rfl (v:=vP gA W) (Yl.indexAddr (ad:=⟨gA,W,none⟩) (y:=0) (sz:=11) rfl rfl rfl om kr) λa Z=>?_
   refine iw Z o 11 rfl (v:= .agg ((l.getD 0 Ev.zero).cells)) (Pe rfl rfl q8 rfl (λ_ h=>(h.old hr).vv qbv ((getD_at Ev.zero (k:=0) om)))) λa Z=>?_
   replace Z:=Z.sp 32 (.agg G.cells) rfl (by rw [r])
   refine s_on Z 12 rfl (jq Z g [.agg b.cells,.agg G.cells] (.bool (b.behind G)) rfl rfl (X7 b G _) λGh z g a Z=>?_)
   refine av (g.pk [0]) (λo=>?_)
   refine ap Z (λ_=>o) [13,14] (bt 16 [15]) [(35,.bool (!(b.behind G)))] λa Z=>?_
   refine pK Z (λ_=>o) (i:=15) rfl rfl (d:=36) rfl de kr (λ_ _ _ h=>h) (v:= .bool (!(b.behind G))) (λ_=>Yl.pure kr) λa Z=>?_
   replace Z:=Z.sp 36 (.bool (!(b.right&&l.head?.all b.behind))) rfl (Ck (by rw [r];first|exact iff_of_true rfl (by simp_all)|exact iff_of_false de (by simp_all;omega)|simp_all))
   refine qe kr ?_
   exact ⟨Z.sub kr,g.pk [0]⟩
  intro a Z g
  refine ap Z (λ_=>o) [8,9,10,11,12,13,14] (bt 16 [15]) [(35,.bool false)] λa Z=>?_
  refine pK Z (λ_=>o) (i:=15) rfl rfl (d:=36) rfl de kr (λ_ _ _ h=>h) (v:= .bool false) (λ_=>Yl.pure kr) λa Z=>?_
  replace Z:=Z.sp 36 (.bool (!(b.right&&l.head?.all b.behind))) rfl (Ck (by rw [r];first|exact iff_of_true rfl (by simp_all)|exact iff_of_false de (by simp_all;omega)|simp_all))
  refine qe kr ?_
  exact ⟨Z.sub kr,g.pk [0]⟩
 clear Z g;rintro a w4 ⟨Z,g⟩
 refine Jb Z g (Ju (λp=>?_) λp=>?_)
 ·
  exact (JT∘bE 2∘bW) λg=>Gg (qu2 q om (λh=>by rw [h] at p;exact absurd p de)) rfl g.below
 have N:(b.right&&l.head?.all b.behind)=true:=by simpa using p
 refine (aQ∘aM 1∘Jq∘JC (h:=by exact λg=>g.nil 5 1)∘JG∘bN 1∘Jl∘bM 1∘JB) λa Z g=>?_
 refine qg (λmS U V=>∃(k:Nat) (pre:List Nat) (H:Bs) (X:aiW) (co:Nat),(k<=abo l)/\(abo pre<=61*k)/\(H=FQ b l k)/\(recs b l=pre++recs H (l.drop k))/\(abo pre<=co)/\mS=abo l-k/\Fr U 56 [] (ahY 39 k 38 (abo l) [(37,.slice A (abo l) c),(8,.slice X (abo pre) co),(36,.bool false),(19,.bool false),(7,vI T),(5,vI 0),(4,.slice none 0 0),(2,vP S 0),(1,.slice A (abo l) c)])/\Mem w V [.row (.slice X (abo pre) co) (abo pre) (pre.map B8) 5 1,.blk S H.cells 110]) (m:=abo l-0) ⟨0,[],b,none,0,abz _,abz _,rfl,rfl,abz _,rfl,Z.sub kr,g.pk [0,1]⟩ ?_
 clear Z g;rintro mS a w_ ⟨k,pre,H,X,co,hk,hpl,Y,O,hco,rfl,Z,g⟩
 refine Jb Z g ((dh 1∘JQ) (Ji (λP=>?_) λP=>?_))
 ·
  have C:k<abo l:=by omega
  obtain ⟨e,D⟩:∃e,l.getD k Ev.zero=e:=⟨_,rfl⟩
  have vG:e.Ok:=I e (by rw [<-D];exact qf Ev.zero C)
  have s:=q4s q om N C Y D
  obtain ⟨u,Q⟩:∃u,zk H e=u:=⟨_,rfl⟩
  rw [Q] at s
  refine (eY∘JP) ?_
  obtain ⟨gA,W,rfl,_⟩:=hr.sat k
  refine (iC k 11∘qD Ev.cells qbv hr q8 k Ev.zero (hk:=C)∘Jo (.agg e.cells) (by rw [D])∘JA aiD) λsG g10=>(JV q8 aO (h1:=by exact rM e)) λGi=>(bU∘Jr∘eH iN O2∘eH q8 O0∘JK (h:=by exact λg=>q4t H e vG s.1 Q B _ (hL.mem g R) (g.le R))) λAr cr EB hcr=>(Jp 1∘Jx∘Jx∘Jp 2∘mJ∘Jj∘Vs (.t (.t (.f .n))) [6]) λQm=>(Vp [0,1]∘mK 3 q8 O1) λa Z g o=>?_
  refine s_on Z 2 rfl (rO Z g (i:=2) rfl bA rfl rfl rfl (news:=(u.map B8)) (g.rd (i:=0) rfl) (tK _) om om rfl de ?_)
  clear Z g;intro a Qn E F Z g x
  refine av (g.pk [0,1,3]) (λo=>?_)
  refine Vb Z g o ((VI 4 (.t (.t (.f .n))) (h:=by exact λg=>X6 e _)) λYc z=>(Vp [5]) λa Z g o=>?_)
  refine s_on Z 6 rfl (bS Z g 3 rfl rfl rfl rfl rfl iN rfl rfl (LX e.at) λYd g=>?_)
  refine dU kr ?_
  refine qe kr ?_
  have j:(abo pre+abo u)=abo (pre++u):=by rw [abq]
  rw [j] at x
  replace g:=g.bC (i:=2) (ys:=(pre++u).map B8) rfl j (by rw [abZ])
  replace Z:=Z.sp 8 (.slice E (abo (pre++u)) F) rfl (iW j)
  replace Z:=Z.sp 51 (.slice E (abo (pre++u)) F) rfl (iW j)
  refine Jb Z g ((JG∘JR∘dA 1∘Jp 1∘aL∘Jq) λa Z g=>?_)
  exact ⟨_,om,k+1,(pre++u),e.at,E,F,by omega,by rw [abq];omega,s.2.2.1,(O.trans (by rw [s.2.1,abv])),x,rfl,Z.sub kr,g.pk [2,3]⟩
 exact (JF∘JX∘JG∘bE 3∘bW) λg=>X3 (L:=pre) (q0n q om N O om) (g.own (i:=0) rfl) hco g.below
def zbw (b:Bs) (A:aiW) (n c:Nat) (l:List Ev) (a:∀e∈l,e.Ok) (B:Nat) (w:aiM) (d:Laid B w) (f:B<=w.heap.size) (hr:Rd w w.heap.size 11 A n (l.flatMap fC)) (g:n<=1000000000000) {er:Nat} {R:List Nat} (h1:r9 b l=er) (h:uY b l=R):
  Calls abp 228 #[.agg b.cells,.slice A n c] w (mh w er R):=by
 obtain rfl:abo l=n:=W9 hr
 subst h1;subst h
 exact qu3 b A c l a B w d f hr g
def zmz (A:aiW) (n c:Nat) (l:List Ev) (a:∀e∈l,e.Ok) (B:Nat) (w:aiM) (b:Laid B w) (d:B<=w.heap.size) (hr:Rd w w.heap.size 11 A n (l.flatMap fC)) (f:n<=140737488355328) {i:Int} {er:Nat} (h:jg l=(i,er)):
  Calls abp 171 #[.slice A n c] w (Is w (.tuple #[.int .i64 i,.int .i64 (er:Int)])):=by
 obtain rfl:abo l=n:=W9 hr
 exact Yb A c l a B w b d hr f h
abbrev ah6:=λa=>(.blk a #[vI 0,vI 0,vB 0,vB 0,vI 0,vI 0,vI 0,vI 0,vI 0,vQ 0,vI 0] 73:aiX)
def q4v (e:Ev) (he:e.Ok) (A:aiW) (c:Nat) (vs:List Nat) (B:Nat) (w:aiM) (P:Laid B w) (K:B<=w.heap.size) (hr:Rd w w.heap.size 1 A (abo vs) (vs.map bF)) (Q:∀x∈vs,x<18446744073709551616):
    Calls abp 319 #[.agg e.cells,.slice A (abo vs) c] w (mR w (e.dZ vs) (e.dx vs)):=by
 refine (iP Tryz.func319 66) ?_
 refine (JP∘JE) λw2 L=>(JA aiD) λw4 M=>(bM 1∘JQ) λa Z b=>?_
 refine qy (λR S=>Fr R 66 [] [(17,.bool (decide (e.kind=0\/10<e.kind))),(5,vI 0),(4,vP M 0),(2,vP L 0),(1,abl A vs c)]/\Mem w S [ah6 M,.blk L e.cells 73]) ?_ ?_
 ·
  refine zu ?_
  refine Jb Z b ((Jg 3 O1∘Jp 2) (Je (λu=>?_) λu=>?_))
  ·
   refine (Jp 4∘aJ∘Jq) λa Z b=>?_
   have Z:=Z.sp 17 (.bool (decide (e.kind=0\/10<e.kind))) rfl (ou (by simp only [decide_eq_true_eq];first|omega|exact iff_of_true trivial om|exact iff_of_false id om))
   exact ⟨Z.sub kr,b.pk [0,1]⟩
  refine (Jg 3 O1∘Jp 2∘lq∘Jq) λa Z b=>?_
  have Z:=Z.sp 17 (.bool (decide (e.kind=0\/10<e.kind))) rfl (ou (by simp only [decide_eq_true_eq];first|omega|exact iff_of_true trivial om|exact iff_of_false id om))
  exact ⟨Z.sub kr,b.pk [0,1]⟩
 clear Z b;rintro a w1 ⟨Z,b⟩
 refine Jb Z b (Ju (λf=>?_) λf=>?_)
 ·
  have z:=of_decide_eq_true f
  have C:=of_decide_eq_true f
  refine (JT∘JP∘Jy (v:= .agg Ev.zero.cells) (h:=by exact (Yl.build (vs:=[]) rfl kr kr))∘JV q8 aO (h1:=by exact rM Ev.zero)) λCm=>(Jp 1∘aL∘aP) λa Z b=>?_
  exact dR rfl Z (.cellS (i:=0) Z b rfl rfl q8 rfl) (.tmp Z rfl) (Gf (zbo C) rfl b.below rfl)
 have z:=of_decide_eq_false f
 have d:=of_decide_eq_false f
 obtain ⟨N,cu,T,D⟩:=P.uses e.kind om
 have E:2<w.heap.size:=Nat.lt_of_lt_of_le P.big K
 have hu:w.cell? ⟨2,e.kind*1,none⟩=some (.slice N (abo (aB e.kind)) cu):=by rw [ac0];exact T
 have G:=D.more K
 have hul:=Aa e.kind
 refine (aQ∘bN 1∘Jl∘Jg 3 O1∘Jy (v:=vP 2 (e.kind*1)) (h:=by exact (Yl.tL (ad:=⟨2,0,none⟩) (m:=11) (y:=e.kind) (sz:=1) rfl rfl rfl kr om).as (by rw [acI,aci]))∘Jy (v:= .slice N (abo (aB e.kind)) cu) (h:=by exact Pd rfl rfl kr (λ_ h=>h.Am hu E))∘Jl∘Jp 1∘aJ∘Jj) (Jh (λH=>?_) λH=>?_)
 ·
  refine (JT∘JP∘Jy (v:= .agg Ev.zero.cells) (h:=by exact (Yl.build (vs:=[]) rfl kr kr))∘JV q8 aO (h1:=by exact rM Ev.zero)) λGj=>(Jp 1∘aL∘aP) λa Z b=>?_
  exact dR rfl Z (.cellS (i:=0) Z b rfl rfl q8 rfl) (.tmp Z rfl) (Gf (zik d om) rfl b.below rfl)
 have l:abo vs=abo (aB e.kind):=by omega
 refine (aQ∘JP∘Jg 0 O1∘Jg 1 O1∘Jg 2 O1∘Jg 3 O1∘Jy (v:= .agg e.base.cells) (h:=by exact (Yl.build (vs:=(ahY 0 e.seq 1 e.time [(2,vB e.cpu),(3,vB e.kind)])) rfl kr kr))∘JA aiD) λw6 g6=>(JV q8 aO (h1:=by exact rM e.base)) λU=>(lq∘bg 1∘Jj∘JQ∘JP∘Jg 3 O2∘Jy (v:=vP 2 (e.kind*1)) (h:=by exact (Yl.tL (ad:=⟨2,0,none⟩) (m:=11) (y:=e.kind) (sz:=1) rfl rfl rfl kr om).as (by rw [acI,aci]))∘Jy (v:= .slice N (abo (aB e.kind)) cu) (h:=by exact Pd rfl rfl kr (λ_ h=>h.Am hu E))∘Jl∘bM 1∘JB) λa Z b=>?_
 refine qg (λmS R S=>∃(k:Nat) (o:Ev) (g:Bool),(k<=abo (aB e.kind))/\(o=e.base.fill (((aB e.kind).zip vs).take k))/\(g=(((aB e.kind).zip vs).take k).all λp=>Ev.fits p.1 p.2)/\mS=abo (aB e.kind)-k/\Fr R 66 [] (ahY 42 k 41 (abo (aB e.kind):Nat) [(40,abl N (aB e.kind) cu),(7,.bool g),(6,vP g6 0),(26,.bool false),(17,.bool false),(5,vI 0),(4,vP M 0),(2,vP L 0),(1,abl A vs c)])/\Mem w S [.blk g6 o.cells 73,ah6 M,.blk L e.cells 73]) (m:=abo (aB e.kind)-0) ⟨0,e.base,true,abz _,rfl,rfl,rfl,Z.sub kr,b.pk [0,1,2]⟩ ?_
 clear Z b;rintro mS a w_ ⟨k,o,g,hk,O,n,rfl,Z,b⟩
 refine Jb Z b ((dh 1∘JQ) (Ji (λI=>?_) λI=>?_))
 ·
  have V:k<abo (aB e.kind):=by omega
  obtain ⟨i,hi⟩:∃i,(aB e.kind)[k]?=some i:=⟨_,abr V⟩
  have W:=BL _ _ (abJ hi)
  obtain ⟨x,hx⟩:∃x,vs[k]?=some x:=⟨_,abr om⟩
  have q:=zbn hi hx
  refine (eY∘aM 1) ?_
  obtain ⟨gAu,oAu,rfl,_⟩:=G.sat k
  refine (iC k 1∘Jy (v:=vI i) (h:=by exact Pd rfl rfl kr (λ_ h=>(h.old G).BS (k:=k) (vw (F:=bL) (k:=k) (x:=i) (hi))))∘bM 2∘JR∘Jp 3) ?_
  obtain ⟨gA,oA,rfl,_⟩:=hr.sat k
  refine (iC k 1∘Jy (v:=vQ x) (h:=by exact Pd rfl rfl kr (λ_ h=>(h.old hr).BS (k:=k) (vw (F:=bF) (k:=k) (x:=x) (hx))))∘JO (h:=by exact λb=>zmw (b.pk [0,1,2]) W)) λw52=>(Jp 1) (Ju (λj=>?_) λj=>?_)
  ·
   refine (Jp 3∘aJ∘Jq) λa Z b=>?_
   have Z:=Z.sp 7 (.bool (g&&Ev.fits i x)) rfl (by rw [j,Bool.and_true])
   refine Jb Z b ((JG∘JR∘dA 1∘Jp 1∘aL∘Jq) λa Z b=>?_)
   exact ⟨_,om,k+1,(o.put i x),(g&&Ev.fits i x),by omega,by rw [q,WK,<-O],by rw [q,agU,<-n];simp,rfl,Z.sub kr,b.pk [0,1,2]⟩
  refine (Jp 3∘aJ∘Jq) λa Z b=>?_
  have Z:=Z.sp 7 (.bool (g&&Ev.fits i x)) rfl (by rw [j,Bool.and_false])
  refine Jb Z b ((JG∘JR∘dA 1∘Jp 1∘aL∘Jq) λa Z b=>?_)
  exact ⟨_,om,k+1,(o.put i x),(g&&Ev.fits i x),by omega,by rw [q,WK,<-O],by rw [q,agU,<-n];simp,rfl,Z.sub kr,b.pk [0,1,2]⟩
 have hz:((aB e.kind).zip vs).take k=((aB e.kind).zip vs):=abL (by rw [List.length_zip];omega)
 rw [hz] at O n
 have s:o=e.made vs:=O
 have X:o.Ok:=by rw [s];exact Pq (WJ he) _ (λp hp=>Q p.2 (List.of_mem_zip hp).2)
 refine (JF∘JX∘JG∘bN 3) (Ju (λr=>?_) λr=>?_)
 ·
  refine (Jp 4∘aJ∘Jj∘JT∘JP∘Jy (v:= .agg Ev.zero.cells) (h:=by exact (Yl.build (vs:=[]) rfl kr kr))∘JV q8 gu (h1:=by exact rM Ev.zero)) λt=>(Jp 1∘aL∘aP) λa Z b=>?_
  exact dR rfl Z (.cellS (i:=1) Z b rfl rfl q8 rfl) (.tmp Z rfl) (Gf (XY d l (by exact BM e vs l (by rw [<-n];simpa using r))) rfl b.below rfl)
 refine (eH q8 O0∘JL (h:=by exact λb=>Pp o X B _ (P.mem b K) (b.le K))) ?_
 rintro b _ w61 ⟨rfl,Y⟩
 refine ⟨_,rfl,_,b.call Y,?_⟩
 refine (Jp 2∘aJ∘Jj) (Jh (λJ=>?_) λJ=>?_)
 ·
  refine (JT∘JP∘Jy (v:= .agg Ev.zero.cells) (h:=by exact (Yl.build (vs:=[]) rfl kr kr))∘JV q8 gu (h1:=by exact rM Ev.zero)) λt=>(Jp 1∘aL∘aP) λa Z b=>?_
  exact dR rfl Z (.cellS (i:=1) Z b rfl rfl q8 rfl) (.tmp Z rfl) (Gf (XY d l (by rw [<-s];omega)) rfl b.below rfl)
 refine (aQ∘JP∘eH q8 O0∘JV q8 gu (h1:=by exact rM o)) λYe=>(Jp 1∘aL∘aP) λa Z b=>?_
 exact dR rfl Z (.cellS (i:=1) Z b rfl rfl q8 rfl) (.tmp Z rfl) (Gf (zil d l s om) rfl b.below rfl)
def zbx (e:Ev) (b:e.Ok) (A:aiW) (n c:Nat) (vs:List Nat) (B:Nat) (w:aiM) (d:Laid B w) (f:B<=w.heap.size) (hr:Rd w w.heap.size 1 A n (vs.map bF)) (a:∀x∈vs,x<18446744073709551616):
  Calls abp 319 #[.agg e.cells,.slice A n c] w (mR w (e.dZ vs) (e.dx vs)):=by
 obtain rfl:abo vs=n:=by simpa using hr.len
 exact q4v e b A c vs B w d f hr a
def q4w (A:aiW) (n c:Nat) (l:List Nat) (w:aiM) (hr:Rd w w.heap.size 1 A n (l.map B8)) (d:∀b∈l,b<256) (f:n<=100000000000000) {x m e:Nat} (h:aD l=(x,m,e)):Calls abp 52 #[.slice A n c] w (Is w (.tuple #[.int .u64 (x:Int),.int .i64 (m:Int),.int .i64 (e:Int)])):=by
 have k:=LQ A n c l w hr d om
 rw [h] at k
 exact k.mono λ_ _ ⟨h,a⟩=>⟨h,by first|exact a|(subst a;exact Below.refl _ _)⟩
def kP (xs:List Nat) (q:Nat) (r:List Nat×Nat×Nat):List Nat×Nat×Nat:=if r.2.2≠0 then ([],0,r.2.2) else (xs++r.1,q+r.2.1,0)
section
variable {xs l:List Nat} {q k x m e:Nat}
theorem q4x:∀{k:Nat} {l:List Nat},(aV k l).2.2≠0->aV k l=([],0,(aV k l).2.2):=by intro x;cases x<;>grind [aV]
theorem zm0:aV k l=kP [] 0 (aV k l):=by grind [kP,aV,q4x]
def zby (h:aD l=(x,m,e)) (a:e≠0):kP xs q (aV (k+1) l)=([],0,e):=by
 rw [aV,h,if_pos a]
 unfold kP
 exact if_pos a
theorem q4y (h:aD l=(x,m,e)) (a:e=0):kP xs q (aV (k+1) l)=kP (xs++[x]) (q+m) (aV k (l.drop m)):=by grind [kP,aV]
def zbz:kP xs q (aV 0 l)=(xs,q,0):=by
 show (xs++[],q+0,0)=_
 rw [abM]
 rfl
end
def Cn {R:Ev×Nat×Nat} {ev:Ev} {v u:Int} (h:R=(ev,n,m)) (a:v=(n:Int)) (c:u=(m:Int)) (hb:Below w.heap.size w W) {C:Array aiN} (hc:C=ev.cells):Is w (.tuple #[.agg R.1.cells,.int .i64 (R.2.1:Int),.int .i64 (R.2.2:Int)]) (.returned (.tuple #[.agg C,.int .i64 v,.int .i64 u])) W:=by
 subst h a c hc
 exact ⟨rfl,hb⟩
section
variable {b:Bs} {cpu kd:Nat} {l xs:List Nat} {q e:Nat}
def zir (h:b.right=false):bD b cpu l=(Ev.zero,0,70):=by unfold bD;exact if_pos h
theorem zis (h:b.right=true) (h1:abo l=0):bD b cpu l=(Ev.zero,0,10):=by grind [bD]
theorem zit (h:b.right=true) (h1:abo l≠0) (hk:l.getD 0 0=kd) (a:abo (aB kd)=0):bD b cpu l=(Ev.zero,0,60):=by grind [bD]
theorem MB (h:b.right=true) (h1:abo l≠0) (hk:l.getD 0 0=kd) (a:abo (aB kd)≠0):bD b cpu l=tH b cpu kd (aV (2+abo (aB kd)) (l.drop 1)):=by grind [bD]
def q4z (h:e≠0):tH b cpu kd ([],0,e)=(Ev.zero,0,e):=by unfold tH;exact if_pos h
theorem qu4 (a:xs.getD 0 0=c) (h1:xs.getD 1 0=g) (h:281474976710656-b.seq<(c:Int)\/281474976710656-b.time<(g:Int)):tH b cpu kd (xs,q,0)=(Ev.zero,0,61):=by grind [tH]
theorem q0o {E:Ev} (a:xs.getD 0 0=c) (h1:xs.getD 1 0=g) (h:¬(281474976710656-b.seq<(c:Int)\/281474976710656-b.time<(g:Int))) (d:b.ev cpu kd c g=E) (f:E.dx (xs.drop 2)=er) (i:er≠0):tH b cpu kd (xs,q,0)=(Ev.zero,0,61):=by grind [tH]
theorem q0p {E:Ev} (a:xs.getD 0 0=c) (h1:xs.getD 1 0=g) (h:¬(281474976710656-b.seq<(c:Int)\/281474976710656-b.time<(g:Int))) (d:b.ev cpu kd c g=E) (f:E.dx (xs.drop 2)=er) (i:er=0):tH b cpu kd (xs,q,0)=(E.dZ (xs.drop 2),1+q,0):=by grind [Ev.dZ,tH]
end
def ziu {b:Bs} {cpu kd:Nat} (hb:1<=b.seq/\b.seq<=281474976710656/\0<=b.time/\b.time<=281474976710656) (h1:cpu<256) (a:kd<256) (d:(c:Int)<=281474976710656) (f:(g:Int)<=281474976710656):(b.ev cpu kd c g).Ok:=
 ⟨show aX (b.seq+c) by unfold aX;omega,show aX (b.time+g) by unfold aX;omega,h1,a,oL,oL,oL,oL,oL,by show 0<18446744073709551616;decide,oL⟩
def Yf (E:Ev) (d:E.Ok) (A:aiW) (n c:Nat) (vs:List Nat) (B:Nat) (w:aiM) (f:Laid B w) (g:B<=w.heap.size) (hr:Rd w w.heap.size 1 A n (vs.map bF)) (a:∀x∈vs,x<18446744073709551616) {er:Nat} (h:E.dx vs=er):Calls abp 319 #[.agg E.cells,.slice A n c] w (Is w (.tuple #[.agg (E.dZ vs).cells,.int .i64 (er:Int)])):=by
 subst h
 exact (zbx E d A n c vs B w f g hr a).mono λ_ _ h=>⟨h.ret,h.below⟩
def aaN {cap:Nat} (h:Rd w B 1 A n (l.map bF)) (hk:k<=n) (hc:n<=cap):Rd w B 1 (if cap=k then A else A.map (·.add (k*1))) (n-k) ((l.drop k).map bF):=by
 have a:=h.from hk hc
 rw [List.map_drop]
 have e:(l.map bF).drop (k*1)=(l.map bF).drop k:=by rw [ac0]
 rw [<-e]
 exact a
def q0q (kd:Nat) (a:kd<256) (B:Nat) (w:aiM) (d:Laid B w) (f:B<=w.heap.size):Calls abp 317 #[.int .u8 (kd:Int)] w λr g=>∃A c,r= .returned (.slice A (abo (aB kd)) c)/\Below w.heap.size w g:=
 (q0c kd a B w d f).mono λ_ _ ⟨v, xs, h, i, j⟩ => by
  obtain ⟨A,c,rfl,hc⟩:=BQ i
  exact ⟨A,c,h,j⟩
def q40 (W w:aiM) (b d:Nat) (A:aiW) (c:Nat) (l:List Nat) (q:Nat) (fr:List aiX) (k:∀z∈l,z<256) (n:q<=abo l) (y:abo l<=100000000000) (hr:Rd W W.heap.size 1 A (abo l) (l.map B8)) (hc:abo l<=c)
    (f:Mem W w (.blk b #[.slice A (abo l) c] 30:: .blk d #[.int .i64 (q:Int)] 3::fr)) {x m e p:Nat} (g:aD (l.drop q)=(x,m,e)) (o:q+m=p):
    Calls abp 318 #[.pointer (some ⟨b,0,none⟩),.pointer (some ⟨d,0,none⟩)] w λr s=>r= .returned (.tuple #[.int .u64 (x:Int),.int .i64 (e:Int)])/\Mem W s (ahS b A (abo l) c::.blk d #[.int .i64 (p:Int)] 3::fr):=by
 refine nP Tryz.func318 [vP b 0,vP d 0] [(0,vP b 0),(1,vP d 0)] λa Z=>?_
 refine Jb Z f ((aM 2∘Jq) ?_)
 have t:m<=abo l-q:=by have h:=xJ (l.drop q);rwa [g,abE] at h
 exact (JG∘JP∘Jc O0∘Jc O1∘Jy (h:=by exact aaf bA (j:=q) rfl rfl rfl om)∘JI (h:=by exact λf=>q4w _ _ _ (l.drop q) _ (Rd.F4 (f.old hr) n hc) (λz hz=>k z (abU hz)) om g)) λu v=>(Jp 1∘Jx∘Jx∘Jx∘Jp 3∘Jr∘Jc O1∘Jp 2∘Jo (vI p) (by exact zc om om)∘JW gu aO) λi=>(oo∘bg 4∘aP∘bW) λf=>by exact ⟨rfl,f.pt (fs':=(ahS b A (abo l) c::ahU d p::fr)) 2 [0,1]⟩
abbrev aij:=λa b c d e f g h i=>((12,.slice a b c)::(11,.func (.func 318) #[] #[vP d 0,vP e 0])::(10,vP e 0)::(31,.bool false)::(9,vI f)::(23,.bool false)::(19,.bool false)::(8,vI 0)::(7,vI 0)::(6,vP g 0)::(5,vP d 0)::(3,vP h 0)::i:List (Nat×aiN))
def q41 (b:Bs) (cpu:Nat) (Co:cpu<256) (A:aiW) (c:Nat) (l:List Nat) (B:Nat) (w:aiM) (hL:Laid B w) (hB:B<=w.heap.size) (hr:Rd w w.heap.size 1 A (abo l) (l.map B8)) (hc:abo l<=c) (hl:∀z∈l,z<256) (hn:abo l<=100000000000):Calls abp 311 #[.agg b.cells,.int .u8 (cpu:Int),.slice A (abo l) c] w (Is w (.tuple #[.agg (bD b cpu l).1.cells,.int .i64 ((bD b cpu l).2.1:Int),.int .i64 ((bD b cpu l).2.2:Int)])):=by
 refine (uL Tryz.func311 101) ?_
 refine (JP∘JE) λw3 U=>(tV) λw5 J=>(JA aiD) λw6 g6=>(bM 2∘JQ∘JP∘eH iN O2∘JI (h:=by exact λg=>Mx b _)) λxW V=>(Jp 1∘bU∘Jj) (Ju (λP=>?_) λP=>?_)
 ·
  refine (JT∘JP∘fD aiD∘JV q8 aO) λCm=>(bM 2∘JZ) λa Z g=>?_
  exact iq rfl Z (.cellS (i:=0) Z g rfl rfl q8 rfl) (.tmp Z rfl) (.tmp Z rfl) (Cn (zir (by simpa using P)) rfl rfl g.below rfl)
 have D:b.right=true:=by simpa using P
 refine (aQ∘JQ∘JP∘Jc O1∘Jl∘Jp 1∘bU∘Jj) (Je (λQo=>?_) λQo=>?_)
 ·
  refine (JT∘JP∘fD aiD∘JV q8 aO) λGj=>(bM 2∘JZ) λa Z g=>?_
  exact iq rfl Z (.cellS (i:=0) Z g rfl rfl q8 rfl) (.tmp Z rfl) (.tmp Z rfl) (Cn (zis D om) rfl rfl g.below rfl)
 obtain ⟨s,p⟩:∃z,l.getD 0 0=z:=⟨_,rfl⟩
 have hkd:s<256:=by rw [<-p];exact hl _ (qf 0 om)
 have hul:=Aa s
 refine (aQ∘JP∘Jc O1) ?_
 obtain ⟨gA,oA,rfl,_⟩:=hr.sat 0
 refine (Jy (v:=vP gA oA) (h:=by exact Yl.indexAddr (ad:=⟨gA,oA,none⟩) (y:=0) (sz:=1) rfl rfl rfl om kr)∘Jy (v:=vB (l.getD 0 0)) (h:=by exact aad hr 0 0 om rfl rfl)∘Jo (vB s) (by rw [p])∘JL (h:=by exact λg=>q0q s hkd B _ (hL.mem g hB) (g.le hB))) ?_
 rintro g _ EC ⟨Af,cf,rfl,V⟩
 refine ⟨_,rfl,_,g.call V,?_⟩
 refine (Jl∘Jp 1∘lq∘Jj∘bN 2∘aL∘Jj) (Je (λhd31=>?_) λhd31=>?_)
 ·
  refine (JT∘JP∘fD aiD∘JV q8 aO) λGl=>(bM 2∘JZ) λa Z g=>?_
  exact iq rfl Z (.cellS (i:=0) Z g rfl rfl q8 rfl) (.tmp Z rfl) (.tmp Z rfl) (Cn (zit D om p om) rfl rfl g.below rfl)
 refine (aQ∘JP∘JA #[vI 0]) λsG o=>(JW aO aO) λCq=>(Jr∘Jy (h:=by exact Yl.makeFunc (fst:=[]) (caps:=[vP J 0,vP o 0]) rfl rfl rfl)∘Jp 1∘aL∘bg 1∘Jq∘JC (h:=by exact λg=>g.nil 41 1)∘JG∘bN 2∘Jo (vI (2+abo (aB s):Nat)) (by exact zc om om)∘bM 1∘JB) λa Z g=>?_
 refine qg (λmS aS wS=>∃(k:Nat) (q:Nat) (xs:List Nat) (W:aiW) (K:Nat),(k<=2+abo (aB s))/\(abo xs=k)/\(q+1<=abo l)/\(∀x∈xs,x<18446744073709551616)/\(aV (2+abo (aB s)) (l.drop 1)=kP xs q (aV (2+abo (aB s)-k) (l.drop (q+1))))/\(abo xs<=K)/\mS=2+abo (aB s)-k/\Fr aS 101 [] (ahY 36 k 35 (2+abo (aB s):Nat) (aij W (abo xs) K J o (abo (aB s):Nat) g6 U [(1,vB cpu)]))/\Mem w wS [.row (.slice W (abo xs) K) (abo xs) (xs.map bF) 41 1,ahU o (q+1:Nat),ah6 g6,ahS J (some ⟨gA,oA,none⟩) (abo l) c,.blk U b.cells 110]) (m:=2+abo (aB s)-0) ⟨0,0,[],none,0,abz _,rfl,om,(λx hx=>by cases hx),zm0,abu _,rfl,Z.sub kr,g.pk [0,1,2,3,4]⟩ ?_
 clear Z g;rintro mS a w_ ⟨k,q,xs,W,K,hk,hxl,hq,Q,G,hcx,rfl,Z,g⟩
 refine Jb Z g ((dh 1∘JQ) (Ji (λQp=>?_) λQp=>?_))
 ·
  have hqq:q+1<=abo l:=by omega
  obtain ⟨⟨x,m,e⟩,R⟩:∃r,aD (l.drop (q+1))=r:=⟨_,rfl⟩
  have hxb:x<18446744073709551616:=by have h:=FM (l.drop (q+1)) (λz hz=>hl z (abU hz));rwa [R] at h
  have hml:m<=abo l- (q+1):=by have h:=xJ (l.drop (q+1));rwa [R,abE] at h
  obtain ⟨N,hN⟩:∃N,2+abo (aB s)-k=N+1:=⟨2+abo (aB s)-k-1,by omega⟩
  rw [hN] at G
  refine (eY∘aM 1) λa Z g=>?_
  refine fo Z 1 rfl rfl ?_
  replace g:=g.pk (fs':=[ahS J (some ⟨gA,oA,none⟩) (abo l) c,ahU o (q+1:Nat),.row (.slice W (abo xs) K) (abo xs) (xs.map bF) 41 1,ah6 g6,.blk U b.cells 110]) [3,1,0,2,4]
  refine zh Z (f:=318) (vs:=[]) (fst:=[]) (caps:=[vP J 0,vP o 0]) rfl rfl rfl kr rfl de (q40 w _ J o _ c l (q+1) [.row (.slice W (abo xs) K) (abo xs) (xs.map bF) 41 1,ah6 g6,.blk U b.cells 110] hl hqq om hr hc g R (show q+1+m=q+m+1 by omega)) ?_
  rintro _ X9 ⟨rfl,hm⟩
  refine ⟨_,rfl,?_⟩
  replace g:=hm
  clear Z;intro a Z
  refine Jb Z g ((Jp 1∘Jx∘Jx∘bM 2∘bN 2∘aL∘Jj) (Jh (λQq=>?_) λQq=>?_))
  ·
   refine (JT∘JP∘fD aiD∘Jp 1∘JV q8 og) λGm=>(bM 2∘JZ) λa Z g=>?_
   exact iq rfl Z (.cellS (i:=3) Z g rfl rfl q8 rfl) (.tmp Z rfl) (.tmp Z rfl) (Cn ((MB D om p om).trans ((congrArg _ (G.trans (zby R om))).trans (q4z om))) rfl rfl g.below rfl)
  refine (aQ∘JR∘Jp 2∘JU kM #[vQ x]) λAo Yh=>(JD ([x].map bF) 3 (λ_ _=>og) kM (hr:=by exact λg=>g.bB (i:=0) (n:=1) (size:=1) rfl rfl) (h1:=by exact X4 _)) λGn xX xY Gp=>(Jp 1∘fJ∘Jq) ?_
  have H:(abo xs+1)=abo (xs++[x]):=by rw [abq];rfl
  rw [H] at Gp
  refine (JC (h:=by exact λg=>g.bC (i:=3) (ys:=(xs++[x]).map bF) rfl H (by rw [abZ]))∘Jk 12 (.slice xX (abo (xs++[x])) xY) (h:=by exact iW H)∘JG∘JR∘dA 1∘Jp 1∘aL∘Jq) λa Z g=>?_
  exact ⟨_,om,k+1,(q+m),(xs++[x]),xX,xY,by omega,by rw [abq,hxl];rfl,by omega,(λy hy=>by rcases acg.1 hy with h|h;exact Q y h;rw [List.mem_singleton.1 h];exact hxb),(G.trans ((q4y R om).trans (by rw [acN,show 2+abo (aB s)- (k+1)=N by omega,show q+1+m=q+m+1 by omega]))),Gp,rfl,Z.sub kr,g.pk [3,2,4,1,5]⟩
 have aho:abo xs=2+abo (aB s):=by omega
 rw [show 2+abo (aB s)-k=0 by omega,zbz] at G
 obtain ⟨S,L⟩:∃z,xs.getD 0 0=z:=⟨_,rfl⟩
 obtain ⟨M,O⟩:∃z,xs.getD 1 0=z:=⟨_,rfl⟩
 have ahp:=Q S (by rw [<-L];exact qf 0 om)
 have ahq:=Q M (by rw [<-O];exact qf 0 om)
 have hbr:=of_decide_eq_true D
 refine (JF∘JX∘JG∘JQ) λa Z g=>?_
 refine qy (λaS wS=>Fr aS 101 [] ((69,.bool (decide (281474976710656-b.seq<(S:Int)\/281474976710656-b.time<(M:Int))))::(37,.bool false)::ahY 36 k 35 (2+abo (aB s):Nat) (aij W (abo xs) K J o (abo (aB s):Nat) g6 U [(1,vB cpu)]))/\Mem w wS [.row (.slice W (abo xs) K) (abo xs) (xs.map bF) 41 1,ahU o (q+1:Nat),ah6 g6,ahS J (some ⟨gA,oA,none⟩) (abo l) c,.blk U b.cells 110]) ?_ ?_
 ·
  refine Jb Z g ((Vs .n []) λGq=>(Vp [0]∘Vf 3 0) ?_)
  repeat (first|clear Z|clear g|clear u)
  intro a Z g u
  obtain ⟨C,rfl⟩:=g.rat 0 0
  refine Vb Z g u ((Vy 1 (v:=vP C 0) (h:=by exact Yl.indexAddr (ad:=⟨C,0,none⟩) (y:=0) (sz:=1) rfl rfl rfl om kr)∘Vy 2 (v:=vQ (xs.getD 0 0)) (h:=by exact aae 0 0 0 om rfl rfl rfl)∘Vo (vQ S) (by rw [L])∘Vc 4 O4∘Vp [5]∘Vo (vI (281474976710656-b.seq)) (by exact nD ⟨by omega,by omega⟩)∘Vq [6] [(58,vQ (IntKind.u64.wrap (281474976710656-b.seq)))]∘Vo (vQ ((281474976710656-b.seq).toNat)) (by exact Mt ⟨by omega,by omega⟩ rfl)∘Vp [7,8]) λa Z g u=>?_)
  rcases Z.tf 60 rfl with ⟨T,Z⟩|⟨T,Z⟩
  ·
   have Qr:=of_decide_eq_true T
   refine Vb Z g u ((Vq [9,10,11,12,13,14,15,16] [(68,undef)]∘Vq [17] [(69,.bool true)]∘Vo (.bool (decide (281474976710656-b.seq<(S:Int)\/281474976710656-b.time<(M:Int)))) (by exact ou (by simp only [decide_eq_true_eq];first|omega|exact iff_of_true trivial om|exact iff_of_false id om))∘Vd∘aJ) λa Z g=>?_)
   exact ⟨Z.sub kr,g.pk [0,1,2,3,4]⟩
  have Qr:=of_decide_eq_false T
  refine ap Z (λ_=>u) [9,12] (bt 18 [10,11,13,14,15,16,17]) [(64,vP U 1),(61,vS C (abo xs) K)] λa Z=>?_
  refine iw Z u 10 rfl (v:=vP C 1) (Yl.indexAddr (ad:=⟨C,0,none⟩) (y:=1) (sz:=1) rfl rfl rfl om kr) λa Z=>?_
  refine iw Z u 11 rfl (v:=vQ (xs.getD 1 0)) (aae 0 1 0 om rfl rfl rfl) λa Z=>?_
  replace Z:=Z.sp 63 (vQ M) rfl (by rw [O])
  refine dH Z u 13 4 (v:=vI b.time) λa Z=>?_
  refine pK Z (λ_=>u) (i:=14) rfl rfl (d:=66) rfl de kr (λ_ _ _ h=>h) (v:=vI (IntKind.i64.wrap (281474976710656-b.time))) (λ_=>Yl.pure kr) λa Z=>?_
  replace Z:=Z.sp 66 (vI (281474976710656-b.time)) rfl (nD ⟨by omega,by omega⟩)
  refine pK Z (λ_=>u) (i:=15) rfl rfl (d:=67) rfl de kr (λ_ _ _ h=>h) (v:=vQ (IntKind.u64.wrap (281474976710656-b.time))) (λ_=>Yl.pure kr) λa Z=>?_
  replace Z:=Z.sp 67 (vQ ((281474976710656-b.time).toNat)) rfl (Mt ⟨by omega,by omega⟩ rfl)
  refine ap Z (λ_=>u) [16] (bt 18 [17]) [(68,.bool (decide ((M:Int)>((281474976710656-b.time).toNat:Int))))] λa Z=>?_
  refine pK Z (λ_=>u) (i:=17) rfl rfl (d:=69) rfl de kr (λ_ _ _ h=>h) (v:= .bool (decide ((M:Int)>((281474976710656-b.time).toNat:Int)))) (λ_=>Yl.pure kr) λa Z=>?_
  replace Z:=Z.sp 69 (.bool (decide (281474976710656-b.seq<(S:Int)\/281474976710656-b.time<(M:Int)))) rfl (ou (by simp only [decide_eq_true_eq];first|omega|exact iff_of_true trivial om|exact iff_of_false id om))
  refine qe kr ?_
  exact ⟨Z.sub kr,g.pk [0,1,2,3,4]⟩
 clear Z g;rintro a xW ⟨Z,g⟩
 refine Jb Z g (Ju (λF=>?_) λF=>?_)
 ·
  have Qs:=of_decide_eq_true F
  refine (JT∘JP∘fD aiD∘JV q8 iG) λYi=>(bM 2∘JZ) λa Z g=>?_
  exact iq rfl Z (.cellS (i:=2) Z g rfl rfl q8 rfl) (.tmp Z rfl) (.tmp Z rfl) (Cn ((MB D om p om).trans ((congrArg _ G).trans (qu4 L O (of_decide_eq_true F)))) rfl rfl g.below rfl)
 have Qs:=of_decide_eq_false F
 have Gs:¬(281474976710656-b.seq<(S:Int)\/281474976710656-b.time<(M:Int)):=of_decide_eq_false F
 obtain ⟨E,hE⟩:∃E,b.ev cpu s S M=E:=⟨_,rfl⟩
 obtain ⟨er,X⟩:∃er,E.dx (xs.drop 2)=er:=⟨_,rfl⟩
 have sH:E.Ok:=by rw [<-hE];exact ziu hbr Co hkd om om
 refine (aQ) λa Z g=>?_
 refine qy (λaS wS=>∃(I:Nat),Fr aS 101 [] ((16,vI er)::(15,vP I 0)::(69,.bool false)::(37,.bool false)::ahY 36 k 35 (2+abo (aB s):Nat) (aij W (abo xs) K J o (abo (aB s):Nat) g6 U []))/\Mem w wS [.blk I ((E.dZ (xs.drop 2)).cells) 73,.row (.slice W (abo xs) K) (abo xs) (xs.map bF) 41 1,ahU o (q+1:Nat),ah6 g6,ahS J (some ⟨gA,oA,none⟩) (abo l) c,.blk U b.cells 110]) ?_ ?_
 ·
  refine Jb Z g ((Vs .n [26]) λGt=>(Vf 0 0∘Vp [2]∘Vf 7 1∘Vp [9,14,19]∘Vc 1 O4) ?_)
  repeat (first|clear Z|clear g|clear u)
  intro a Z g u
  obtain ⟨C,rfl⟩:=g.rat 0 0
  refine Vb Z g u ((Vy 3 (v:=vP C 0) (h:=by exact Yl.indexAddr (ad:=⟨C,0,none⟩) (y:=0) (sz:=1) rfl rfl rfl om kr)∘Vy 4 (v:=vQ (xs.getD 0 0)) (h:=by exact aae 0 0 0 om rfl rfl rfl)∘Vo (vQ S) (by rw [L])∘Vw 5 .i64∘Vp [6]∘Vo (vI (b.seq+S)) (by exact nD ⟨by omega,by omega⟩)∘Vc 8 O4∘Vy 10 (v:=vP C 1) (h:=by exact Yl.indexAddr (ad:=⟨C,0,none⟩) (y:=1) (sz:=1) rfl rfl rfl om kr)∘Vy 11 (v:=vQ (xs.getD 1 0)) (h:=by exact aae 0 1 0 om rfl rfl rfl)∘Vo (vQ M) (by rw [O])∘Vw 12 .i64∘Vp [13]∘Vo (vI (b.time+M)) (by exact nD ⟨by omega,by omega⟩)∘Vc 15 O3∘Vy 16 (v:=vP gA oA) (h:=by exact Yl.indexAddr (ad:=⟨gA,oA,none⟩) (y:=0) (sz:=1) rfl rfl rfl om kr)∘Vy 17 (v:=vB (l.getD 0 0)) (h:=by exact aad hr 0 0 om rfl rfl)∘Vo (vB s) (by rw [p])∘Vy 18 (v:= .agg #[vI (b.seq+S),vI (b.time+M),vB cpu,vB s,vI 0,vI 0,vI 0,vI 0,vI 0,vQ 0,vI 0]) (h:=by exact Yl.build (vs:=(ahY 0 (b.seq+S) 1 (b.time+M) [(2,vB cpu),(3,vB s)])) rfl kr kr)∘Vo (.agg E.cells) (by rw [<-hE];try rfl)∘Vy 20 (h:=by exact aaf kM (j:=2) rfl rfl rfl om)) λa Z g u=>?_)
  refine zf [21,25] kr rfl ?_
  refine all_cons ?_ ?_
  ·refine qu Z (i:=21) rfl rfl ?_
   refine jq Z g [.agg E.cells,.slice (if K=2 then some ⟨C,0,none⟩ else (some ⟨C,0,none⟩:aiW).map (·.add (2*1))) (abo xs-2) (K-2)] (.tuple #[.agg ((E.dZ (xs.drop 2)).cells),vI er]) rfl rfl (Yf E sH _ _ _ (xs.drop 2) B _ (hL.mem g hB) (g.le hB) (aaN (g.rd (i:=0) rfl) om om) (λx hx=>Q x (abU hx)) X) λw93 V g a Z=>?_
   refine av (g.pk [0,1,2,3,4]) (λu=>?_)
   refine Vb Z g u ((Vp [22]∘Vx 23∘Vx 24∘VA 25 .n aiD) λEA I=>λa Z g u=>?_)
   refine s_on Z 26 rfl (bS Z g 0 rfl rfl rfl rfl rfl q8 rfl rfl (rM (E.dZ (xs.drop 2))) λY g=>?_)
   refine dU kr ?_
   refine ap Z (bZ kr) [27] (bt 28 []) [(16,vI er)] λa Z=>?_
   refine qe kr ?_
   exact ⟨I,Z.sub kr,g.pk [0,1,2,3,4,5]⟩
  refine all_cons ?_ all_nil
  refine qu Z (i:=25) rfl rfl ?_
  refine gX Z g aiD ?_
  clear Z g;intro a EA I Z g
  refine av (g.pk [1,2,3,4,5]) (λu=>?_)
  refine Vb Z g u ((VI 21 (.f .n) (h:=by exact λg=>Yf E sH _ _ _ (xs.drop 2) B _ (hL.mem g hB) (g.le hB) (aaN (g.rd (i:=1) rfl) om om) (λx hx=>Q x (abU hx)) X)) λw93 V=>(Vp [22]∘Vx 23∘Vx 24) λa Z g u=>?_)
  refine s_on Z 26 rfl (bS Z g 0 rfl rfl rfl rfl rfl q8 rfl rfl (rM (E.dZ (xs.drop 2))) λY g=>?_)
  refine dU kr ?_
  refine ap Z (bZ kr) [27] (bt 28 []) [(16,vI er)] λa Z=>?_
  refine qe kr ?_
  exact ⟨I,Z.sub kr,g.pk [0,1,2,3,4,5]⟩
 clear Z g;rintro a Cr ⟨I,Z,g⟩
 refine Jb Z g ((bN 2∘bU∘Jj) (Jh (λQt=>?_) λQt=>?_))
 ·
  refine (JT∘JP∘fD aiD∘JV q8 og) λYj=>(bM 2∘JZ) λa Z g=>?_
  exact iq rfl Z (.cellS (i:=3) Z g rfl rfl q8 rfl) (.tmp Z rfl) (.tmp Z rfl) (Cn ((MB D om p om).trans ((congrArg _ G).trans (q0o L O Gs hE X om))) rfl rfl g.below rfl)
 refine (aQ) λa Z g=>?_
 refine wp_seq ?_
 refine Jb Z g ((Vs (.t (.t (.t (.f .n)))) []) λahs=>(mK 0 q8 O0∘Vc 1 O2) λa Z g u=>?_)
 refine s_on Z 2 rfl (bS Z g 3 rfl rfl rfl rfl rfl q8 rfl rfl (rM (E.dZ (xs.drop 2))) λYk g=>?_)
 refine av (g.pk [0,1,2,4,5]) (λu=>?_)
 refine Vb Z g u ((Vp [3,4]∘Vd∘JZ) λa Z g=>?_)
 exact iq rfl Z (.cellS (i:=3) Z g rfl rfl q8 rfl) (.tmp Z rfl) (.tmp Z rfl) (Cn ((MB D om p om).trans ((congrArg _ G).trans (q0p L O Gs hE X om))) om rfl g.below rfl)
def ziv (b:Bs) (cpu:Nat) (a:cpu<256) (A:aiW) (n c:Nat) (l:List Nat) (B:Nat) (w:aiM) (d:Laid B w) (f:B<=w.heap.size) (hr:Rd w w.heap.size 1 A n (l.map B8)) (hc:n<=c) (g:∀b∈l,b<256) (i:n<=100000000000) {e:Ev} {L er:Nat} (h:bD b cpu l=(e,L,er)):
  Calls abp 311 #[.agg b.cells,.int .u8 (cpu:Int),.slice A n c] w (Is w (.tuple #[.agg e.cells,.int .i64 (L:Int),.int .i64 (er:Int)])):=by
 obtain rfl:abo l=n:=by simpa using hr.len
 have k:=q41 b cpu a A c l B w d f hr hc g i
 rwa [h] at k
def Ym (W:aiM) (d cpu:Nat) (Inv:Bs->List Nat->List aiX->Prop) (Stop:List aiX->Prop):Prop:=
 ∀(bk:Bs) (rest:List Nat) (F fr:List aiX) (w:aiM) (e:Ev) (m er:Nat),Inv bk rest F->bD bk cpu rest=(e,m,er)->Mem W w (F++fr)->
  YieldAt acf 0 abp d #[.agg #[.int .i64 e.seq,.int .i64 e.time,.int .u8 (e.cpu:Int),.int .u8 (e.kind:Int),.int .i64 e.task,.int .i64 e.group,.int .i64 e.to,.int .i64 e.weight,.int .i64 e.ticks,.int .u64 (e.mask:Int),.int .i64 e.got,.int .i64 (m:Int)],.int .i64 (er:Int)] w λx f=>∃c,Mem W f (c++fr)/\((er=0/\x= .returned (.bool true)/\Inv e.at (rest.drop m) c)\/(x= .returned (.bool false)/\Stop c))
def zb0 (W:aiM) (Stop:List aiX->Prop) (r:aiQ) (d:aiM):Prop:=∃v,r= .returned v/\∃c,Mem W d c/\Stop c
theorem qpo {W:aiM} {fr:List aiX} {er:Nat} {I S:List aiX->Prop}:∀(e:aiQ) (d:aiM),(∃c,Mem W d (c++fr)/\((er=0/\e= .returned (.bool true)/\I c)\/(e= .returned (.bool false)/\S c)))->∃v,e= .returned v:=by intros;grind
section
variable {b bk:Bs} {cpu m a mm er:Nat} {l rest:List Nat} {es:List Ev} {e:Ev}
theorem Yn (c:abo es≠0) {q:Ev} (d:es.getD (abo es-1) Ev.zero=q):es.getLast?=some q:=by grind
def zm1 (h:q5 cpu m b none l=iX es a (q5 cpu (m-abo es) bk es.getLast? rest)) (hm:abo es<m) (c:bD bk cpu rest=(e,mm,er)) (d:er≠0):q5 cpu m b none l=([],0,er):=by
 rw [h,show m-abo es=m-abo es-1+1 by omega]
 exact q32 c d es a
def ziw (h:q5 cpu m b none l=iX es a (q5 cpu (m-abo es) bk es.getLast? rest)) (hm:abo es<m) (c:bD bk cpu rest=(e,mm,0)) {q:Ev} (d:abo es≠0) (f:es.getD (abo es-1) Ev.zero=q) (hs:e.seq=q.seq):q5 cpu m b none l=([],0,71):=by
 rw [h,show m-abo es=m-abo es-1+1 by omega,Yn d f]
 exact q0g c (p:=some q) (decide_eq_true hs) es a
def Yo (h:q5 cpu m b none l=iX es a (q5 cpu (m-abo es) bk es.getLast? rest)) (hm:abo es<m) (d:bD bk cpu rest=(e,mm,0)) {q:Ev} (f:es.getD (abo es-1) Ev.zero=q) (hs:abo es=0\/e.seq≠q.seq):
  q5 cpu m b none l=iX (es++[e]) (a+mm) (q5 cpu (m- abo (es++[e])) e.at (es++[e]).getLast? (rest.drop mm)):=by
 rw [h,show m-abo es=m- abo (es++[e])+1 by rw [abq];simp only [ae6];omega,List.getLast?_append]
 refine q0h d ?_ es a
 rcases hs with c|c
 ·rw [acu c];rfl
 ·by_cases hz:abo es=0
  ·rw [acu hz];rfl
  ·rw [Yn hz f];exact (decide_eq_false c:)
def zm2 (h:q5 cpu m b none l=iX es a (q5 cpu (m-abo es) bk es.getLast? rest)) (hm:abo es=m):q5 cpu m b none l=(es,a,0):=by
 rw [h,show m-abo es=0 by omega]
 show (es++[],a+0,0)=_
 rw [abM]
 rfl
end
def Qu (w:aiM) (q:List Ev×Nat×Nat) (r:aiQ) (d:aiM):Prop:=(∃A c,r= .returned (.tuple #[.slice A (abo q.1) c,.int .i64 (q.2.1:Int),.int .i64 (q.2.2:Int)])/\d.ownsRow w.heap.size 73 11 (.slice A (abo q.1) c) (abo q.1) (q.1.flatMap fC)/\abo q.1<=c)/\Below w.heap.size w d
def MC {q:List Ev×Nat×Nat} (h:q=([],0,er)) (hb:Below w.heap.size w W):Qu w q (.returned (.tuple #[.slice none 0 0,.int .i64 0,.int .i64 (er:Int)])) W:=by
 subst h
 exact ⟨⟨none,0,rfl,acH _ _ _ _,abu _⟩,hb⟩
def zb1 {q:List Ev×Nat×Nat} {es:List Ev} {a:Nat} (h:q=(es,a,0)) (d:W.ownsRow w.heap.size 73 11 (.slice A (abo es) c) (abo es) (es.flatMap fC)) (hc:abo es<=c) (hb:Below w.heap.size w W):Qu w q (.returned (.tuple #[.slice A (abo es) c,.int .i64 (a:Int),.int .i64 0])) W:=by
 subst h
 exact ⟨⟨A,c,rfl,d,hc⟩,hb⟩
section
variable {b:Bs} {cpu:Nat} {n:Int} {l:List Nat}
def q0r (h:n<0):gW b cpu n l=([],0,2):=if_pos h
def qu6 (h:¬n<0) (h1:b.right=false):gW b cpu n l=([],0,70):=by unfold gW;rw [if_neg h,if_pos h1]
theorem Qv {m:Nat} (h1:b.right=true):gW b cpu (m:Int) l=q5 cpu m b none l:=by grind [gW]
def qu7 (h:m=0) (h1:b.right=true):gW b cpu (m:Int) l=([],0,0):=by subst h;exact (Qv h1).trans rfl
end
def q43 (W w:aiM) (p gc q x B cpu:Nat) (y:cpu<256) (b:Bs) (A:aiW) (c:Nat) (l:List Nat) (Inv:Bs->List Nat->List aiX->Prop) (Stop:List aiX->Prop) (I:List aiX) (Y:Laid B W) (O:B<=W.heap.size) (hr:Rd W W.heap.size 1 A (abo l) (l.map B8)) (hc:abo l<=c) (hl:∀z∈l,z<256) (hn:abo l<=100000000000)
    (hy:Ym W x cpu Inv Stop) (J:Inv b l I) (g:Mem W w (.blk p b.cells 110:: .blk gc #[.int .u8 (cpu:Int)] 5:: .blk q #[.slice A (abo l) c] 30::I)):
    Calls abp 310 (.func (.yield x) #[] #[]:: [.pointer (some ⟨p,0,none⟩),.pointer (some ⟨gc,0,none⟩),.pointer (some ⟨q,0,none⟩)]).toArray w (zb0 W Stop):=by
 refine nP Tryz.func310 [.func (.yield x) #[] #[],vP p 0,vP gc 0,vP q 0] [ahZ x,(1,vP p 0),(2,vP gc 0),(3,vP q 0)] λa Z=>?_
 refine Jb Z g ((JB) λa Z g=>?_)
 refine qg (λP aS wS=>∃(o:Bs) (d:List Nat) (X:aiW) (k:Nat) (F:List aiX),(Inv o d F)/\(Rd W W.heap.size 1 X (abo d) (d.map B8))/\(abo d<=k)/\(∀z∈d,z<256)/\(abo d<=abo l)/\P=abo d/\Fr aS 32 [] [ahZ x,(1,vP p 0),(2,vP gc 0),(3,vP q 0)]/\Mem W wS (.blk p o.cells 110::.blk gc #[vB cpu] 5::ahS q X (abo d) k::F)) (m:=abo l) ⟨b,l,A,c,I,J,hr,hc,hl,abu _,rfl,Z.sub kr,g.pt 3 [0,1,2]⟩ ?_
 clear Z g;rintro P a w_ ⟨o,d,X,k,F,hI,Q,C,D,hrn,rfl,Z,g⟩
 obtain ⟨⟨e,m,R⟩,K⟩:∃r,bD o cpu d=r:=⟨_,rfl⟩
 refine Jb Z g ((JB∘JP∘eH iN O0∘Jc O1∘Jc O2∘JI (h:=by exact λg=>ziv o cpu y X (abo d) k d B _ (Y.mem g O) (g.le O) (g.old Q) C D om K)) λxZ L=>(Jp 1∘Jx∘Jx∘Jx∘JA aiD) λw5 u=>(JV q8 aO (h1:=by exact rM e)) λS=>(bM 2∘JQ) λa Z g=>?_)
 refine wp_seq ?_
 refine F7 (i:=5) ?_
 refine Jb Z g ((Jp 1∘eH q8 O0∘Jp 1∘fD #[vI e.seq,vI e.time,vB e.cpu,vB e.kind,vI e.task,vI e.group,vI e.to,vI e.weight,vI e.ticks,vQ e.mask,vI e.got,vI m]∘Jp 1∘Jq) λa Z g=>?_)
 refine uJ Z (i:=5) (vs:=[.agg #[vI e.seq,vI e.time,vB e.cpu,vB e.kind,vI e.task,vI e.group,vI e.to,vI e.weight,vI e.ticks,vQ e.mask,vI e.got,vI m],vI R]) rfl rfl rfl rfl rfl rfl de (hy o d F _ _ e m R hI K (aag (F:=[.blk u e.cells 73,.blk p o.cells 110,.blk gc #[vB cpu] 5,ahS q X (abo d) k]) g)) qpo ?_
 clear Z g;rintro v E a ⟨G,g,(⟨T,H,M⟩|⟨H,N⟩)⟩ Z<;>injection H with H<;>subst H
 ·
  replace g:Mem W E (.blk u e.cells 73::.blk p o.cells 110::.blk gc #[vB cpu] 5::ahS q X (abo d) k::G):=aag (es:=[.blk u e.cells 73,.blk p o.cells 110,.blk gc #[vB cpu] 5,ahS q X (abo d) k]) g
  have s:=WZ o cpu d;rw [K] at s;replace s:m<=abo d/\0<m:=⟨s.1,s.2 T⟩
  refine Jb Z g ((Jp 4∘Jo (.bool false) (by rw [T];try rfl)∘Jp 1∘aJ∘Jq∘aQ∘Vs (.t (.f .n)) [6]) λwd2=>(Vp [3]∘mK 0 q8 O0∘Vc 2 O2∘Vy 4 (v:= .slice (if k=m then X else X.map (·.add (m*1))) (abo d-m) (k-m)) (h:=by exact aaf bA (j:=m) rfl rfl rfl om)∘Vo (.slice (if k=m then X else X.map (·.add (m*1))) (abo (d.drop m)) (k-m)) (by rw [abE])∘VI 1 (.t (.f .n)) (h:=by exact λg=>X6 e _)) λEC L=>λa Z g HS=>?_)
  refine s_on Z 5 rfl (bS Z g 1 rfl rfl rfl rfl rfl iN rfl rfl (LX e.at) λU g=>?_)
  refine av (g.pt 4 [0,2,3]) (λHS=>?_)
  refine s_on Z 6 rfl (eO Z g 3 λV g=>?_)
  refine dU kr ?_
  refine qe kr ?_
  exact ⟨_,(by rw [abE];omega),e.at,(d.drop m),if k=m then X else X.map (·.add (m*1)),k-m,G,M,by rw [abE];exact Q.F4 s.1 C,by rw [abE];omega,λz hz=>D z (abU hz),by rw [abE];omega,rfl,Z.sub kr,g.pt 4 [1,2,3]⟩
 ·
  replace g:Mem W E (.blk u e.cells 73::.blk p o.cells 110::.blk gc #[vB cpu] 5::ahS q X (abo d) k::G):=aag (es:=[.blk u e.cells 73,.blk p o.cells 110,.blk gc #[vB cpu] 5,ahS q X (abo d) k]) g
  refine Jb Z g ((Jp 5∘aJ∘Jq∘JT∘JZ) λa Z g=>?_)
  exact yK rfl Z (⟨_,rfl,G,aan [.blk u e.cells 73,.blk p o.cells 110,.blk gc #[vB cpu] 5,ahS q X (abo d) k] g,N⟩)
def zb2 (b:Bs) (cpu:Nat) (A:aiW) (n c:Nat) (w:aiM):
    Calls abp 292 #[.agg b.cells,.int .u8 (cpu:Int),.slice A n c] w λr e=>∃a gc d,r= .returned (.func (.func 310) #[] #[.pointer (some ⟨a,0,none⟩),.pointer (some ⟨gc,0,none⟩),.pointer (some ⟨d,0,none⟩)])/\Mem w e [ahS d A n c,.blk gc #[.int .u8 (cpu:Int)] 5,.blk a b.cells 110]:=by
 refine (uL Tryz.func292 8) ?_
 exact (JP∘JE) λk f=>(tV) λl g=>(tV) λm i=>(Jp 1∘Jr∘Jy (h:=by exact Yl.makeFunc (fst:=[]) (caps:=[vP f 0,vP g 0,vP i 0]) rfl rfl rfl)∘Jp 1∘aL∘aP∘aW) λj=>by exact ⟨_,_,_,rfl,j⟩
abbrev ahM:=λa b c d e f g h i j k l m=>(.row (.slice a b c) b d 73 11::.blk e #[.slice a b c] 83::.blk f #[vI 0] 27::.blk g #[vI 0] 3::.blk h #[.slice none 0 0] 83::.blk i #[vI j] 3::.blk k l 110::m:List aiX)
abbrev ah5:=λa b c d e f g h i j k l m=>(.blk a #[.int .i64 b,.int .i64 c,.int .u8 (d:Int),.int .u8 (e:Int),.int .i64 f,.int .i64 g,.int .i64 h,.int .i64 i,.int .i64 j,.int .u64 (k:Int),.int .i64 l,.int .i64 (m:Int)] 424:aiX)
abbrev aio:=λa b c=>(.blk a #[vI 0] 3::.blk b #[.slice none 0 0] 83::c:List aiX)
def q0s (b:Bs) (cpu:Nat) (Co:cpu<256) (A:aiW) (c:Nat) (n:Int) (hni:aX n) (l:List Nat) (B0:Nat) (w:aiM) (hL:Laid B0 w) (hB:B0<=w.heap.size) (hr:Rd w w.heap.size 1 A (abo l) (l.map B8)) (hc:abo l<=c) (hl:∀z∈l,z<256) (hn:abo l<=100000000000) (hlim:Pz n l):
    Calls abp 250 #[.agg b.cells,.int .u8 (cpu:Int),.int .i64 n,.slice A (abo l) c] w (Qu w (gW b cpu n l)):=by
 refine Cc (vs:=[.agg b.cells,vB cpu,vI n,.slice A (abo l) c]) Tryz.func250 rfl rfl kr (σ0:=[(0,.agg b.cells),(1,vB cpu),(2,vI n),(3,.slice A (abo l) c)]) rfl ?_
 intro a Z
 have g:=Mem.start w
 refine Jb Z g ((JP∘JE) λw4 D=>(tV) λw6 E=>(JA #[.slice none 0 0]) λw8 G=>(JA #[vI 0]) λw9 H=>(JA #[vI 0]) λsG o=>(Jj∘JQ∘JP∘Jc O3∘Jp 1∘aL∘Jj) (Ji (λQw=>?_) λQw=>?_))
 ·
  refine (JT∘JP∘JW iG aO) λQx=>(JW gu aO) λCm=>(JW aO aO) λahG=>(aP) λa Z g=>?_
  refine Ce ?_
  exact iq rfl Z (.cell1 (i:=2) Z g rfl rfl kr rfl) (.cell1 (i:=1) Z g rfl rfl kr rfl) (.cell1 (i:=0) Z g rfl rfl kr rfl) (MC (q0r om) g.below)
 obtain ⟨m,rfl⟩:∃k:Nat,n=(k:Int):=⟨n.toNat,by omega⟩
 refine (aQ∘JQ∘JP∘eH iN O4∘JI (h:=by exact λg=>Mx b _)) λxW hbw=>(Jp 1∘bU∘Jj) (Ju (λT=>?_) λT=>?_)
 ·
  refine (JT∘JP∘JW iG aO) λahH=>(JW gu aO) λGj=>(JW aO aO) λahI=>(aP) λa Z g=>?_
  refine Ce ?_
  exact iq rfl Z (.cell1 (i:=2) Z g rfl rfl kr rfl) (.cell1 (i:=1) Z g rfl rfl kr rfl) (.cell1 (i:=0) Z g rfl rfl kr rfl) (MC (qu6 om (by simpa using T)) g.below)
 have U:b.right=true:=by simpa using T
 refine (aQ∘JQ∘JP∘Jc O3∘Jp 1∘aL∘Jj) (Je (λCt=>?_) λCt=>?_)
 ·
  refine (JT∘JP∘JW iG aO) λahJ=>(JW gu aO) λGu=>(JW aO aO) λahK=>(aP) λa Z g=>?_
  refine Ce ?_
  exact iq rfl Z (.cell1 (i:=2) Z g rfl rfl kr rfl) (.cell1 (i:=1) Z g rfl rfl kr rfl) (.cell1 (i:=0) Z g rfl rfl kr rfl) (MC (qu7 om U) g.below)
 refine (aQ∘JP∘JA #[.slice none 0 0]) λuM p=>(Jq∘JC (h:=by exact λg=>g.nil 73 11)∘JG∘JP∘JA #[vI 0]) λxZ s=>(JW aO aO) λCq=>(Jj∘JQ∘JP∘eH iN O7∘Jp 2∘JL (h:=by exact λg=>zb2 b cpu A (abo l) c _)) ?_
 rintro g _ Qy ⟨gb,gc,gy,rfl,hm⟩
 refine ⟨_,rfl,_,g.join hm,?_⟩
 refine (eP∘Jj∘JB) λa Z g=>?_
 refine Cb Z g (λ_=>False) (λc F=>(c= .ret/\∃(K:Nat),(q5 cpu m b none l=([],0,K))/\F=(.blk o #[vI K] 27::aio H G [ahU E m,.blk D b.cells 110]))\/(c=(.exit 0)/\∃(es:List Ev) (j:Nat) (I:aiW) (co:Nat),(q5 cpu m b none l=(es,j,0))/\(abo es<=co)/\F=(ahU s j::ahM I (abo es) co (es.flatMap fC) p o H G E m D b.cells []))) rfl kr ?_ ?_ ?_
 ·
  clear Z g;intro L J u w1 hrec g
  have hy:Ym w L cpu (λbk M F=>∃(es:List Ev) (j:Nat) (I:aiW) (co:Nat),(q5 cpu m b none l=iX es j (q5 cpu (m-abo es) bk es.getLast? M))/\(abo es<m)/\(j+abo M<=abo l)/\(abo es+abo M<=abo l)/\(abo es<=co)/\F=(.obj L (.loop (u .ready none)):: .obj J (.deferred (some [])):: (ahU s j::ahM I (abo es) co (es.flatMap fC) p o H G E m D b.cells []))) (λF=>(∃(K:Nat),(q5 cpu m b none l=([],0,K))/\F=(.obj L (.loop (u .done (some .ret))):: .obj J (.deferred (some [])):: (.blk o #[vI K] 27::aio H G [ahU E m,.blk D b.cells 110])))\/(∃(es:List Ev) (j:Nat) (I:aiW) (co:Nat),(q5 cpu m b none l=(es,j,0))/\(abo es<=co)/\F=(.obj L (.loop (u .done (some (.exit 0)))):: .obj J (.deferred (some [])):: (ahU s j::ahM I (abo es) co (es.flatMap fC) p o H G E m D b.cells [])))):=by
   rintro bk M F fr w3 e R K ⟨es,j,I,co,N,hem,hal,hel,hco,rfl⟩ hq g
   have ahL:abo es<=1000000000000:=by unfold Pz at hlim;omega
   have htl:=WZ bk cpu M
   rw [hq] at htl
   dsimp only at htl
   obtain ⟨q,Gv⟩:∃q,es.getD (abo es-1) Ev.zero=q:=⟨_,rfl⟩
   replace g:Mem w w3 (ahT L (u .ready none)::ahN J::ahU s j::ahM I (abo es) co (es.flatMap fC) p o H G E m D b.cells fr):=g
   refine Ep (v1:= .agg #[.int .i64 e.seq,.int .i64 e.time,.int .u8 (e.cpu:Int),.int .u8 (e.kind:Int),.int .i64 e.task,.int .i64 e.group,.int .i64 e.to,.int .i64 e.weight,.int .i64 e.ticks,.int .u64 (e.mask:Int),.int .i64 e.got,.int .i64 (R:Int)]) (v2:=vI K) hrec g de de λa Z=>?_
   refine wpIn_seq ?_
   refine qk ?_
   refine Jb Z g ((JA #[vI 0,vI 0,vB 0,vB 0,vI 0,vI 0,vI 0,vI 0,vI 0,vQ 0,vI 0,vI 0]) λvH S=>(JV zmx aO) λAq=>(Jq) λa Z g=>?_)
   refine qk ?_
   refine Jb Z g ((Jp 1∘Jq) λa Z g=>?_)
   refine ⟨(ah5 S e.seq e.time e.cpu e.kind e.task e.group e.to e.weight e.ticks e.mask e.got R::ahN J::ahU s j::ahM I (abo es) co (es.flatMap fC) p o H G E m D b.cells fr),g.pt (fs':=(ahT L (u .ready none)::ah5 S e.seq e.time e.cpu e.kind e.task e.group e.to e.weight e.ticks e.mask e.got R::ahN J::ahU s j::ahM I (abo es) co (es.flatMap fC) p o H G E m D b.cells fr)) 11 [1,0,2,3,4,5,6,7,8,9,10],λw4 g=>?_⟩
   refine wpIn_block ?_
   refine wpIn_seq ?_
   refine wpIn_seq ?_
   refine qk ?_
   refine Jb Z g ((Jp 2∘aL∘Jq) (Jh (λhd29=>?_) λhd29=>?_))
   ·
    intro a Z g
    refine BZ Z rfl ?_
    refine wpIn_seq ?_
    refine qk ?_
    refine Jb Z g ((Jp 1∘JW Gb aO) λGw=>(JW vE aO) λGx=>(JW uK aO) λGy=>(mJ∘Jq) λa Z g=>?_)
    refine wpIn_ret ?_
    refine ⟨(ahN J::.blk o #[vI K] 27::aio H G (ahU E m::.blk D b.cells 110::fr)),g.pt (fs':=(ahT L (u .busy none)::ahN J::.blk o #[vI K] 27::aio H G (ahU E m::.blk D b.cells 110::fr))) 11 [0,2,6,7,8,9,10],λw5 g=>?_⟩
    exact ⟨(ahT L (u .done (some .ret))::ahN J::.blk o #[vI K] 27::aio H G (ahU E m::.blk D b.cells 110::[])),g,.inr ⟨rfl,.inl ⟨K,zm1 N hem hq om,rfl⟩⟩⟩
   intro a Z g
   have he0:K=0:=by omega
   have hq0:=hq
   rw [he0] at hq0
   have hmm:=htl.2 he0
   refine Ca Z rfl ?_
   refine wpIn_skip ?_
   refine wpIn_seq ?_
   refine q4f (λaS wS=>Fr aS 62 [] [(46,.bool (decide (abo es≠0/\e.seq=q.seq))),(29,.bool false),(14,vI K),(13,vP S 0),(27,vI K),(26,.agg #[.int .i64 e.seq,.int .i64 e.time,.int .u8 (e.cpu:Int),.int .u8 (e.kind:Int),.int .i64 e.task,.int .i64 e.group,.int .i64 e.to,.int .i64 e.weight,.int .i64 e.ticks,.int .u64 (e.mask:Int),.int .i64 e.got,.int .i64 (R:Int)]),(25,.func (.func 310) #[] #[vP gb 0,vP gc 0,vP gy 0]),(12,vP s 0),(11,vP p 0),(21,.bool false),(19,.bool false),(16,.bool false),(10,vP o 0),(9,vP H 0),(8,vP G 0),(6,vP E 0),(4,vP D 0)]/\Mem w wS (ahT L (u .busy none)::ah5 S e.seq e.time e.cpu e.kind e.task e.group e.to e.weight e.ticks e.mask e.got R::ahN J::ahU s j::ahM I (abo es) co (es.flatMap fC) p o H G E m D b.cells fr)) ?_ ?_
   ·
    refine XC g (ahT L (u .busy none)::ah5 S e.seq e.time e.cpu e.kind e.task e.group e.to e.weight e.ticks e.mask e.got R::ahN J::ahU s j::ahM I (abo es) co (es.flatMap fC) p o H G E m D b.cells fr) 11 [0,1,2,3,4,5,6,7,8,9,10] [] λg P=>?_
    refine dH Z P 0 5 λa Z=>?_
    refine p9 Z P 1 λa Z=>?_
    refine ap Z (λ_=>P) [2,3] (bf 16 [0,1,2,3]) [(34,.bool (decide ((abo es:Int)>(0:Int))))] λa Z=>?_
    rcases Z.tf 34 rfl with ⟨V,Z⟩|⟨V,Z⟩
    ·
     have hd34:=of_decide_eq_true V
     refine ap Z (λ_=>P) [4,5] (bf 16 [0,1,2,3,4,5]) [(36,vP S 0)] λa Z=>?_
     refine dH Z P 6 1 (v:=vI e.seq) λa Z=>?_
     refine dH Z P 7 5 λa Z=>?_
     refine dH Z P 8 5 λa Z=>?_
     refine p9 Z P 9 λa Z=>?_
     refine pK Z (λ_=>P) (i:=10) rfl rfl (d:=41) rfl de kr (λ_ _ _ h=>h) (v:=vI (IntKind.i64.wrap ((abo es:Int)-1))) (λ_=>Yl.pure kr) λa Z=>?_
     replace Z:=Z.sp 41 (vI (abo es-1:Nat)) rfl (Mw om om)
     revert g;revert a;repeat (first|clear Z|clear g)
     intro a Z g
     obtain ⟨Qz,rfl⟩:=g.rat 4 (abo es-1)
     refine iw Z P 11 rfl (v:=vP Qz ((abo es-1)*11)) (Yl.iO Qz (abo es-1) 11 rfl rfl rfl) λa Z=>?_
     refine ap Z (λ_=>P) [12] (bt 16 [13,14,15]) [(43,vP Qz ((abo es-1)*11))] λa Z=>?_
     refine iw Z P 13 rfl (v:=vI ((es.getD (abo es-1) Ev.zero).seq)) (Pd rfl rfl kr (λ_ h=>(by have:=h.qw qbv (i:=4) rfl (k:=(abo es-1)) (off:=0) (x:=(es.getD (abo es-1) Ev.zero)) ((getD_at Ev.zero (k:=abo es-1) om)) rfl;simpa using this))) λa Z=>?_
     replace Z:=Z.sp 44 (vI q.seq) rfl (by rw [Gv])
     refine ap Z (λ_=>P) [14,15] (bt 16 []) [(46,.bool ((e.seq:Int)==(q.seq:Int)))] λa Z=>?_
     refine qe kr ?_
     have Z:=Z.sp 46 (.bool (decide (abo es≠0/\e.seq=q.seq))) rfl (ou (by simp only [decide_eq_true_eq,beq_iff_eq];first|omega|exact iff_of_true trivial om|exact iff_of_false id om|exact iff_of_false de om))
     exact ⟨Z.sub kr,g.pt 11 [0,1,2,3,4,5,6,7,8,9,10]⟩
    have hd34:=of_decide_eq_false V
    refine ap Z (λ_=>P) [4,5,6,7,8,9,10,11,12,13,14,15] (bt 16 []) [(46,.bool false)] λa Z=>?_
    refine qe kr ?_
    have Z:=Z.sp 46 (.bool (decide (abo es≠0/\e.seq=q.seq))) rfl (ou (by simp only [decide_eq_true_eq,beq_iff_eq];first|omega|exact iff_of_true trivial om|exact iff_of_false id om|exact iff_of_false de om))
    exact ⟨Z.sub kr,g.pt 11 [0,1,2,3,4,5,6,7,8,9,10]⟩
   clear Z g;rintro a ME ⟨Z,g⟩
   refine Jb Z g (Ju (λO=>?_) λO=>?_)
   ·
    intro a Z g
    have Cu:=of_decide_eq_true O
    have W:=of_decide_eq_true O
    refine BZ Z rfl ?_
    refine wpIn_seq ?_
    refine qk ?_
    refine Jb Z g ((JW Gb aO) λYp=>(JW vE aO) λYq=>(JW uK aO) λGm=>(Jq) λa Z g=>?_)
    refine wpIn_ret ?_
    refine ⟨(ahN J::.blk o #[vI 71] 27::aio H G (ahU E m::.blk D b.cells 110::fr)),g.pt (fs':=(ahT L (u .busy none)::ahN J::.blk o #[vI 71] 27::aio H G (ahU E m::.blk D b.cells 110::fr))) 11 [0,2,6,7,8,9,10],λw5 g=>?_⟩
    exact ⟨(ahT L (u .done (some .ret))::ahN J::.blk o #[vI 71] 27::aio H G (ahU E m::.blk D b.cells 110::[])),g,.inr ⟨rfl,.inl ⟨71,ziw N hem hq0 W.1 Gv W.2,rfl⟩⟩⟩
   intro a Z g
   have Cu:=of_decide_eq_false O
   have W:abo es=0\/e.seq≠q.seq:=by have h:=of_decide_eq_false O;by_cases h0:abo es=0;exact .inl h0;exact .inr λh1=>h ⟨h0,h1⟩
   refine Ca Z rfl ?_
   refine wpIn_skip ?_
   refine wpIn_seq ?_
   refine qk ?_
   refine Jb Z g ((Jc O5∘Jf 0∘Jy (v:= .agg #[vI e.seq,vI e.time,vB e.cpu,vB e.kind,vI e.task,vI e.group,vI e.to,vI e.weight,vI e.ticks,vQ e.mask,vI e.got]) (h:=by exact Pe rfl rfl q8 rfl (λ_ h=>h.sub (i:=1) rfl 0 rfl))∘JU su #[vI e.seq,vI e.time,vB e.cpu,vB e.kind,vI e.task,vI e.group,vI e.to,vI e.weight,vI e.ticks,vQ e.mask,vI e.got]) λGn g50=>(JD (fC e) 5 (λ_ _=>rC) su (hr:=by exact λg=>g.bB (i:=0) (n:=1) (size:=11) rfl rfl) (h1:=by exact rM e)) λQn y C X=>(JW uK aO) λYr=>(qC∘Jq) λa Z g=>?_)
   have Q:(abo es+1)=abo (es++[e]):=by rw [abq];rfl
   rw [Q] at X
   replace g:=g.bC (i:=5) (ys:=(es++[e]).flatMap fC) rfl Q (by rw [ab1,af6])
   replace g:=g.dX (i:=6) (ds:= #[.slice y (abo (es++[e])) C]) rfl (by rw [Q];try rfl)
   refine wpIn_seq ?_
   refine qk ?_
   refine Jb Z g ((Jc O4∘Jg 11 O2∘Ja∘JW qB aO) λYt=>(oo∘Jq) λa Z g=>?_)
   refine wpIn_seq ?_
   refine qk ?_
   refine Jb Z g ((Jc O6∘Jl∘Jc O10∘Jp 1∘eP∘Jq) (Je (λQA=>?_) λQA=>?_))
   ·
    intro a Z g
    refine BZ Z rfl ?_
    refine wpIn_exit ?_
    refine ⟨(ahN J::ahU s (j+R:Nat)::ahM y (abo (es++[e])) C ((es++[e]).flatMap fC) p o H G E m D b.cells fr),g.pt (fs':=(ahT L (u .busy none)::ahN J::ahU s (j+R:Nat)::ahM y (abo (es++[e])) C ((es++[e]).flatMap fC) p o H G E m D b.cells fr)) 12 [1,3,4,5,6,7,8,9,10,11],λw5 g=>?_⟩
    exact ⟨(ahT L (u .done (some (.exit 0)))::ahN J::ahU s (j+R:Nat)::ahM y (abo (es++[e])) C ((es++[e]).flatMap fC) p o H G E m D b.cells []),g,.inr ⟨rfl,.inr ⟨(es++[e]),(j+R),y,C,zm2 (Yo N hem hq0 Gv W) om,X,rfl⟩⟩⟩
   intro a Z g
   refine Ca Z rfl ?_
   refine wpIn_skip ?_
   refine ⟨(ahN J::ahU s (j+R:Nat)::ahM y (abo (es++[e])) C ((es++[e]).flatMap fC) p o H G E m D b.cells fr),g.pt (fs':=(ahT L (u .busy none)::ahN J::ahU s (j+R:Nat)::ahM y (abo (es++[e])) C ((es++[e]).flatMap fC) p o H G E m D b.cells fr)) 12 [1,3,4,5,6,7,8,9,10,11],λw5 g=>?_⟩
   exact ⟨(ahT L (u .ready none)::ahN J::ahU s (j+R:Nat)::ahM y (abo (es++[e])) C ((es++[e]).flatMap fC) p o H G E m D b.cells []),g,.inl ⟨by omega,rfl,⟨(es++[e]),(j+R),y,C,Yo N hem hq0 Gv W,by omega,by rw [abE];omega,by rw [abq,abE];simp only [ae6];omega,X,rfl⟩⟩⟩
  refine (q43 w w1 gb gc gy L B0 cpu Co b A c l _ _ _ hL hB hr hc hl hn hy ⟨[],0,none,0,(q33 cpu m b none l).symm,by show 0<m;omega,by omega,by show 0+_<=_;omega,abu _,rfl⟩ (g.pk [4,3,2,0,1,5,6,7,8,9,10,11,12])).mono ?_
  rintro r w2 ⟨v,rfl,F2,tY,(⟨K,Y,rfl⟩|⟨es,j,I,co,N,hco,rfl⟩)⟩
  ·exact ⟨v,rfl,.inr ⟨.ret,_,.inl ⟨rfl,K,Y,rfl⟩,tY⟩⟩
  ·exact ⟨v,rfl,.inr ⟨(.exit 0),_,.inr ⟨rfl,es,j,I,co,N,hco,rfl⟩,tY⟩⟩
 ·intro _ _ _ _ h;exact h.elim
 ·
  clear Z g;rintro _ B a w6 _ (⟨rfl,K,Y,rfl⟩|⟨rfl,es,j,I,co,N,hco,rfl⟩) Z g
  ·
   refine wp_ret ?_
   refine xS Z g (i:=0) rfl λa w7 Z g=>?_
   exact iq rfl Z (.cell1 (i:=3) Z g rfl rfl kr rfl) (.cell1 (i:=2) Z g rfl rfl kr rfl) (.cell1 (i:=1) Z g rfl rfl kr rfl) (MC ((Qv U).trans Y) g.below)
  ·
   refine wp_exit (wp_seq ?_)
   refine Jb Z g ((Vs (.t (.t (.t (.t (.t (.t (.f .n))))))) [3,4]) λQB=>(Vc 0 O3∘Vc 1 O1) λa Z g P=>?_)
   refine s_on Z 2 rfl (eO Z g 6 λYu g=>?_)
   refine av (g.pk [0,1,2,3,4,5,7,8]) (λP=>?_)
   refine s_on Z 3 rfl (eO Z g 5 λYv g=>?_)
   refine dU kr ?_
   refine s_on Z 4 rfl (eO Z g 4 λYw g=>?_)
   refine dU kr ?_
   refine qe kr ?_
   refine Jb Z g ((JZ) λa Z g=>?_)
   refine xS Z g (i:=0) rfl λa w7 Z g=>?_
   exact iq rfl Z (.cell1 (i:=6) Z g rfl rfl kr rfl) (.cell1 (i:=5) Z g rfl rfl kr rfl) (.cell1 (i:=4) Z g rfl rfl kr rfl) (zb1 ((Qv U).trans N) (g.own (i:=2) rfl) hco g.below)
def zix (b:Bs) (cpu:Nat) (a:cpu<256) (A:aiW) (n c:Nat) (m:Int) (hm:aX m) (l:List Nat) (B:Nat) (w:aiM) (f:Laid B w) (g:B<=w.heap.size) (hr:Rd w w.heap.size 1 A n (l.map B8)) (hc:n<=c) (i:∀b∈l,b<256) (j:n<=100000000000) (d:Pz m l) {es:List Ev} {L er:Nat} (h:gW b cpu m l=(es,L,er)):
  Calls abp 250 #[.agg b.cells,.int .u8 (cpu:Int),.int .i64 m,.slice A n c] w λr e=>(∃A c,r= .returned (.tuple #[.slice A (abo es) c,.int .i64 (L:Int),.int .i64 (er:Int)])/\e.ownsRow w.heap.size 73 11 (.slice A (abo es) c) (abo es) (es.flatMap fC)/\abo es<=c)/\Below w.heap.size w e:=by
 obtain rfl:abo l=n:=by simpa using hr.len
 have k:=q0s b cpu a A c m hm l B w f g hr hc i j d
 rwa [h] at k
structure Bk where
 kind:Nat
 cpu:Nat
 lost:Int
 next:Int
 evs:List Ev
structure Bk.Ok (b:Bk):Prop where
 kind:b.kind<256
 cpu:b.cpu<256
 lost:aX b.lost
 next:aX b.next
 evs:∀e∈b.evs,e.Ok
def Bk.zero:Bk:=⟨0,0,0,0,[]⟩
def Bk.ED (b:Bk):Bool:=match b.evs with
 |[]=>decide (0<b.lost)
 |e::_=>decide (e.cpu=b.cpu)
def Bk.pQ (b:Bk):Bool:=decide ((jg b.evs).2=0/\b.cpu<64/\0<=b.lost/\b.lost<=281474976710656/\b.next=0/\b.ED=true)
def Bk.uN (b:Bk):Bool:=decide (1<=b.next/\b.next<=281474976710657/\b.cpu=0/\b.lost=0/\abo b.evs=0)
def Bk.fits (b:Bk):Bool:=if b.kind=1 then b.pQ else if b.kind=2 then b.uN else false
def Bk.base (b:Bk):Bs:=(b.evs.headD Ev.zero).at
def Bk.body (b:Bk):List Nat:=
 if b.kind=2 then ak b.next.toNat
 else ak b.cpu++ak b.lost.toNat++ak (abo b.evs)++(if abo b.evs=0 then [] else ak b.base.seq.toNat++ak b.base.time.toNat++recs b.base b.evs)
def Bk.raw (b:Bk):List Nat:=rA (12+abo b.body)++[113,116,1,b.kind]++b.body
def Bk.err (b:Bk):Nat:=if b.fits=false then 107 else if 4096<12+abo b.body then 3 else 0
def Bk.out (b:Bk):List Nat:=if b.err=0 then aY b.raw else []
def bq (l:List Nat):Nat×Nat:=if abo l<4 then (0,100) else if jZ l<13\/4096<jZ l then (0,101) else if abo l<jZ l then (0,100) else (jZ l,0)
def bn (most:Nat) (l:List Nat):Bool:=decide ((aD l).2.2=0/\(aD l).1<=most)
def qd (l:List Nat):List Nat:=l.drop (aD l).2.1
def aA (most:Nat) (l:List Nat):Nat:=if most<(aD l).1 then most else (aD l).1
def tZ (l:List Nat):Option Bk:=
 if bn 281474976710657 l=true/\abo (qd l)=0/\Bk.fits ⟨2,0,0,aA 281474976710657 l,[]⟩=true then some ⟨2,0,0,aA 281474976710657 l,[]⟩ else none
def uf (cpu lost:Nat) (l:List Nat) (q:List Ev×Nat×Nat):Option Bk:=
 if q.2.2=0/\(q.1.headD Ev.zero).seq=aA 281474976710656 l/\(q.1.headD Ev.zero).time=aA 281474976710656 (qd l)/\bn 281474976710656 l=true/\bn 281474976710656 (qd l)=true/\abo ((qd (qd l)).drop q.2.1)=0/\Bk.fits ⟨1,cpu,lost,0,q.1⟩=true then some ⟨1,cpu,lost,0,q.1⟩ else none
def uO (l:List Nat):Bool:=bn 63 l&&bn 281474976710656 (qd l)&&bn 4096 (qd (qd l))
def ze (l:List Nat):Option Bk:=
 if uO l=true/\0<aA 4096 (qd (qd l)) then
  uf (aA 63 l) (aA 281474976710656 (qd l)) (qd (qd (qd l)))
   (gW ⟨aA 281474976710656 (qd (qd (qd l))),aA 281474976710656 (qd (qd (qd (qd l))))⟩ (aA 63 l) (aA 4096 (qd (qd l))) (qd (qd (qd (qd (qd l))))))
 else if uO l=true/\abo (qd (qd (qd l)))=0/\Bk.fits ⟨1,aA 63 l,aA 281474976710656 (qd l),0,[]⟩=true then some ⟨1,aA 63 l,aA 281474976710656 (qd l),0,[]⟩ else none
def uP (kind:Nat) (l:List Nat):Option Bk:=if kind=2 then tZ l else ze l
def gB (l:List Nat):Option Bk×Nat:=
 if zn l=false then (none,102)
 else if ¬(l.getD 4 0=113/\l.getD 5 0=116) then (none,103)
 else if l.getD 6 0≠1 then (none,104)
 else if l.getD 7 0≠1/\l.getD 7 0≠2 then (none,105)
 else match uP (l.getD 7 0) ((l.take (abo l-4)).drop 8) with
  |none=>(none,106)
  |some b=>(some b,0)
def dJ (l:List Nat):Bk×Nat×Nat:=
 if (bq l).2≠0 then (Bk.zero,0,(bq l).2)
 else match (gB (l.take (bq l).1)).1 with
  |some b=>(b,(bq l).1,0)
  |none=>(Bk.zero,0,(gB (l.take (bq l).1)).2)
def vJ (a:∀x∈l,x<256):∀x∈qd l,x<256:=λx b=>a x (abU b)
theorem ow {most:Nat} (rest:List Nat) (h:x<=most) (a:x<18446744073709551616):bn most (ak x++rest)=true/\aA most (ak x++rest)=x/\qd (ak x++rest)=rest:=by grind [bn,qd,aA,MF]
variable {b:Bk}
def YH (h:b.fits=true) (hk:b.kind=2):b.uN=true:=by unfold Bk.fits at h;rwa [if_neg om,if_pos hk] at h
theorem MI (h:b.fits=true) (hk:b.kind≠2):b.kind=1/\b.pQ=true:=by grind [Bk.fits]
theorem qr4 (b:Bs) (e:Ev):1<=abo (zk b e):=by unfold zk;simp
theorem q5a (b:Bs) (e:Ev):abo (zk b e)<=61:=by grind [Ev.vals,uH,zk,yG,Aa,BK]
theorem YI:∀(l:List Ev) (b:Bs),abo (recs b l)<=61*abo l:=by intro x;induction x<;>grind [q5a,recs]
theorem ziy:∀(l:List Ev) (b:Bs),abo l<=abo (recs b l):=by intro x;induction x<;>grind [qr4,recs]
theorem zm5 (hk:b.kind≠2):abo b.evs<=abo b.body:=by grind [Bk.body,ziy]
theorem YJ {cpu:Nat}:∀(es:List Ev) (p:Option Ev) (b:Bs) (i:Nat),(∀e∈es,e.Ok)->b.right=true->(∀e∈es.head?,b.behind e=true/\e.cpu=cpu)->(∀q,p=some q->b=q.at/\q.cpu=cpu)->(iM p i es).2=0->Chain cpu p b es
 |[],_,_,_,_,_,_,_,_=>trivial
 | e :: r, p, b, i, a, j, k, l, h => by
  rw [iM] at h
  split at h
  ·rename_i f;exact absurd h f
  ·rename_i f
   split at h
   ·cases h
   ·rename_i m
    have hc:e.check=0:=by omega
    obtain ⟨g1,g⟩:=k e (by simp)
    refine ⟨⟨j,hc,a e (by simp),g1⟩,g,?_,?_⟩
    ·grind [Ev.after]
    ·refine YJ r (some e) e.at (i+1) (λx c=>a x (by simp [c])) (MH hc) ?_ (λq d=>by injection d with d;subst d;exact ⟨rfl,g⟩) h
     intro x c
     cases r with
     |nil=>cases c
     |cons y r=>
      grind [Bs.behind,Ev.after,Ev.at,iM]
theorem zb9 {l:List Ev} (h:(jg l).2=0) (a:l.head?=some e):e.check=0:=by
 cases l with
 |nil=>cases a
 |cons x r=>
  grind [iM,jg]
theorem qva (e:Ev):e.at.behind e=true:=by grind [Bs.behind,Ev.at]
structure Cv (b:Bk) (e:Ev) (r:List Ev):Prop where
 evs:b.evs=e::r
 cpu:e.cpu=b.cpu
 base:b.base=e.at
 check:e.check=0
 right:e.at.right=true
 chain:Chain b.cpu none e.at b.evs
theorem QE (c:b.Ok) (h:b.pQ=true) (f:abo b.evs≠0):∃e r,Cv b e r:=by
 unfold Bk.pQ at h
 rw [decide_eq_true_eq] at h
 obtain ⟨g,j,k,l,m,d⟩:=h
 cases hev:b.evs with
 |nil=>rw [hev] at f;simp at f
 |cons e r=>
  have hc:e.check=0:=zb9 g (by rw [hev];rfl)
  have a:e.cpu=b.cpu:=by unfold Bk.ED at d;rw [hev] at d;simpa using d
  refine ⟨e,r,hev,a,by unfold Bk.base;rw [hev];rfl,hc,MH hc,?_⟩
  refine YJ b.evs none e.at 0 c.evs (MH hc) ?_ (λq i=>by cases i) g
  grind [qva]
def q0u (a:b.Ok) (h:b.pQ=true) (c:abo b.evs≠0):r9 b.base b.evs=0/\uY b.base b.evs=recs b.base b.evs:=by
 obtain ⟨e,r,g⟩:=QE a h c
 rw [g.base]
 obtain ⟨_,d,f⟩:=YG g.right g.chain
 exact ⟨d,f⟩
theorem zm6 (h:e.at.right=true):((e.seq.toNat:Nat):Int)=e.seq/\((e.time.toNat:Nat):Int)=e.time/\e.seq.toNat<=281474976710656/\e.time.toNat<=281474976710656:=by grind [Bs.right,Ev.at]
def ziz (h1:b.kind=1) (a:b.next=0) (l:Nat) (c:(l:Int)=b.lost):(⟨1,b.cpu,(l:Int),0,b.evs⟩:Bk)=b:=by
 cases b
 simp only at h1 a c
 subst h1;subst a;rw [c]
theorem q0v (i:b.Ok) (h:b.fits=true) (u:abo b.evs<=4096):uP b.kind b.body=some b:=by
 unfold uP
 split
 ·rename_i f
  have O:=h
  have h:=YH h f
  unfold Bk.uN at h
  rw [decide_eq_true_eq] at h
  obtain ⟨v,w,y,z,l⟩:=h
  have A:((b.next.toNat:Nat):Int)=b.next:=by omega
  have P:(⟨2,0,0,((b.next.toNat:Nat):Int),[]⟩:Bk)=b:=by
   rw [A]
   cases b
   grind
  unfold Bk.body tZ
  rw [if_pos f]
  obtain ⟨Q,S,T⟩:=ow (most:=281474976710657) (x:=b.next.toNat) [] om om
  grind
 ·rename_i f
  obtain ⟨j,m⟩:=MI h f
  have c:=m
  unfold Bk.pQ at c
  rw [decide_eq_true_eq] at c
  obtain ⟨v,w,y,z,l,U⟩:=c
  have d:((b.lost.toNat:Nat):Int)=b.lost:=by omega
  have a:=ziz j l b.lost.toNat d
  unfold Bk.body ze
  rw [if_neg f]
  simp only [abv]
  generalize k:(if abo b.evs=0 then [] else ak b.base.seq.toNat++(ak b.base.time.toNat++recs b.base b.evs))=R
  obtain ⟨B,C,D⟩:=ow (most:=63) (x:=b.cpu) (ak b.lost.toNat++(ak (abo b.evs)++R)) om om
  obtain ⟨E,F,G⟩:=ow (most:=281474976710656) (x:=b.lost.toNat) (ak (abo b.evs)++R) om om
  obtain ⟨H,I,J⟩:=ow (most:=4096) (x:=abo b.evs) R u om
  unfold uO
  rw [D,G,J,B,C,E,F,H,I]
  by_cases n:abo b.evs=0
  ·grind
  ·rw [if_neg n] at k
   obtain ⟨e,r,g⟩:=QE i m n
   obtain ⟨o,p,q,s⟩:=zm6 g.right
   rw [g.base] at k
   subst k
   obtain ⟨K,L,M⟩:=ow (most:=281474976710656) (x:=e.at.seq.toNat) (ak e.at.time.toNat++recs e.at b.evs) q (by have:=q;show e.seq.toNat<_;omega)
   obtain ⟨e1,e2,e3⟩:=ow (most:=281474976710656) (x:=e.at.time.toNat) (recs e.at b.evs) s (by have:=s;show e.time.toNat<_;omega)
   have N:(⟨((e.at.seq.toNat:Nat):Int),((e.at.time.toNat:Nat):Int)⟩:Bs)=e.at:=by
    show (⟨((e.seq.toNat:Nat):Int),((e.time.toNat:Nat):Int)⟩:Bs)=⟨e.seq,e.time⟩
    rw [o,p]
   have t:=q49 g.right g.chain []
   rw [abM] at t
   rw [if_pos ⟨rfl,by omega⟩]
   unfold uf
   rw [M,L,e2,e3,K,e1,N,t,if_pos]
   ·rw [a]
   ·refine ⟨rfl,?_,?_,rfl,rfl,by simp,by rw [a];exact h⟩
    ·rw [g.evs];exact o.symm
    ·rw [g.evs];exact p.symm
theorem MJ (h:x<=281474976710657):aX (x:Int):=by unfold aX;omega
def zck (b:Bk):b.raw.drop 8=b.body:=by unfold Bk.raw;rfl
def Y7 (h:(bq l).2=0):jZ l=(bq l).1/\13<=(bq l).1/\(bq l).1<=4096/\(bq l).1<=abo l:=by
 unfold bq at h⊢
 split at h
 ·cases h
 ·split at h
  ·cases h
  ·split at h
   ·cases h
   ·rename_i a b c
    rw [if_neg a,if_neg b,if_neg c]
    omega
def MX {α:Type} (f:α->List aiN) (sz:Nat) (a:∀x,abo (f x)=sz):∀(l:List α) (k:Nat),(l.flatMap f).take (k*sz)=(l.take k).flatMap f
 |[],_=>by simp
 |_::_,0=>by simp
 |x::l,k+1=>by
  rw [abR,List.take_succ_cons,abR,List.take_append,abL (by rw [a,adI];omega),a,<-MX f sz a l k]
  congr 2
  rw [adI];omega
def sJ (x:Sm):List aiN:=x.cells.toList
def EK (x:Sm):abo (sJ x)=11:=rfl
def vR:SI abp 280 11:=⟨by kernel_rfl,by kernel_rfl⟩
def AA:EI abp 111 280 (.agg (Sm.cells ⟨0,0,0,0,0,0,0,0,0,0,0⟩)) 11 48:=⟨by kernel_rfl,by kernel_rfl,rfl,by omega⟩
structure qF (w:aiM) (es:List Ev) (r:aiQ) (w':aiM):Prop where
 ret:∃v,r= .returned v/\w'.ownsRow w.heap.size 73 11 v (abo es) (es.flatMap fC)
 below:Below w.heap.size w w'
def znb (n:Nat) (l:List Sm) (h:abo l=n):abT .i64 (if ((200:Int)<(n:Int)) then 200 else (n:Int))= .int .i64 ((abo (l.take 200):Nat):Int):=by
 congr 1
 rw [abx]
 split<;>omega
def Zn {a b d:Nat} (h:w.heap[g]?=some (.cells #[.int .i64 (a:Int),.int .i64 (b:Int),.int .i64 (c:Int),.int .i64 (d:Int)] t (0,0))) {k r:Nat} (hk:k<4) (hr:(if k=0 then a else if k=1 then b else if k=2 then c else d)=r):w.cell? ⟨g,k*1,none⟩=some (.int .i64 (r:Int)):=by
 subst hr
 unfold aef
 rw [h]
 obtain rfl|rfl|rfl|rfl:k=0\/k=1\/k=2\/k=3:=by omega
 all_goals rfl
def q03 (k:Nat):0<sI k/\sI k<=4294967296:=by unfold sI;split<;>(try split)<;>(try split)<;>omega
def q5v (k:Nat):0<stepT k/\stepT k<=4294967296:=by unfold stepT;split<;>(try split)<;>(try split)<;>omega
def go_step {cpu:Nat} {a:Bs} {L:List Sm} {x y:Sm} {z:Ev} (b:L[k]?=some x) (hy:({x with cpu:=cpu}:Sm)=y) (hz:y.ev.moved (a.step x).seq (a.step x).time=z):vO cpu a (L.drop k)=z::vO cpu (a.step x) (L.drop (k+1)):=by
 obtain ⟨c,d⟩:=List.getElem?_eq_some_iff.1 b
 rw [acz c,d,vO,hy,hz]
def q04 (cpu:Nat) (D:cpu<256) (b:Bs) (hb:b.Ok) (A:aiW) (c:Nat) (l:List Sm) (hl:∀x∈l,x.Ok) (w:aiM) (hr:Rd w w.heap.size 11 A (abo l) (l.flatMap sJ)) (hc:abo l<=c) (hn:abo l<=9223372036854775807):
    Calls abp 104 #[.int .u8 (cpu:Int),.agg b.cells,.slice A (abo l) c] w (qF w (lX cpu b l)):=by
 refine (uL Tryz.func104 74) ?_
 refine (JP∘JE) λw4 g4=>(Jp 1∘Jq) ?_
 obtain ⟨_,hb1,hb2,hb3,hb4⟩:=Rh b
 obtain ⟨L,r⟩:∃L,l.take 200=L:=⟨_,rfl⟩
 have O:abo L<=abo l/\abo L<=200:=by rw [<-r,abx];omega
 have P:∀x∈L,x.Ok:=λx E=>hl x (List.mem_of_mem_take (by rw [r];exact E))
 have F:Rd w w.heap.size 11 A (abo L) (L.flatMap sJ):=by have h:=hr.upto (k:=abo L) O.1;rwa [MX sJ 11 EK,show l.take (abo L)=L by rw [<-r,abx];rcases Nat.le_total 200 (abo l) with h|h;rw [Nat.min_eq_left h];rw [Nat.min_eq_right h,abL (abu _),abL h]] at h
 refine (JG∘JP∘eH iN O0∘JL (h:=by exact λe=>q5s b hb _)) ?_
 rintro e _ vH ⟨rfl,B⟩
 refine ⟨_,rfl,_,e.call B,?_⟩
 refine (JA #[vI 0,vI 0]) λw7 g7=>(JV iN aO (h1:=by exact LX b.based)) λRi=>(bU∘Jr∘Jg 0 O0∘Jp 1∘Jo (vI (b.based.seq-1)) (by exact nD ⟨by omega,by omega⟩)∘Jf 0) λa Z e=>?_
 refine fo Z 4 rfl rfl ?_
 refine rz Z e (i:=0) rfl rfl rfl rfl kr rfl rfl (by simp [Bs.cells]) λajB e=>?_
 refine Jb Z e ((oo∘bg 1∘Jq∘JC (h:=by exact λe=>e.nil 73 11)∘JG∘bN 2∘Jl∘Jy (v:=vI (if (200:Int)<(abo l:Int) then 200 else (abo l:Int))) (h:=by exact Yl.min rfl rfl rfl)∘Jo (vI (abo L)) (by rw [<-r];exact znb _ _ rfl)∘Jy (h:=by exact aah AA (j:=abo L) rfl rfl rfl om)∘Jl∘bM 1∘JB) λa Z e=>?_)
 refine qg (λmS aS G=>∃(k:Nat) (pre:List Ev) (g:Bs) (Q:aiW) (co:Nat),(k<=abo L)/\(vO cpu b.start L=pre++vO cpu g (L.drop k))/\(abo pre=k)/\(abo pre<=co)/\(0<=g.seq/\g.seq<=1099511627776+4294967296*(k:Int)/\0<=g.time/\g.time<=1099511627776+4294967296*(k:Int))/\mS=abo L-k/\Fr aS 74 [] (ahY 24 k 23 (abo L) [(22,.slice A (abo L) c),(8,.slice Q (abo pre) co),(7,vP g7 0),(6,.slice none 0 0),(0,vB cpu)])/\Mem w G [.row (.slice Q (abo pre) co) (abo pre) (pre.flatMap fC) 73 11,.blk g7 g.cells 110]) (m:=abo L-0) ⟨0,[],b.start,none,0,abz _,rfl,rfl,abu _,by show 0<=b.based.seq-1/\b.based.seq-1<=_/\0<=b.based.time/\b.based.time<=_;omega,rfl,Z.sub kr,e.pk [0,1]⟩ ?_
 clear Z e;rintro mS a w_ ⟨k,pre,g,Q,co,hk,H,R,hco,ha,rfl,Z,e⟩
 refine Jb Z e ((dh 1∘JQ) (Ji (λI=>?_) λI=>?_))
 ·
  have C:k<abo L:=by omega
  obtain ⟨x,E⟩:∃x,L[k]?=some x:=⟨_,abr C⟩
  have s:=P x (abJ E)
  obtain ⟨y,T⟩:∃y,({x with cpu:=cpu}:Sm)=y:=⟨_,rfl⟩
  have U:y.Ok:=by rw [<-T];exact {s with cpu:=D}
  have V:=q03 x.kind
  have W:=q5v x.kind
  have hm1:=ad1 x.seq V.1
  have hm2:=ad1 x.time W.1
  obtain ⟨z,hz⟩:∃z,y.ev.moved (g.step x).seq (g.step x).time=z:=⟨_,rfl⟩
  intro a Z e
  have X:=go_step (a:=g) E T hz
  have hxk:=s.kind
  have hxs:=s.seq
  have hxt:=s.time
  refine Jb Z e ((eY∘JP) ?_)
  obtain ⟨gA,oA,rfl,_⟩:=F.sat k (hk:=C)
  refine (iC k 11 (hy:=C)∘Jy (v:= .agg x.cells) (h:=by exact Pe rfl rfl vR rfl (λ_ h=>(h.old F).vv EK (E)))∘JA #[vB 0,vB 0,vW 0,vW 0,vW 0,vW 0,vW 0,vW 0,vW 0,vW 0,vQ 0]) λsG g10=>(JV vR aO (h1:=by exact zi6 x)) λRj=>(bU∘bg 1∘Jf 1) λa Z e=>?_
  refine fo Z 2 rfl rfl ?_
  refine rz Z e (i:=0) rfl rfl rfl rfl kr rfl rfl (by simp [Sm.cells]) λRk e=>?_
  refine Jb Z e ((nE∘Jr∘Jy (v:= .agg #[vB x.kind,vB cpu,vW x.seq,vW x.time,vW x.task,vW x.group,vW x.to,vW x.weight,vW x.ticks,vW x.got,vQ x.mask]) (h:=by exact Pe rfl rfl vR rfl (λ_ h=>qj (h.blk (i:=0) rfl)))∘Jo (.agg y.cells) (by rw [<-T];try rfl)∘JL (h:=by exact λe=>q5t y U _)) ?_)
  rintro e _ GX ⟨rfl,B⟩
  refine ⟨_,rfl,_,e.call B,?_⟩
  refine (JA aiD) λuM g11=>(JV ⟨kr,kr⟩ aO (h1:=by exact rM y.ev)) λajC=>(bU∘Jj) λa Z e=>?_
  refine wp_seq ?_
  refine Jb Z e ((Vs .n [16]) λRl=>(Vf 0 0∘Vf 2 2∘Vf 6 0∘Vc 1 O3∘Vc 3 O1∘Vw 4 .i64∘Vc 7 O1∘Vp [8]∘Vo (vB (x.kind/16:Nat)) (by exact uI .u8 x.kind (j:=4) (q:=16) rfl rfl)∘Vp [9]∘Vo (vB ((x.kind/16)%4:Nat)) (by exact zi .u8 _ 4)) λa Z e o=>?_)
  refine s_on Z 5 rfl (jA Z e j6 [(0,vI 1),(1,vI 3),(2,vI 200),(3,vI 4294967296)] #[vI 1,vI 3,vI 200,vI 4294967296] ?_)
  clear Z e;intro a EJ Y Z e
  refine av (e.pk [1,2,3,4]) (λo=>?_)
  refine Vb Z e o ((Vy 10 (h:=by exact Yl.iO Y (x.kind/2^4%4) 1 rfl rfl rfl)) λa Z e o=>?_)
  refine s_on Z 11 rfl ?_
  refine Yl.wp (S:=λG=>Mem w G _) (v:=vI (sI x.kind)) (Pd rfl rfl kr (λ_ h=>Zn (a:=1) (b:=3) (c:=200) (d:=4294967296) (h.blk (i:=0) rfl) om rfl)) Z e rfl de λa Z=>?_
  refine av o (λo=>?_)
  refine Vb Z e o ((Vy 12 (v:=vI (x.seq% (sI x.kind):Nat)) (h:=by exact aax (m:=x.seq) (n:=(sI x.kind)) rfl rfl rfl om)∘Vp [13]∘Vo (vI (1+(x.seq% (sI x.kind)):Nat)) (by exact zc om om)∘Vp [14]∘Vo (vI ((g.step x).seq)) (by exact nD (x:=g.seq+((1+x.seq%sI x.kind:Nat):Int)) ⟨by omega,by omega⟩)∘Vf 15 0) λa Z e o=>?_)
  refine s_on Z 16 rfl ?_
  refine rz Z e (i:=4) rfl rfl rfl rfl kr rfl rfl (by simp [Bs.cells]) λZo e=>?_
  refine dU kr ?_
  refine qe kr ?_
  refine wp_seq ?_
  refine Jb Z e ((Vs .n [14]) λrT=>(Vf 0 1∘Vf 2 3∘Vf 6 0∘Vc 1 O4∘Vc 3 O2∘Vw 4 .i64∘Vc 7 O2∘Vp [8]∘Vo (vB (x.kind/64:Nat)) (by exact uI .u8 x.kind (j:=6) (q:=64) rfl rfl)) λa Z e o=>?_)
  refine s_on Z 5 rfl (jA Z e j6 [(0,vI 1),(1,vI 300),(2,vI 100000),(3,vI 4294967296)] #[vI 1,vI 300,vI 100000,vI 4294967296] ?_)
  clear Z e;intro a Yc g53 Z e
  refine av (e.pk [1,2,3,4,5]) (λo=>?_)
  refine Vb Z e o ((Vy 9 (h:=by exact Yl.iO g53 (x.kind/2^6) 1 rfl rfl rfl)) λa Z e o=>?_)
  refine s_on Z 10 rfl ?_
  refine Yl.wp (S:=λG=>Mem w G _) (v:=vI (stepT x.kind)) (Pd rfl rfl kr (λ_ h=>Zn (a:=1) (b:=300) (c:=100000) (d:=4294967296) (h.blk (i:=0) rfl) om rfl)) Z e rfl de λa Z=>?_
  refine av o (λo=>?_)
  refine Vb Z e o ((Vy 11 (v:=vI (x.time% (stepT x.kind):Nat)) (h:=by exact aax (m:=x.time) (n:=(stepT x.kind)) rfl rfl rfl om)∘Vp [12]∘Vo (vI ((g.step x).time)) (by exact nD (x:=g.time+((x.time%stepT x.kind:Nat):Int)) ⟨by omega,by omega⟩)∘Vf 13 1) λa Z e o=>?_)
  refine s_on Z 14 rfl ?_
  refine rz Z e (i:=5) rfl rfl rfl rfl kr rfl rfl (by simp [Bs.cells]) λN e=>?_
  refine dU kr ?_
  refine qe kr ?_
  refine wp_seq ?_
  refine Jb Z e ((Vs (.t (.t (.f .n))) [7]) λQm=>(Vf 0 0∘Vf 2 1∘Vc 1 O4∘Vf 4 0∘Vc 3 O4) λa Z e o=>?_)
  refine s_on Z 5 rfl ?_
  refine rz Z e (i:=2) rfl rfl rfl rfl kr rfl rfl (by simp [Ev.cells]) λZp e=>?_
  refine av (e.pk [0,1,3,4,5]) (λo=>?_)
  refine Vb Z e o ((Vf 6 1) λa Z e o=>?_)
  refine s_on Z 7 rfl ?_
  refine rz Z e (i:=2) rfl rfl rfl rfl kr rfl rfl (by simp [Ev.cells]) λZq e=>?_
  refine dU kr ?_
  refine qe kr ?_
  refine Jb Z e ((JR∘Jp 1∘Jy (v:= .agg #[vI ((g.step x).seq),vI ((g.step x).time),vB y.ev.cpu,vB y.ev.kind,vI y.ev.task,vI y.ev.group,vI y.ev.to,vI y.ev.weight,vI y.ev.ticks,vQ y.ev.mask,vI y.ev.got]) (h:=by exact Pe rfl rfl ⟨kr,kr⟩ rfl (λ_ h=>qj (h.blk (i:=2) rfl)))∘Jo (.agg z.cells) (by rw [<-hz];try rfl)∘JU su z.cells) λw70 g70=>(JD (fC z) 5 (λ_ _=>rC) su (hr:=by exact λe=>e.bB (i:=0) (n:=1) (size:=11) rfl rfl) (h1:=by exact rM z)) λw71 J K u=>(Jp 1∘aJ∘Jq) ?_)
  have p:(abo pre+1)=abo (pre++[z]):=by rw [abq];rfl
  rw [p] at u
  refine (JC (h:=by exact λe=>e.bC (i:=5) (ys:=(pre++[z]).flatMap fC) rfl p (by rw [ab1,af6]))∘Jk 8 (.slice J (abo (pre++[z])) K) (h:=by exact iW p)∘JG∘JR∘dA 1∘Jp 1∘aL∘Jq) λa Z e=>?_
  exact ⟨_,om,k+1,(pre++[z]),(g.step x),J,K,by omega,by rw [H,X,abv];rfl,by rw [abq,R];rfl,u,by show 0<=g.seq+((1+x.seq%sI x.kind:Nat):Int)/\g.seq+((1+x.seq%sI x.kind:Nat):Int)<=_/\0<=g.time+((x.time%stepT x.kind:Nat):Int)/\g.time+((x.time%stepT x.kind:Nat):Int)<=_;omega,rfl,Z.sub kr,e.pk [5,6]⟩
 have M:vO cpu b.start L=pre:=by rw [H,ac6 om];exact abM _
 exact (JF∘JX∘JG∘aM 2∘aL∘aP∘aW) λe=>by exact ⟨⟨_,rfl,by unfold lX;rw [r,M];exact e.own (i:=0) rfl⟩,e.below⟩
def Zr (cpu:Nat) (a:cpu<256) (b:Bs) (hb:b.Ok) (A:aiW) (n c:Nat) (l:List Sm) (d:∀x∈l,x.Ok) (w:aiM) (hr:Rd w w.heap.size 11 A n (l.flatMap sJ)) (hc:n<=c) (e:n<=9223372036854775807):
  Calls abp 104 #[.int .u8 (cpu:Int),.agg b.cells,.slice A n c] w (qF w (lX cpu b l)):=by
 obtain rfl:abo l=n:=by have:=hr.len;rw [rJ sJ 11 EK] at this;omega
 exact q04 cpu a b hb A c l d w hr hc e
def iD (xs:Array aiN) (i:Nat):Int:=match xs[i]? with
 |some (.int _ n)=>n
 |_=>0
def QC (P : aiO) (f : Field) (i : Nat) : Bool := f.name != "_" && (f.offset == i && (gM P f.type && match P.underlying f.type with
 |some (.int _)=>true
 |_=>false))
def Yx {P:aiO} (d:Nat) (xs ys:Array aiN):∀(c:List Field) (i:Nat) (w:aiM),(∀j,j<abo c->∃f k a b,c[j]?=some f/\QC P f (i+j)=true/\xs[i+j]?=some (.int k a)/\ys[i+j]?=some (.int k b))->
  (Op.eqFields (d+1) xs ys c).run P w= .ok ((aco (abo c)).all λj=>iD xs (i+j)==iD ys (i+j)) w
 |[],i,w,_=>rfl
 | f :: c, i, w, h => by
  obtain ⟨B,k,a,b,n,p,g,l⟩:=h 0 (by simp)
  simp only [afZ,Option.some.injEq] at n
  subst n
  simp only [QC,abG,bne_iff_ne,beq_iff_eq,acK] at p
  obtain ⟨u,v,x,t⟩:=p
  rw [acK] at g l
  have y:=Yx d xs ys c (i+1) w (λj z=>by
   obtain ⟨f,k,a,b,n,p,g,l⟩:=h (j+1) (by simpa using z)
   refine ⟨f,k,a,b,by simpa using n,?_,?_,?_⟩
   ·rw [show i+1+j=i+(j+1) by omega];exact p
   ·rw [show i+1+j=i+(j+1) by omega];exact g
   ·rw [show i+1+j=i+(j+1) by omega];exact l)
  have q:∃m,P.underlying f.type=some (.int m):=by
   split at t
   ·rename_i m A;exact ⟨m,A⟩
   ·cases t
  obtain ⟨m,q⟩:=q
  have r:iD xs i=a:=by simp [iD,g]
  have s:iD ys i=b:=by simp [iD,l]
  have e:(aco (abo (f::c))).all (λj=>iD xs (i+j)==iD ys (i+j))=((a==b)&& (aco (abo c)).all λj=>iD xs (i+1+j)==iD ys (i+1+j)):=by
   rw [abV,List.range_succ_eq_map,List.all_cons,acK,r,s,List.all_map]
   congr 2
   funext j
   simp only [Function.comp_apply,Nat.succ_eq_add_one]
   rw [show i+(j+1)=i+1+j by omega]
  rw [e]
  unfold Op.eqFields
  rw [if_pos u]
  simp only [abI,part,FZ x,abA,Bool.false_eq_true,if_false,v,g,l,abS,run_equalIn_int w d f.type k m a b q]
  cases hab:(a==b)
  ·simp
  ·simp [y]
def Gz (P:aiO) (t:aiP):Bool:= !P.stoodInHeld t&& (!P.eqGuardType P.depth t&& ((P.fieldsOf t).size==11&& ((aco 11).all λi=>match (P.fieldsOf t).toList[i]? with
 |some f=>QC P f i
 |none=>false)))
def qu8 (h:(P.fieldsOf t).size=11):P.underlying t=some (.struct (P.fieldsOf t)):=by
 unfold Program.fieldsOf at h⊢
 split at h
 ·rename_i b a;rw [a]
 ·cases h
def q44 (e:Ev):∀i,i<11->∃k,e.cells[i]?=some (.int k (iD e.cells i))/\∀a:Ev,a.cells[i]?=some (.int k (iD a.cells i)):=by
 intro i hi
 have h:i=0\/i=1\/i=2\/i=3\/i=4\/i=5\/i=6\/i=7\/i=8\/i=9\/i=10:=by omega
 rcases h with rfl|rfl|rfl|rfl|rfl|rfl|rfl|rfl|rfl|rfl|rfl<;>exact ⟨_,rfl,λ_=>rfl⟩
instance Yy:DecidableEq Ev:=λ⟨c,d,e,f,g,h,i,j,k,l,a⟩ ⟨m,n,p,q,r,s,t,u,v,w,b⟩=>
 decidable_of_iff (c=m/\d=n/\e=p/\f=q/\g=r/\h=s/\i=t/\j=u/\k=v/\l=w/\a=b) (by rw [Ev.mk.injEq])
def zm3 (x y:Ev):((aco 11).all λj=>iD x.cells (0+j)==iD y.cells (0+j))=decide (x=y):=by
 rw [ab3,decide_eq_true_eq]
 constructor
 ·intro h
  have g:∀j,j<11->iD x.cells j=iD y.cells j:=λj q=>by
   have:=ace.1 h j (aeS.2 q)
   simpa using this
  obtain ⟨r,s,i,k,t,u,v,w,z,l,a⟩:=x
  obtain ⟨A,B,m,n,C,D,E,F,G,p,b⟩:=y
  have g0:r=A:=g 0 de
  have g1:s=B:=g 1 de
  have M:(i:Int)=m:=g 2 de
  have N:(k:Int)=n:=g 3 de
  have H:t=C:=g 4 de
  have I:u=D:=g 5 de
  have J:v=E:=g 6 de
  have K:w=F:=g 7 de
  have L:z=G:=g 8 de
  have O:(l:Int)=p:=g 9 de
  have c:a=b:=g 10 de
  have d:i=m:=by omega
  have e:k=n:=by omega
  have f:l=p:=by omega
  subst g0 g1 d e H I J K L f c
  rfl
 ·rintro rfl
  simp
def zb3 (ht:Gz P t=true) (x y:Ev) (w:aiM):(adg t (.agg x.cells) (.agg y.cells)).run P w= .ok (decide (x=y)) w:=by
 simp only [Gz,abG,acL,beq_iff_eq] at ht
 obtain ⟨d,_,a,e⟩:=ht
 unfold adg
 rw [show Op.maxDepth=9998+1+1 from rfl,run_equalIn_struct w 9999 t _ _ (qu8 a) d,Yx 9998 _ _ _ 0 w]
 ·rw [acA,a,zm3]
 ·intro j b
  rw [acA,a] at b
  have:=ace.1 e j (aeS.2 b)
  split at this
  ·rename_i f g
   obtain ⟨k,h,c⟩:=q44 x j b
   rw [aci]
   exact ⟨f,k,_,_,g,this,h,c y⟩
  ·cases this
def q0t (ht:Gz P t=true) (op:BinOp) (x y:aiR) (a b:Array aiN) (w:aiM):(eqGuard op t x y (.agg a) (.agg b)).run P w= .ok () w:=by
 simp only [Gz,abG,acL,beq_iff_eq] at ht
 obtain ⟨_,c,_⟩:=ht
 unfold eqGuard
 cases op<;>simp<;>simp [c]
section
variable {P:aiO} {S:aiM->Prop} {σ:List (Nat×aiN)} {o:aiS}
def aa1 {u:aiP} {p q:aiR} {x y:Ev} (b:o.op= .binOp .neq t p q u) (c:look σ p=some (.agg x.cells)) (hy:look σ q=some (.agg y.cells)) (ht:Gz P t=true):Yl P S σ o (.bool (!decide (x=y))):=λa n D Z w d=>by
 unfold execOp
 have e:(binOp .neq t (.agg x.cells) (.agg y.cells)).run P w= .ok (.bool (!decide (x=y))) w:=by
  show ((do Pure.pure (.bool (!(<-adg t (.agg x.cells) (.agg y.cells)))):Sem aiN)).run P w=_
  simp [zb3 ht]
 simp only [b,Z.eval c,Z.eval hy,abI,q0t ht,abA,e,abS]
end
def Bk.cells (b:Bk) (A:aiW) (c:Nat):Array aiN:= #[.int .u8 (b.kind:Int),.int .u8 (b.cpu:Int),.int .i64 b.lost,.int .i64 b.next,.slice A (abo b.evs) c]
def uQ (b:Bk) (A:aiW) (c:Nat):∀v∈(b.cells A c).toList,v.oneCell'=true:=by intro v a;simp [Bk.cells] at a;rcases a with rfl|rfl|rfl|rfl|rfl<;>rfl
def aG:SI abp 85 5:=⟨by kernel_rfl,by kernel_rfl⟩
def GA:EI abp 402 30 (.slice none 0 0) 1 24:=⟨by kernel_rfl,by kernel_rfl,rfl,by omega⟩
def Au:SI abp 287 2:=⟨by kernel_rfl,by kernel_rfl⟩
structure aR (B:Nat) (w:aiM):Prop where
 laid:Laid B w
 halves:∀k,k<16->w.cell? ⟨1,k,none⟩=some (.int .u32 ((tN.getD k 0:Nat):Int))
 GD:1<B
 rQ:w.cell? ⟨0,0,none⟩=some (.int .u8 113)
 rR:w.cell? ⟨0,1,none⟩=some (.int .u8 116)
 Cw:0<B
def aR.yF (h:aR B w) (hk:∀p:Addr,p.block<B->W.cell? p=w.cell? p):aR B W:=
 ⟨h.laid.yF hk,λk a=>(hk _ h.GD).trans (h.halves k a),h.GD,(hk _ h.Cw).trans h.rQ,(hk _ h.Cw).trans h.rR,h.Cw⟩
theorem aR.mem (h:aR B W) (a:Mem W w fs) (b:B<=W.heap.size):aR B w:=h.yF λ_ c=>a.below.cell om
def YK (h:aR B W) (a:Mem W w fs) (b:B<=W.heap.size) {k:Nat} (hk:k<16):w.cell? ⟨1,k*1,none⟩=some (.int .u32 ((tN.getD k 0:Nat):Int)):=by
 rw [ac0];exact (h.mem a b).halves k hk
def zca (h:aR B W) (b:Mem W w fs) (c:B<=W.heap.size):w.rangeAt 0 0 (#[abT .u8 113,.int .u8 116]:Array aiN).toList:=λj v a=>by
 have d:=(h.mem b c).rQ
 have e:=(h.mem b c).rR
 rcases j with _|_|j
 ·simp at a;subst a;exact d
 ·simp at a;subst a;exact e
 ·simp at a
theorem YL (h:abo b.evs≠0):b.ED=decide ((b.evs.getD 0 Ev.zero).cpu=b.cpu):=by grind [Bk.ED]
theorem YM (h:abo b.evs=0):b.ED=decide (0<b.lost):=by
 unfold Bk.ED
 rw [List.length_eq_zero_iff] at h
 rw [h]
def q5b (b:Bk):b.base=⟨(b.evs.getD 0 Ev.zero).seq,(b.evs.getD 0 Ev.zero).time⟩:=by
 unfold Bk.base Ev.at
 cases b.evs<;>rfl
def zm7 (k:Nat):k=1\/k=2\/(k≠1/\k≠2):=by omega
def zcb (a:b.Ok) (h:b.fits=true) (hk:b.kind≠2) (c:abo b.evs≠0):0<=b.base.seq/\b.base.seq<=281474976710656/\0<=b.base.time/\b.base.time<=281474976710656:=by
 obtain ⟨e,r,g⟩:=QE a (MI h hk).2 c
 have:=g.right
 rw [<-g.base] at this
 have d:1<=b.base.seq/\b.base.seq<=281474976710656/\0<=b.base.time/\b.base.time<=281474976710656:=by simpa [Bs.right] using this
 omega
theorem q5c (h:b.fits=true) (hk:b.kind≠2):b.kind=1/\0<=b.lost/\b.lost<=281474976710656/\b.cpu<64/\b.next=0:=by grind [Bk.pQ,MI]
def YN (h:b.fits=true) (hk:b.kind=2):1<=b.next/\b.next<=281474976710657/\b.cpu=0/\b.lost=0/\abo b.evs=0:=by
 have a:=YH h hk
 unfold Bk.uN at a
 rw [decide_eq_true_eq] at a
 exact a
section
open Go.ChangeShapes Go.WideShapes
def zcc {r:List aiN} {p:List MemPlace}
  (h:DataW.trod (λ_=>()) abp W 0 (λ_=>true) false m 38 r=some (.slice (l.map λz:Nat=> .lit (.int .i64 (z:Int))) [],p)):
  ∃A c,r=[.slice A (abo l) c]/\Rd W W.heap.size 1 A (abo l) (l.map bL):=by
 obtain ⟨a,cap,g,s,d⟩:=open_row (e:=3) kr kr h
 have b:∀i z,l[i]?=some z->W.cell? (a.add i)=some (bL z):=by
  intro i z hz
  obtain ⟨v,n,q,hc,ht⟩:=d i (.lit (.int .i64 (z:Int))) (by rw [acM,hz];rfl)
  obtain ⟨t,e1,e2,_⟩:=DataW.trod_int (k:= .i64) kr ht
  injection e1 with e1
  injection e2 with e2
  subst e1
  simp only [DataW.lit.injEq,Lit.int.injEq,true_and] at e2
  rw [hc,<-e2]
  rfl
 refine ⟨some a,cap,by rw [g,abw],by simp,λo=>⟨a,rfl,?_,?_⟩⟩
 ·cases l with
  |nil=>simp at o
  |cons z l=>
   have:=aeA W _ (b 0 z rfl)
   simpa [Addr.add] using this
 ·intro j u f
  rw [acM] at f
  cases hz:l[j]? with
  |none=>simp [hz] at f
  |some z=>rw [hz] at f;cases f;exact b j z hz
def qvb (h:laidMetH abp Rows.archiveOneRow.laid W):Laid W.heap.size W:=by
 rw [MakeChecks.laidMetH_plain _ _ _ kr] at h
 obtain ⟨g1, T, m, U, V, o, p, r, t⟩ := Lib.laidMet.reads h (n := "quantum/event.fields") (d := Rows.laid_quantum_event_fields) (acj ..)
 obtain ⟨X, Y, u, Z, p2, w, x, y, B⟩ := Lib.laidMet.reads h (n := "quantum/event.uses") (d := Rows.laid_quantum_event_uses) (List.mem_cons_of_mem _ (acj ..))
 have f : Tryz.prog.globalNamed "quantum/event.fields" = some 3 := by kernel_rfl
 have g : Tryz.prog.globalNamed "quantum/event.uses" = some 2 := by kernel_rfl
 obtain rfl:=Option.some.inj (f.symm.trans o)
 obtain rfl:=Option.some.inj (g.symm.trans w)
 have C:(Tryz.prog.globals[3]?).map (·.type)=some 459:=by kernel_rfl
 have D:(Tryz.prog.globals[2]?).map (·.type)=some 410:=by kernel_rfl
 obtain rfl:=Option.some.inj (C.symm.trans p)
 obtain rfl:=Option.some.inj (D.symm.trans x)
 have j:Tryz.prog.cellsOf 9=1:=by kernel_rfl
 have l:Tryz.prog.cellsOf 38=1:=by kernel_rfl
 have N:∀i v,m.toList[i]?=some v->W.cell? ⟨3,i,none⟩=some v:=λi v E=>by
  rw [agL f r i];simpa using E
 have L:∀i v,u.toList[i]?=some v->W.cell? ⟨2,i,none⟩=some v:=λi v E=>by
  rw [agL g y i];simpa using E
 have b:∀(F:List aiN) (i:Nat) (v:aiN),(F.drop (i*1)).take 1=[v]->F[i]?=some v:=by
  intro F i v h
  have:=congrArg (·[0]?) h
  simpa [List.getElem?_take,adL] using this
 have str:∀i,i<7->∃s:ByteArray,W.cell? ⟨3,i,none⟩=some (.string s):=by
  intro i hi
  obtain ⟨O,d,q,_,ht⟩:=ahd (n:=7) (e:=9) kr t i hi
  rw [j] at ht
  obtain ⟨s,hs,_⟩:=DataW.trod_string kr ht
  exact ⟨s,N i _ (b _ _ _ hs)⟩
 have row:∀k,k<11->∃A c,W.cell? ⟨2,k,none⟩=some (.slice A (aB k).length c)/\Rd W W.heap.size 1 A (aB k).length ((aB k).map bL):=by
  intro k P
  obtain ⟨O,d,q,G,ht⟩:=ahd (n:=11) (e:=38) kr B k P
  rw [l] at ht
  by_cases Q:k=0
  ·subst Q
   simp only [afZ,Option.some.injEq] at G
   subst G
   rcases DataW.trod_slice (e:=3) kr ht with ⟨hc,_⟩|⟨a,len,cap,H,M,n,_,_,R,_⟩
   ·exact ⟨none,0,L 0 _ (b _ _ _ hc),Rd.nil⟩
   ·simp at R
  ·have I:d= .slice ((aB k).map λz:Nat=> .lit (.int .i64 (z:Int))) []:=by
    have J:k=1\/k=2\/k=3\/k=4\/k=5\/k=6\/k=7\/k=8\/k=9\/k=10:=by omega
    rcases J with rfl|rfl|rfl|rfl|rfl|rfl|rfl|rfl|rfl|rfl<;>exact (Option.some.inj G).symm
   subst I
   obtain ⟨A,c,hc,S⟩:=zcc ht
   exact ⟨A,c,L k _ (b _ _ _ hc),S⟩
 refine ⟨row,?_,str,?_⟩
 ·obtain ⟨A,c,K,_⟩:=row 0 om
  exact aeA W _ K
 ·obtain ⟨s,K⟩:=str 0 om
  exact aeA W _ K
def YO:Tryz.prog.underlying 61=some (.int .u32):=by kernel_rfl
set_option maxRecDepth 100000 in
theorem qr6 (h:laidMetH Tryz.prog Rows.archiveOneRow.laid W):aR W.heap.size W:=by
 have I:=qvb h
 rw [MakeChecks.laidMetH_plain _ _ _ kr] at h
 obtain ⟨g1, M, p, N, O, r, s, t, u⟩ := Lib.laidMet.reads h (n := "quantum/crc.halves") (d := Rows.laid_quantum_crc_halves) (List.mem_cons_of_mem _ (List.mem_cons_of_mem _ (List.mem_cons_self ..)))
 obtain ⟨P, Q, w, R, S, x, y, A, B⟩ := Lib.laidMet.reads h (n := "quantum/block.magic") (d := Rows.laid_quantum_block_magic) (List.mem_cons_of_mem _ (List.mem_cons_of_mem _ (List.mem_cons_of_mem _ (List.mem_cons_self ..))))
 have f : Tryz.prog.globalNamed "quantum/crc.halves" = some 1 := by kernel_rfl
 have g : Tryz.prog.globalNamed "quantum/block.magic" = some 0 := by kernel_rfl
 obtain rfl:=Option.some.inj (f.symm.trans r)
 obtain rfl:=Option.some.inj (g.symm.trans x)
 have C:(Tryz.prog.globals[1]?).map (·.type)=some 405:=by kernel_rfl
 have D:(Tryz.prog.globals[0]?).map (·.type)=some 287:=by kernel_rfl
 obtain rfl:=Option.some.inj (C.symm.trans s)
 obtain rfl:=Option.some.inj (D.symm.trans y)
 have j:Tryz.prog.cellsOf 61=1:=by kernel_rfl
 have l:Tryz.prog.cellsOf 5=1:=by kernel_rfl
 have J:∀i v,p.toList[i]?=some v->W.cell? ⟨1,i,none⟩=some v:=λi v E=>by
  rw [World.var?_cell f t i];simpa using E
 have K:∀i v,w.toList[i]?=some v->W.cell? ⟨0,i,none⟩=some v:=λi v E=>by
  rw [World.var?_cell g A i];simpa using E
 have m:∀(F:List aiN) (i:Nat) (v:aiN),(F.drop (i*1)).take 1=[v]->F[i]?=some v:=by
  intro F i v h
  have:=congrArg (·[0]?) h
  simpa [List.getElem?_take,List.getElem?_drop] using this
 have o:∀k,k<16->W.cell? ⟨1,k,none⟩=some (.int .u32 ((tN.getD k 0:Nat):Int)):=by
  intro k G
  obtain ⟨L,d,q,H,ht⟩:=Lib.array_elem (n:=16) (e:=61) kr u k G
  rw [j] at ht
  have a:d= .lit (.int .u32 ((tN.getD k 0:Nat):Int)):=by
   have b:k=0\/k=1\/k=2\/k=3\/k=4\/k=5\/k=6\/k=7\/k=8\/k=9\/k=10\/k=11\/k=12\/k=13\/k=14\/k=15:=by omega
   rcases b with rfl|rfl|rfl|rfl|rfl|rfl|rfl|rfl|rfl|rfl|rfl|rfl|rfl|rfl|rfl|rfl<;>exact (Option.some.inj H).symm
  subst a
  obtain ⟨z,e1,e2,_⟩:=DataW.trod_int YO ht
  have e2:=congrArg Prod.fst e2
  simp only [DataW.lit.injEq,Lit.int.injEq,true_and] at e2
  exact J k _ (by rw [m _ _ _ e1,<-e2])
 have c:∀k,k<2->W.cell? ⟨0,k,none⟩=some (.int .u8 (([113,116].getD k 0:Nat):Int)):=by
  intro k G
  obtain ⟨L,d,q,H,ht⟩:=Lib.array_elem (n:=2) (e:=5) kr B k G
  rw [l] at ht
  have a:d= .lit (.int .u8 (([113,116].getD k 0:Nat):Int)):=by
   have b:k=0\/k=1:=by omega
   rcases b with rfl|rfl<;>exact (Option.some.inj H).symm
  subst a
  obtain ⟨z,e1,e2,_⟩:=DataW.trod_int FN ht
  have e2:=congrArg Prod.fst e2
  simp only [DataW.lit.injEq,Lit.int.injEq,true_and] at e2
  exact K k _ (by rw [m _ _ _ e1,<-e2])
 exact ⟨I,o,World.block_lt_of_cell? W _ (o 0 om),c 0 om,c 1 om,World.block_lt_of_cell? W _ (c 0 om)⟩
end
def zcd (n:Nat) (q:n<=1000000000000) (w:aiM):
    Calls abp 276 #[vN,vI n] w λr f=>(∃A c,r= .returned (.slice A 0 c)/\f.ownsRow w.heap.size 5 1 (.slice A 0 c) 0 [])/\Below w.heap.size w f:=by
 refine (iP Tryz.func276 27) ?_
 refine (dh 1∘bN 2∘aL∘Jj) (Ji (λe=>?_) λe=>?_)
 ·
  intro a Z b
  omega
 refine (aQ∘bN 2∘Jy (h:=by exact Yl.cap rfl rfl kr)∘Jp 1∘Jl∘Jv 2 [(14,vI (IntKind.i64.wrap ((n:Int)-0)))]∘Jo (vI n) (by exact zc om om)∘Jp 1∘aJ∘bg 2∘aL∘Jj) (Ji (λd=>?_) λd=>?_)
 ·
  refine (JT∘JR∘Jp 2∘Jy (h:=by exact Yl.cap rfl rfl kr)∘Jy (h:=by exact aah bA (j:=0) rfl rfl rfl om)∘Jp 1) λa Z b=>?_
  refine fo Z 5 rfl rfl ?_
  refine qpe Z b (kn:= .i64) (m:=n) rfl bA kr rfl rfl om om om rfl de ?_
  clear Z b;intro a l o p Z b g
  exact Jb Z b ((Jp 1∘Jl∘Jy (h:=by exact aah bA (j:=0) rfl rfl rfl om)∘Jp 1∘aJ∘Jq∘JC (h:=by exact λb=>(b.shrink (i:=0) (k:=0) rfl (abz _) (λh=>by cases h)).dG (i:=0) (ys:=[]) rfl (by simp))∘JG∘aM 2∘aL∘aP∘aW) λb=>by exact ⟨⟨_,_,rfl,b.own (i:=0) rfl⟩,b.below⟩)
 exact (aQ∘aM 2∘aL∘aP∘aW) λb=>by exact ⟨⟨_,_,rfl,acH _ _ _ _⟩,b.below⟩
abbrev aiK:Part:=⟨none,0,[]⟩
def q0w (A:aiW) (n c:Nat) (ps:List Part) (w:aiM) (hr:Rd w w.heap.size 1 A n (ps.map aaH)) (L:abo ps=n) (T:n<=1000000) (u:∀p∈ps,Rd w w.heap.size 1 p.A (abo p.l) (p.l.map B8)) (H:abo (ps.flatMap (·.l))<=1000000000000):
    Calls abp 229 #[.slice A n c] w (sD w (ps.flatMap (·.l))):=by
 refine (fE Tryz.func229 36) ?_
 refine (aM 1∘bg 1∘Jj∘bN 1∘Jl∘bM 1∘JB) λa Z b=>?_
 refine qg (λg y z=>∃(k:Nat),(k<=n)/\g=n-k/\Fr y 36 [] (ahY 11 k 10 n [(9,.slice A n c),(3,vI (abo ((ps.take k).flatMap (·.l)))),(2,vN),(0,.slice A n c)])/\Mem w z []) (m:=n-0) ⟨0,abz _,rfl,Z.sub kr,b.pk []⟩ ?_
 clear Z b;rintro g a M ⟨k,N,rfl,Z,b⟩
 have O:=F6 (l:=ps) k
 have I:=F6 (l:=ps) (k+1)
 refine Jb Z b ((dh 1∘JQ) (Ji (λj=>?_) λj=>?_))
 ·
  have J:k<n:=by omega
  refine (eY∘JP) ?_
  obtain ⟨gA,P,rfl,_⟩:=hr.sat k
  refine (iC k 1∘Jy (v:= .slice ((ps.getD k aiK).A) ((ps.getD k aiK).l.length) ((ps.getD k aiK).c)) (h:=by exact Pd rfl rfl kr (λ_ h=>(h.old hr).BS (k:=k) (vw (F:=aaH) (k:=k) (x:=(ps.getD k aiK)) ((getD_at aiK (k:=k) (by first|omega|(simp;omega)))))))∘Jp 1∘bU∘bg 2∘Jl∘Jp 1∘Jo (vI (abo ((ps.take (k+1)).flatMap (·.l)))) (by exact zc (by rw [F5 (d:=aiK) om,abq];omega) (by have:=F6 (l:=ps) (k+1);omega))∘Jp 1∘fJ∘bg 2∘aL∘Jj) (Ji (λo=>?_) λo=>?_)
  ·
   intro a Z b
   omega
  refine (aQ∘JR∘dA 1∘Jp 1∘aL∘Jq) λa Z b=>?_
  exact ⟨_,om,k+1,by omega,rfl,Z.sub kr,b.pk []⟩
 obtain rfl:n=k:=by omega
 refine (JF∘JX∘JG∘aM 1∘JL (h:=by exact λb=>zcd _ om _)) ?_
 rintro b _ Q ⟨⟨B,C,rfl,R⟩,D⟩
 refine ⟨_,rfl,_,b.cZ D R,?_⟩
 refine (Jp 1∘bU∘Jj∘bN 1∘Jl∘bM 1∘JB) λa Z b=>?_
 refine qg (λg y z=>∃(k:Nat) (E:aiW) (t:Nat),(k<=n)/\(abo ((ps.take k).flatMap (·.l))<=t)/\g=n-k/\Fr y 36 [] (ahY 27 k 26 n [(25,.slice A n c),(6,abl E ((ps.take k).flatMap (·.l)) t),(12,.bool false),(11,vI n),(10,vI n),(9,.slice A n c),(3,vI (abo ((ps.take n).flatMap (·.l)))),(2,vN),(0,.slice A n c)])/\Mem w z [abm E ((ps.take k).flatMap (·.l)) t B8 5 1]) (m:=n-0) ⟨0,B,C,abz _,abz _,rfl,Z.sub kr,b.pk [0]⟩ ?_
 clear Z b;rintro g a M ⟨k,E,t,N,G,rfl,Z,b⟩
 refine Jb Z b ((dh 1∘JQ) (Ji (λq=>?_) λq=>?_))
 ·
  have K:k<n:=by omega
  refine (eY∘JP) ?_
  obtain ⟨gA,P,rfl,_⟩:=hr.sat k
  refine (iC k 1∘Jy (v:= .slice ((ps.getD k aiK).A) ((ps.getD k aiK).l.length) ((ps.getD k aiK).c)) (h:=by exact Pd rfl rfl kr (λ_ h=>(h.old hr).BS (k:=k) (vw (F:=aaH) (k:=k) (x:=(ps.getD k aiK)) ((getD_at aiK (k:=k) (by first|omega|(simp;omega)))))))∘Jp 1∘bU∘Jj∘JR∘Jp 2∘JD ((ps.getD k aiK).l.map B8) 0 (λ_ _=>aO) bA (hr:=by exact λb=>b.old (u _ (qf _ om))) (h1:=by exact tK _) (hb:=by have:=F6 (l:=ps) (k+1);rw [F5 (d:=aiK) om,abq] at this;omega) (h63:=by have:=F6 (l:=ps) (k+1);rw [F5 (d:=aiK) om,abq] at this;omega)) λS r s f=>(Jp 1∘eP∘Jq) ?_
  have e:abo ((ps.take k).flatMap (·.l))+(ps.getD k aiK).l.length=abo ((ps.take (k+1)).flatMap (·.l)):=by rw [F5 (d:=aiK) om,abq]
  rw [e] at f
  refine (JC (h:=by exact λb=>b.bC (i:=0) (ys:=((ps.take (k+1)).flatMap (·.l)).map B8) rfl e (by rw [F5 (d:=aiK) om,abZ]))∘Jk 6 (.slice r (abo ((ps.take (k+1)).flatMap (·.l))) s) (h:=by exact iW e)∘JG∘JR∘dA 1∘Jp 1∘aL∘Jq) λa Z b=>?_
  exact ⟨_,om,k+1,r,s,by omega,f,rfl,Z.sub kr,b.pk [0]⟩
 obtain rfl:n=k:=by omega
 exact (JF∘JX∘JG∘aM 2∘aL∘aP∘aW) λb=>qrw (b.own (i:=0) rfl) G (by rw [abL om]) (by rw [abL om]) b.below
def qr7 {a b:List Ev} (h:a.take k=b.take k) (c:k<abo a) (hb:k<abo b) (d:a.getD k Ev.zero=b.getD k Ev.zero):a.take (k+1)=b.take (k+1):=by
 rw [adM,adM,getD_at Ev.zero c,getD_at Ev.zero hb,h,d]
def qvc {a b:List Ev} (h:a.take k=b.take k) (c:abo a<=k) (hb:abo b<=k):a=b:=by
 rwa [abL c,abL hb] at h
def q5e (A j:aiW) (n m c o:Nat) (es gs:List Ev) (w:aiM) (hr:Rd w w.heap.size 11 A n (es.flatMap fC)) (e:Rd w w.heap.size 11 j m (gs.flatMap fC)) (l:abo es=n) (r:abo gs=m) (D:n<=1000000000000):
    Calls abp 98 #[.slice A n c,.slice j m o] w (Is w (.bool (decide (es=gs)))):=by
 refine (iP Tryz.func98 26) ?_
 refine (dh 1∘bN 1∘Jl∘Jp 1∘Jl∘Jp 1∘fJ∘Jj) (Jh (λf=>?_) λf=>?_)
 ·
  exact (JT∘bE 1∘aW) λd=>by exact ⟨by rw [decide_eq_false (λh=>by rw [h] at l;omega)],d.below⟩
 refine (aQ∘bN 1∘Jl∘bM 1∘JB) λa Z d=>?_
 refine qg (λp s t=>∃(k:Nat),(k<=n)/\(es.take k=gs.take k)/\p=n-k/\Fr s 26 [] (ahY 13 k 12 n [(10,.bool false),aie,(0,.slice A n c),(1,.slice j m o)])/\Mem w t []) (m:=n-0) ⟨0,abz _,rfl,rfl,Z.sub kr,d.pk []⟩ ?_
 clear Z d;rintro p a E ⟨k,F,heq,rfl,Z,d⟩
 refine Jb Z d ((dh 1∘JQ) (Ji (λg=>?_) λg=>?_))
 ·
  have q:k<n:=by omega
  refine (eY∘aM 2∘aL∘Jj) λa Z d=>?_
  refine wp_seq ?_
  refine Jb Z d ((Vs .n []) λu=>(Vp [0,1,4,5]) ?_)
  obtain ⟨gA,G,rfl,_⟩:=hr.sat k
  refine (oq 2 k 11∘Vy 3 (v:= .agg ((es.getD k Ev.zero).cells)) (h:=by exact Pe rfl rfl ⟨kr,kr⟩ rfl (λ_ h=>(h.old hr).vv qbv ((getD_at Ev.zero (k:=k) (by first|omega|(simp;omega))))))) ?_
  obtain ⟨z,B,rfl,_⟩:=e.sat k
  refine (oq 6 k 11∘Vy 7 (v:= .agg ((gs.getD k Ev.zero).cells)) (h:=by exact Pe rfl rfl ⟨kr,kr⟩ rfl (λ_ h=>(h.old e).vv qbv ((getD_at Ev.zero (k:=k) (by first|omega|(simp;omega))))))∘Vy 8 (v:= .bool (!(decide ((es.getD k Ev.zero)=(gs.getD k Ev.zero))))) (h:=by exact aa1 (x:=(es.getD k Ev.zero)) (y:=(gs.getD k Ev.zero)) rfl rfl rfl kr)∘Vd∘aJ) (Ju (λb=>?_) λb=>?_)
  ·
   have i:=of_decide_eq_false ((acL _).mp b)
   exact (JT∘bE 1∘aW) λd=>by exact ⟨by rw [decide_eq_false (λh=>by rw [h] at b;simp at b)],d.below⟩
  have i:=of_decide_eq_true ((aec _).mp b)
  refine (aQ∘JR∘dA 1∘Jp 1∘aL∘Jq) λa Z d=>?_
  exact ⟨_,om,k+1,by omega,qr7 heq om om (by simpa using b),rfl,Z.sub kr,d.pk []⟩
 have C:k=n:=by omega
 exact (JF∘JX∘JG∘bE 1∘aW) λd=>by exact ⟨by rw [decide_eq_true (qvc heq om om)],d.below⟩
def q0x (c:Nat) (hc:c<4294967296) (A:aiW) (n cp:Nat) (l:List Nat) (B:Nat) (w:aiM) (g:aR B w) (i:B<=w.heap.size) (hr:Rd w w.heap.size 1 A n (l.map B8)) (r:abo l=n) (z:n<=140737488355328) (o:∀b∈l,b<256):
    Calls abp 238 #[vW c,.slice A n cp] w (Is w (vW (zm c l:Int))):=by
 refine (iP Tryz.func238 33) ?_
 refine (dh 1∘bN 1∘Jl∘bM 1∘JB) λa Z d=>?_
 refine qg (λp s t=>∃(k:Nat),(k<=n)/\p=n-k/\Fr s 33 [] (ahY 9 k 8 n [(7,.slice A n cp),(4,vW 0),(0,vW (zm c (l.take k)))])/\Mem w t []) (m:=n-0) ⟨0,abz _,rfl,Z.sub kr,d.pk []⟩ ?_
 clear Z d;rintro p a C ⟨k,D,rfl,Z,d⟩
 have f:=Mj (l.take k) hc (vD o k)
 refine Jb Z d ((dh 1∘JQ) (Ji (λe=>?_) λe=>?_))
 ·
  refine (eY∘JP) ?_
  obtain ⟨gA,E,rfl,_⟩:=hr.sat k
  refine (iC k 1∘JH (getD_lt o (k:=k) (by first|omega|(simp;omega)))) λu=>(Jy (h:=by exact aad hr k 0 (by first|omega|(simp;omega)) rfl rfl)∘Jp 1∘bU∘bg 2∘Jw .u32∘Jp 1∘Jo (vW ((zm c (l.take k))^^^ (l.getD k 0):Nat)) (by exact Mg (m:=zm c (l.take k)) (n:=(l.getD k 0)) om om)∘Jp 1∘fJ∘Jq) ?_
  have x:=F8 f (show l.getD k 0<4294967296 by omega)
  refine (JG∘aM 2∘Jo (vW (((zm c (l.take k))^^^ (l.getD k 0))/16:Nat)) (by exact uI .u32 ((zm c (l.take k))^^^ (l.getD k 0)) (j:=4) (q:=16) rfl rfl)∘Jp 2∘Jo (vW (((zm c (l.take k))^^^ (l.getD k 0))%16:Nat)) (by exact Xt (n:=15) (j:=4) rfl de om)∘Jy (v:=vP 1 ((((zm c (l.take k))^^^ (l.getD k 0))%16)*1)) (h:=by exact (Yl.tL (ad:=⟨1,0,none⟩) (m:=16) (y:=((zm c (l.take k))^^^ (l.getD k 0))%16) (sz:=1) rfl rfl rfl kr om).as (by rw [acI,aci]))∘Jy (v:=vW (tN.getD (((zm c (l.take k))^^^ (l.getD k 0))%16) 0)) (h:=by exact Pd rfl rfl kr (λ_ h=>YK g h i (k:=(((zm c (l.take k))^^^ (l.getD k 0))%16)) om))∘Jp 1∘Jo (vW (rP (zm c (l.take k)^^^l.getD k 0))) (by have h:=Mg (m:=(zm c (l.take k)^^^l.getD k 0)/16) (n:=tN.getD ((zm c (l.take k)^^^l.getD k 0)%16) 0) om (P9 _ om);exact h)∘Jp 1∘aJ∘Jq) ?_
  have hz:=zmv x
  refine (JG∘JR∘Jp 2∘Jo (vW ((rP (zm c (l.take k)^^^l.getD k 0))/16:Nat)) (by exact uI .u32 (rP (zm c (l.take k)^^^l.getD k 0)) (j:=4) (q:=16) rfl rfl)∘Jp 2∘Jo (vW ((rP (zm c (l.take k)^^^l.getD k 0))%16:Nat)) (by exact Xt (n:=15) (j:=4) rfl de om)∘Jy (v:=vP 1 (((rP (zm c (l.take k)^^^l.getD k 0))%16)*1)) (h:=by exact (Yl.tL (ad:=⟨1,0,none⟩) (m:=16) (y:=(rP (zm c (l.take k)^^^l.getD k 0))%16) (sz:=1) rfl rfl rfl kr om).as (by rw [acI,aci]))∘Jy (v:=vW (tN.getD ((rP (zm c (l.take k)^^^l.getD k 0))%16) 0)) (h:=by exact Pd rfl rfl kr (λ_ h=>YK g h i (k:=((rP (zm c (l.take k)^^^l.getD k 0))%16)) om))∘Jp 1∘Jo (vW (zm c (l.take (k+1)))) (by have h:=Mg (m:=rP (zm c (l.take k)^^^l.getD k 0)/16) (n:=tN.getD (rP (zm c (l.take k)^^^l.getD k 0)%16) 0) om (P9 _ om);rw [quv om];exact h)∘Jp 1∘aJ∘Jj∘JR∘dA 1∘Jp 1∘aL∘Jq) λa Z d=>?_
  exact ⟨_,om,k+1,by omega,rfl,Z.sub kr,d.pk []⟩
 obtain rfl:n=k:=by omega
 exact (JF∘JX∘JG∘aM 2∘aL∘aP∘aW) λd=>by exact ⟨by rw [abL om],d.below⟩
def q0y (c:Nat) (a:c<4294967296) (A:aiW) (n cp:Nat) (l:List Nat) (B:Nat) (w:aiM) (i:aR B w) (f:B<=w.heap.size) (hr:Rd w w.heap.size 1 A n (l.map B8)) (d:abo l=n) (j:n<=140737488355328) (g:∀b∈l,b<256):
    Calls abp 167 #[vW c,.slice A n cp] w (Is w (vW ((zm (c^^^4294967295) l^^^4294967295:Nat):Int))):=by
 refine (iP Tryz.func167 10) ?_
 refine (aM 1∘Jq) ?_
 have hc:=F8 a (show 4294967295<4294967296 by decide)
 have k:=Mj l hc g
 exact (JG∘aM 1∘Jy (v:=vW (c^^^4294967295:Nat)) (h:=by exact aaQ (m:=c) rfl rfl om)∘Jp 1∘JI (h:=by exact λe=>q0x _ hc _ _ _ l B _ (i.mem e f) (e.le f) (e.old hr) d j g)) λp o=>(Jy (v:=vW ((zm (c^^^4294967295) l)^^^4294967295:Nat)) (h:=by exact aaQ (m:=zm (c^^^4294967295) l) rfl rfl om)∘Jp 1∘lq∘aP) tT
def YP (A:aiW) (n cp:Nat) (l:List Nat) (B:Nat) (w:aiM) (g:aR B w) (e:B<=w.heap.size) (hr:Rd w w.heap.size 1 A n (l.map B8)) (c:abo l=n) (i:n<=140737488355328) (f:∀b∈l,b<256):
    Calls abp 108 #[.slice A n cp] w (Is w (vW (zy l:Int))):=by
 refine (fE Tryz.func108 5) ?_
 refine (aM 1∘bg 1∘JL (h:=by exact λa=>q0y 0 de _ _ _ l B _ (g.mem a e) (a.le e) (a.old hr) c i f)) ?_
 rintro a _ j ⟨rfl,d⟩
 rw [show (zm (0^^^4294967295) l^^^4294967295:Nat)=zy l from zbf (Mj l de f)]
 refine ⟨_,rfl,_,a.call d,?_⟩
 exact (Jp 1∘bU∘aP) tT
def zi0 (b:abo l=n) (a:W.ownsRow w.heap.size 5 1 (.slice A (0+n+4) c) (0+n+4) ([]++l.map B8++(rA (zy l)).map B8)) (hc:0+n+4<=c) (hb:Below w.heap.size w W):mh w 0 (aY l) (.returned (.tuple #[.slice A (0+n+4) c,vI 0])) W:=by
 have e:0+n+4=abo (aY l):=by rw [pY];omega
 rw [e] at a hc⊢
 refine ⟨⟨A,c,rfl,?_,hc⟩,hb⟩
 have e2:([]++l.map B8++(rA (zy l)).map B8)=(aY l).map B8:=by simp [aY]
 rw [e2] at a
 exact a
def QF (A:aiW) (n cp:Nat) (l:List Nat) (B:Nat) (w:aiM) (p:aR B w) (k:B<=w.heap.size) (hr:Rd w w.heap.size 1 A n (l.map B8)) (d:abo l=n) (I:n<=16777216) (r:∀b∈l,b<256):
    Calls abp 48 #[.slice A n cp] w (mh w 0 (aY l)):=by
 refine (fE Tryz.func48 31) ?_
 refine (dh 2∘bN 1∘Jl∘Jp 1∘bU∘Jj) (Ji (λg=>?_) λg=>?_)
 ·
  intro a Z c
  omega
 refine (aQ∘aM 1∘JI (h:=by exact λc=>YP _ _ _ l B _ (p.mem c k) (c.le k) (c.old hr) (d) om (r))) λs t=>(Jp 1∘bU∘Jq) ?_
 have u:=XG l
 refine (JG∘aM 1∘Jl∘dA 4) λa Z c=>?_
 refine fo Z 3 rfl rfl ?_
 refine zie Z c (m:=(n+4)) rfl bA rfl rfl om om rfl de ?_
 clear Z c;intro a v x Z c
 exact Jb Z c ((Jp 1∘JD (l.map B8) 0 (λ_ _=>aO) bA (hr:=by exact λc=>c.old hr) (h1:=by exact tK _)) λy z C o=>(Jp 1∘aJ∘bg 2∘Jv 1 [(19,vB (IntKind.u8.wrap (zy l:Int)))]∘Jo (vB ((zy l)%256:Nat)) (by exact Em (zy l))∘Jp 2∘Jo (vW ((zy l)/256:Nat)) (by exact uI .u32 (zy l) (j:=8) (q:=256) rfl rfl)∘Jv 1 [(22,vB (IntKind.u8.wrap (((zy l)/256:Nat):Int)))]∘Jo (vB (((zy l)/256)%256:Nat)) (by exact Em ((zy l)/256))∘Jp 2∘Jo (vW ((zy l)/65536:Nat)) (by exact uI .u32 (zy l) (j:=16) (q:=65536) rfl rfl)∘Jv 1 [(25,vB (IntKind.u8.wrap (((zy l)/65536:Nat):Int)))]∘Jo (vB (((zy l)/65536)%256:Nat)) (by exact Em ((zy l)/65536))∘Jp 2∘Jo (vW ((zy l)/16777216:Nat)) (by exact uI .u32 (zy l) (j:=24) (q:=16777216) rfl rfl)∘Jv 1 [(28,vB (IntKind.u8.wrap (((zy l)/16777216:Nat):Int)))]∘Jo (vB (((zy l)/16777216)%256:Nat)) (by exact Em ((zy l)/16777216))∘JU bA #[vB ((zy l)%256:Nat),vB (((zy l)/256)%256:Nat),vB (((zy l)/65536)%256:Nat),vB (((zy l)/16777216)%256:Nat)]) λD E=>(JD ((rA (zy l)).map B8) 1 (λ_ _=>gu) bA (hr:=by exact λc=>c.bB (i:=0) (n:=4) (size:=1) rfl rfl) (h1:=by exact tK _)) λF G H e=>(bM 2∘JZ∘JM (.f .n)∘bW) λc=>zi0 d (c.own (i:=0) rfl) e c.below)
def q0z (b:abo l=n) (h:4<=n):(((zy (l.take (n-4)):Nat):Int)==((l.getD (n-4) 0+l.getD (n-4+1) 0*256+l.getD (n-4+2) 0*65536+l.getD (n-4+3) 0*16777216:Nat):Int))=zn l:=by
 subst b
 have a:∀i,(l.drop (abo l-4)).getD i 0=l.getD (abo l-4+i) 0:=λi=>by rw [abt,adL,<-abt]
 unfold zn jZ
 rw [a,a,a,a,ab3,beq_iff_eq,decide_eq_true_eq]
 simp only [acK]
 constructor
 ·intro c;exact ⟨h,by omega⟩
 ·intro c;have:=c.2;omega
def qr8 (a:abo l=n) (h:n<4):zn l=false:=by unfold zn;rw [decide_eq_false];omega
def ku (l:List Nat):Nat->Nat
 |0=>0
 |k+1=>ku l k*256+l.getD (3-k) 0
def YQ (l:List Nat):ku l 4=jZ l:=by simp [ku,jZ];omega
def YR {l:List Nat} (a:∀b∈l,b<256) (c:4<=abo l):∀k,k<=4->ku l k<256^k
 |0,_=>by show 0<1;decide
 |k+1,h=>by
  have d:=YR a c k om
  have e:=getD_lt a (k:=3-k) om
  rw [ku,agP]
  omega
def qvd (a:∀b∈l,b<256) (c:4<=abo l) {k:Nat} (h:k<=4):ku l k<4294967296:=by
 have d:=YR a c k h
 have e:(256:Nat)^k<=256^4:=Nat.pow_le_pow_right de h
 omega
def QG (A:aiW) (n cp:Nat) (l:List Nat) (B:Nat) (w:aiM) (s:aR B w) (g:B<=w.heap.size) (hr:Rd w w.heap.size 1 A n (l.map B8)) (hc:n<=cp) (d:abo l=n) (x:n<=140737488355328) (e:∀b∈l,b<256):
    Calls abp 53 #[.slice A n cp] w (Is w (.bool (zn l))):=by
 refine (fE Tryz.func53 43) ?_
 refine (aM 1∘bg 1∘Jl∘Jp 1∘Jo (vI ((n:Int)-4)) (by exact nD ⟨by omega,by omega⟩)∘Jp 1∘eP∘Jj∘bN 2∘aL∘Jj) (Ji (λf=>?_) λf=>?_)
 ·
  exact (JT∘bE 1∘aW) λc=>by exact ⟨by rw [qr8 d om],c.below⟩
 refine (Jk 3 (vI ((n-4:Nat):Int)) (h:=by congr 1;omega)∘aQ) λa Z c=>?_
 refine wp_seq ?_
 refine Jb Z c ((Vs .n []) λt=>(Vp [0,1,4,5,9,10,17,18,25,26]∘Vy 2 (h:=by exact aah bA (j:=n-4) rfl rfl rfl om)) ?_)
 obtain ⟨gA,y,rfl,_⟩:=hr.sat (n-4)
 exact (oq 6 (n-4) 1∘VH (getD_lt e (k:=(n-4)) (by first|omega|(simp;omega)))) λi=>(Vy 7 (h:=by exact aad hr (n-4) 0 (by first|omega|(simp;omega)) rfl rfl)∘Vw 8 .u32∘xV 11 1∘oq 12 ((n-4)+1) 1∘VH (getD_lt e (k:=((n-4)+1)) (by first|omega|(simp;omega)))) λo=>(Vy 13 (h:=by exact aad hr ((n-4)+1) 0 (by first|omega|(simp;omega)) rfl rfl)∘Vw 14 .u32∘Vp [15]∘Vo (vW ((l.getD ((n-4)+1) 0)*256:Nat)) (by exact BX (by rw [show (2:Int)^ (min (8:Int).toNat (af2).bits)=256 from rfl];omega) om)∘Vp [16]∘Vo (vW (l.getD (n-4) 0+l.getD (n-4+1) 0*256:Nat)) (by exact PZ (m:=l.getD (n-4) 0) (n:=l.getD (n-4+1) 0) (j:=8) (p:=256) rfl om om)∘xV 19 2∘oq 20 ((n-4)+2) 1∘VH (getD_lt e (k:=((n-4)+2)) (by first|omega|(simp;omega)))) λq=>(Vy 21 (h:=by exact aad hr ((n-4)+2) 0 (by first|omega|(simp;omega)) rfl rfl)∘Vw 22 .u32∘Vp [23]∘Vo (vW ((l.getD ((n-4)+2) 0)*65536:Nat)) (by exact BX (by rw [show (2:Int)^ (min (16:Int).toNat (af2).bits)=65536 from rfl];omega) om)∘Vp [24]∘Vo (vW (l.getD (n-4) 0+l.getD (n-4+1) 0*256+l.getD (n-4+2) 0*65536:Nat)) (by exact PZ (m:=l.getD (n-4) 0+l.getD (n-4+1) 0*256) (n:=l.getD (n-4+2) 0) (j:=16) (p:=65536) rfl om om)∘xV 27 3∘oq 28 ((n-4)+3) 1∘VH (getD_lt e (k:=((n-4)+3)) (by first|omega|(simp;omega)))) λr=>(Vy 29 (h:=by exact aad hr ((n-4)+3) 0 (by first|omega|(simp;omega)) rfl rfl)∘Vw 30 .u32∘Vp [31]∘Vo (vW ((l.getD ((n-4)+3) 0)*16777216:Nat)) (by exact BX (by rw [show (2:Int)^ (min (24:Int).toNat (af2).bits)=16777216 from rfl];omega) om)∘Vp [32]∘Vo (vW (l.getD (n-4) 0+l.getD (n-4+1) 0*256+l.getD (n-4+2) 0*65536+l.getD (n-4+3) 0*16777216:Nat)) (by exact PZ (m:=l.getD (n-4) 0+l.getD (n-4+1) 0*256+l.getD (n-4+2) 0*65536) (n:=l.getD (n-4+3) 0) (j:=24) (p:=16777216) rfl om om)∘VI 3 .n (h:=by exact λc=>YP _ _ _ (l.take (n-4)) B _ (s.mem c g) (c.le g) ((c.old hr).BU om) (by rw [abx];omega) om (vD e _))) λu v=>(Vp [33,34]∘Vd∘aJ∘JZ∘aW) λc=>by exact ⟨by rw [q0z d om],c.below⟩
def GH {e:Nat} (h:bq l=(n,e)) (hb:Below w.heap.size w W):Is w (.tuple #[vI ((bq l).1:Int),vI ((bq l).2:Int)]) (.returned (.tuple #[vI n,vI e])) W:=by rw [h];exact ⟨rfl,hb⟩
def q00 (A:aiW) (n cp:Nat) (l:List Nat) (w:aiM) (hr:Rd w w.heap.size 1 A n (l.map B8)) (r:abo l=n) (z:n<=9223372036854775807) (o:∀b∈l,b<256):
    Calls abp 181 #[.slice A n cp] w (Is w (.tuple #[vI ((bq l).1:Int),vI ((bq l).2:Int)])):=by
 refine (fE Tryz.func181 34) ?_
 refine (dh 2∘bN 1∘Jl∘Jp 1∘bU∘Jj) (Ji (λi=>?_) λi=>?_)
 ·
  exact (JT∘bE 2∘bW) λc=>GH (by unfold bq;rw [if_pos om]) c.below
 refine (aQ∘dh 1∘JQ∘dh 1∘JB) λa Z c=>?_
 refine qg (λq s t=>∃(k:Nat),(k<=4)/\q=4-k/\Fr s 34 [] (ahY 5 (3- (k:Int)) 4 (ku l k) [(8,.bool false),(3,vI 0),(2,vI 0),(0,.slice A n cp)])/\Mem w t []) (m:=4-0) ⟨0,abz _,rfl,Z.sub kr,c.pk []⟩ ?_
 clear Z c;rintro q a B ⟨k,u,rfl,Z,c⟩
 have v:=qvd o om u
 refine Jb Z c ((bN 2∘aL∘Jj) (Ji (λd=>?_) λd=>?_))
 ·
  have x:k<=3:=by omega
  refine (eY∘JR∘Jp 2∘Jo (vI ((ku l k)*256:Nat)) (by exact zc (by rw [show (2:Int)^ (min (8:Int).toNat (IntKind.i64).bits)=256 from rfl];omega) om)∘Jp 2∘Jo (vI (3-k:Nat)) (by congr 1;omega)) ?_
  obtain ⟨gA,C,rfl,_⟩:=hr.sat (3-k)
  refine (iC (3-k) 1∘JH (getD_lt o (k:=(3-k)) (by first|omega|(simp;omega)))) λy=>(Jy (h:=by exact aad hr (3-k) 0 (by first|omega|(simp;omega)) rfl rfl)∘Jw .i64∘Jp 1∘Jo (vI (ku l (k+1))) (by have h:=zbc (m:=ku l k) (n:=l.getD (3-k) 0) (j:=8) (p:=256) rfl om om;exact h)∘Jp 1∘aJ∘Jj∘JR∘Jp 2∘Jo (vI (3- ((k+1:Nat):Int))) (by rw [IntWalk.i64_in _ om];congr 1;omega)∘Jp 1∘bU∘Jq) λa Z c=>?_
  exact ⟨_,om,k+1,by omega,rfl,Z.sub kr,c.pk []⟩
 obtain rfl:k=4:=by omega
 refine (Jk 4 (vI (jZ l:Int)) (h:=by rw [YQ])) ?_
 rw [YQ] at v
 refine (JF∘JX∘JG∘JQ∘JB∘aM 3) (Ji (λe=>?_) λe=>?_)
 ·
  exact (Jp 4∘aJ∘Jj∘JT∘bE 2∘bW) λc=>GH (by unfold bq;rw [if_neg om,if_pos om]) c.below
 refine (Jp 4∘aJ∘Jj) (Ji (λf=>?_) λf=>?_)
 ·
  exact (JT∘bE 2∘bW) λc=>GH (by unfold bq;rw [if_neg om,if_pos om]) c.below
 refine (JF∘aM 2∘Jl∘Jp 2∘fJ∘Jj) (Ji (λg=>?_) λg=>?_)
 ·
  exact (JT∘bE 2∘bW) λc=>GH (by unfold bq;rw [if_neg om,if_neg om,if_pos om]) c.below
 exact (aQ∘bE 3∘bW) λc=>GH (by unfold bq;rw [if_neg om,if_neg om,if_neg om]) c.below
end Go.Proofs.YtekiimhdnigmcaaGreatDoor
