/- Parts. -/
import Derived.Laws.StructEq
import Derived.Test.YtekiimhdnigmcaaGreatDoorRows
import Derived.Test.YtekiimhdnigmcaaGreatDoorQgZ2
set_option linter.all false
set_option maxRecDepth 100000
set_option maxHeartbeats 1000000
namespace Go.Proofs.YtekiimhdnigmcaaGreatDoor
open Go.RowKit
open Go renaming World→ajg,Value→ajh,Program→aji,TypeId→ajj,Ending→ajk,Operand→ajl,Oper→ajm
open List renaming length→abr
open _root_.Go.Proofs.Tryz renaming prog→abt
open _root_.List renaming length_append→abu,getElem?_eq_getElem→abv,getD_eq_getElem?_getD→abw,append_assoc→aby,length_map→abz,length_take→abA,length_drop→abE,replicate→abG,mem_of_getElem?→abK,take_of_length_le→abM,append_nil→abN,flatMap_cons→abO,mem_of_mem_drop→abQ,length_cons→abS,map_append→abW,mem_cons→abX,flatMap_append→abZ,mem_map→ab7,all_eq_true→ace,mem_append→acg,mem_cons_self→aci,drop_eq_getElem_cons→acv,range→acw,eq_nil_of_length_eq_zero→acz,drop_drop→acH,getElem?_map→acQ,nil_append→acX,getElem?_drop→adn,take_add_one→adx,map_nil→adF,drop_eq_nil_of_le→adG,mem_range→aei,length_nil→aes,cons_append→aeu,length_singleton→ae4,getElem?_cons_zero→agf,flatMap_singleton→agn,all_append→aha
open Nat renaming le_refl→abx,zero_le→abC,lt_or_ge→ab0,zero_add→ab9,add_zero→acN,mul_one→ac5,add_sub_cancel→adt,mod_lt→adJ,succ_mul→adK,add_comm→ae5,mul_succ→ae6,pow_succ→afH
open _root_.ByteArray renaming mk→abB
open Result renaming andThen_ok→abD
open Bool renaming and_eq_true→abH,eq_iff_iff→ab3,true_and→acj,not_eq_true'→acP,not_eq_false'→aem,not_eq_true→agY
open Sem renaming run_bind→abJ,run_pure→abR
open Value renaming bool→abP,int→abT
open Fence renaming wide→acf
open _root_.Array renaming length_toList→acD
open World renaming ownsRow_nil→acK,cell?→aep,block_lt_of_cell?→aeE,var?_cell→agZ
open Addr renaming add_mid→acL
open Op renaming equal→adl
open IntKind renaming wrap_u64→ad3,u32→agi
open Lib renaming array_elem→ahv
variable {l R:List Nat} {m i x k c n g er B:Nat} {w W w':ajg} {A:ajq} {t:ajj} {fs:List ajr} {e:Ev} {P:aji}
abbrev aiV:=λa b=>((43,.bool false)::(40,.bool false)::(2,.bool false)::(1,vP a 0)::b:List (Nat×ajh))
abbrev ajb:Array ajh:=#[vI 0,vI 0,vI 0,vI 0,vQ 0,.bool false,vQ 0,vW 0]
def q2d (x:aF) (U:x.ay.Ok) (K:cZ x) (w:ajg) (L:fC w x):
    Calls abt 160 #[.agg x.cells] w (Is w (.bool (og x.ay))):=by
 have hfs:=K.s;have hft:=K.t;have hfg:=K.g;have hfl:=K.l;have hfu:=K.u
 refine (fE Tryz.func160 123) ?_
 refine (JP∘JE) λw1 g1=>(bO 1∘JQ∘JP∘Jf 0∘Jy (v:= .agg #[vI x.au,vQ x.aj,abo x.gA x.gs x.gc]) (h:=by exact Pe rfl rfl zQ rfl (λ_ h=>h.sub (i:=0) rfl 0 rfl))∘JI (h:=by exact λb=>qf7 x U K _ (L.old b))) λvD B=>(Jp 2) (Ju (λC=>?_) λC=>?_)
 ·
  exact (Jv 27 [(40,.bool true)]∘kV∘Jj∘JT∘bB 1∘aW) λb=>dA (zpd (by simpa using C)).symm b.below
 have hcf:gL x.ay=true:=by simpa using C
 obtain ⟨hc1,hc2,hc3,hgs⟩:=mX hcf
 have hcp:1<=x.au/\x.au<=64:=⟨hc1,hc2⟩
 refine (Jg 3 O0∘Jl∘Jf 0∘Jg 0 O0∘Jp 3) (Jh (λSk=>?_) λSk=>?_)
 ·
  exact (Jv 18 [(40,.bool true)]∘aI∘Jj∘JT∘bB 1∘aW) λb=>dA (R8 om).symm b.below
 refine (Jg 4 O0∘Jl∘Jf 0∘Jg 0 O0∘Jp 3) (Jh (λhd31=>?_) λhd31=>?_)
 ·
  exact (Jv 9 [(40,.bool true)]∘aI∘Jj∘JT∘bB 1∘aW) λb=>dA (R8 om).symm b.below
 refine (Jg 6 O0∘Jl∘Jf 0∘Jg 2 O0∘Jl∘Jp 2∘aI∘Jj) (Jh (λDu=>?_) λDu=>?_)
 ·
  exact (JT∘bB 1∘aW) λb=>dA (R8 om).symm b.below
 refine (aP∘JQ∘JP∘Jg 3 O0∘JI (h:=by exact λb=>qnr x.lA x.lc x.cl _ (b.old L.l) K.l)) λSl B=>(aL∘Jj) (Ju (λD=>?_) λD=>?_)
 ·
  exact (JT∘bB 1∘aW) λb=>dA (Im (by simpa using D)).symm b.below
 have hcl:iO (abr x.cl) (λc=>iV (x.cl.getD c 0))=true:=by simpa using D
 refine (aP∘JQ∘JP∘Jg 6 O0∘Jl∘bO 1∘JB) λa Z b=>?_
 refine qg (λQ M N=>∃(g:Nat),(g<=abr x.rs)/\(gK g (rowOk x.ay))/\Q=abr x.rs-g/\Fr M 123 [] (ah8 47 g 46 (abr x.rs) ((45,abo x.sA x.rs x.sc)::aiV g1 []))/\Mem w N [.blk g1 x.cells 48]) (m:=abr x.rs-0) ⟨0,abC _,gK.zero,rfl,Z.sub kr,b.pk [0]⟩ ?_
 clear Z b;rintro Q a w_ ⟨g,hg,hu,rfl,Z,b⟩
 refine Jb Z b ((cB 1∘JQ) (Ji (λSn=>?_) λSn=>?_))
 ·
  have d:g<abr x.rs:=by omega
  obtain ⟨y,O⟩:∃z,x.rs.getD g Rw.zero=z:=⟨_,rfl⟩
  have tH:Rd w w.heap.size 3 y.A (abr y.l) (y.l.flatMap ji):=by rw [<-O];exact L.row d
  have hyl:abr y.l<=1000000:=by rw [<-O];exact K.r _ (qf Rw.zero d)
  have nU:∀z∈y.l,z.Ok:=by rw [<-O,<-kH d];exact U.sp _ (qf [] (by rw [lX];exact d))
  obtain ⟨wt,E⟩:∃z,(x.gs.getD g Gr.zero).weight=z:=⟨_,rfl⟩
  have hw1:=qR hgs (show g<abr x.gs by omega)
  rw [E] at hw1
  obtain ⟨IG,II,hq1,_⟩:=Rd.sat L.g g
  have R:=L.g;rw [hq1] at R
  refine (eP∘aM 1) ?_
  obtain ⟨V,W,X,_⟩:=Rd.sat L.s g
  have S:=L.s;rw [X] at S
  refine (Jk 45 (.slice (some ⟨V,W,none⟩) (abr x.rs) x.sc) (h:=by rw [X];try rfl)∘iF g 1∘Jy (v:= .slice ((x.rs.getD g Rw.zero).A) ((x.rs.getD g Rw.zero).l.length) ((x.rs.getD g Rw.zero).c)) (h:=by exact aad S g Rw.zero (by first|omega|(simp;omega)) rfl rfl)∘Jo (.slice y.A (abr y.l) y.c) (by rw [O])∘bO 2∘bM 1∘Jl∘Jf 0∘Jg 0 O0∘Jp 1∘fK∘Jj) (Jh (λDv=>?_) λDv=>?_)
  ·
   exact (JT∘bB 1∘aW) λb=>dA (zif d (zk7 d (by rw [O];omega))).symm b.below
  refine (aP∘aM 1∘Jl∘bO 1∘JB) λa Z b=>?_
  refine qg (λQ M N=>∃(c:Nat),(c<=abr y.l)/\(gK c (λc=>fq x.ay g (y.l.getD c Sp.zero)))/\Q=abr y.l-c/\Fr M 123 [] (ah8 60 c 59 (abr y.l) ((58,abo y.A y.l y.c)::(57,.bool false)::(4,abo y.A y.l y.c)::(3,vI g)::(45,abo (some ⟨V,W,none⟩) x.rs x.sc)::(48,.bool true)::ah8 47 g 46 (abr x.rs) (aiV g1 [])))/\Mem w N [.blk g1 x.cells 48]) (m:=abr y.l-0) ⟨0,abC _,gK.zero,rfl,Z.sub kr,b.pk [0]⟩ ?_
  clear Z b;rintro Q a w_ ⟨c,hc,hu2,rfl,Z,b⟩
  refine Jb Z b ((cB 1∘JQ) (Ji (λDw=>?_) λDw=>?_))
  ·
   have F:c<abr y.l:=by omega
   obtain ⟨z,hz⟩:∃q,y.l.getD c Sp.zero=q:=⟨_,rfl⟩
   have Y:=nU _ (qf Sp.zero F)
   rw [hz] at Y
   have hzv:=Y.v;have hzr:=Y.r
   refine (eP∘JP) ?_
   obtain ⟨Dx,Dy,hq3,_⟩:=Rd.sat tH c
   have T:=tH;rw [hq3] at T
   refine (Jk 58 (.slice (some ⟨Dx,Dy,none⟩) (abr y.l) y.c) (h:=by rw [hq3];try rfl)∘iF c 3∘qM Sp.cells zP T mh c Sp.zero (hk:=F)∘Jo (.agg z.cells) (by rw [hz])∘JA #[vQ 0,vW 0,vQ 0]) λw6 g6=>(JV mh aN (h1:=by exact zie z)) λIJ=>(bU∘Jj) λa Z b=>?_
   refine qz (λM N=>Fr M 123 [] ((91,.bool (!fq x.ay g z))::(6,vP g6 0)::(58,abo (some ⟨Dx,Dy,none⟩) y.l y.c)::(61,.bool true)::ah8 60 c 59 (abr y.l) ((57,.bool false)::(4,abo y.A y.l y.c)::(3,vI g)::(45,abo (some ⟨V,W,none⟩) x.rs x.sc)::(48,.bool true)::ah8 47 g 46 (abr x.rs) (aiV g1 [])))/\Mem w N [.blk g6 z.cells 200,.blk g1 x.cells 48]) ?_ ?_
   ·
    refine Jb Z b ((Vs .n []) λIK=>(Vf 0 0∘Vf 2 1∘Vf 4 0∘Vf 5 2∘Vp [7]∘Vc 1 O0∘Vc 3 O0∘Vc 6 O1) λa Z b e=>?_)
    replace Z:=Z.sp 70 (abo (some ⟨IG,II,none⟩) x.gs x.gc) rfl (by rw [hq1];try rfl)
    refine Vb Z b e ((oL 8 g 2∘Vf 9 1∘GH 10 qC R 1 g Gr.zero∘Vo (vI wt) (by rw [E])∘VI 11 .n (h:=by exact λb=>zk z.v z.r wt om _)) λw75 B=>(VI 12 .n (h:=by exact λb=>Sj z.v z.r wt om om om _)) λw76 B=>(Vp [13,14]) λa Z b e=>?_)
    rcases Z.tf 78 rfl with ⟨p,Z⟩|⟨p,Z⟩
    ·
     refine Vb Z b e ((Vq [15,16,17,18,19,20,21,22,23,24,25,26,27] [(91,.bool true)]∘Vd∘aI) λa Z b=>?_)
     have Z:=Z.sp 91 (.bool (!fq x.ay g z)) rfl (congrArg abP (by rw [zpf (by rw [E];simpa using p)];rfl))
     exact ⟨Z.sub kr,b.pk [0,1]⟩
    refine ap Z (λ_=>e) [15,16,17] (bt 28 [18,19,20,21,22,23,24,25,26,27]) [(81,.bool ((g:Int)==(0:Int)))] λa Z=>?_
    refine Jb Z b (Je (λDj=>?_) λDj=>?_)
    ·
     intro a Z b
     refine ap Z (λ_=>e) [18] (bt 28 [19,20,21,22,23,24,25,26,27]) [(82,vP g6 0)] λa Z=>?_
     refine dJ Z e 19 0 (v:=vQ z.v) λa Z=>?_
     refine ap Z (λ_=>e) [20,21] (bt 28 [22,23,24,25,26,27]) [(85,.bool ((z.v:Int) !=(0:Int)))] λa Z=>?_
     refine Jb Z b (Jh (λSq=>?_) λSq=>?_)
     ·
      intro a Z b
      refine ap Z (λ_=>e) [22,23,24,25,26,27] (bt 28 []) [(91,.bool true)] λa Z=>?_
      refine qe kr ?_
      have Z:=Z.sp 91 (.bool (!fq x.ay g z)) rfl (congrArg abP (by rw [zpg om om];rfl))
      exact ⟨Z.sub kr,b.pk [0,1]⟩
     intro a Z b
     refine ap Z (λ_=>e) [22] (bt 28 [23,24,25,26,27]) [(86,vP g6 1)] λa Z=>?_
     refine dJ Z e 23 0 (v:=vW z.r) λa Z=>?_
     refine ap Z (λ_=>e) [24,25,26,27] (bt 28 []) [(91,.bool ((z.r:Int) !=(0:Int)))] λa Z=>?_
     refine qe kr ?_
     have Z:=Z.sp 91 (.bool (!fq x.ay g z)) rfl (congrArg abP (zla (by rw [E];simpa using p) om om))
     exact ⟨Z.sub kr,b.pk [0,1]⟩
    intro a Z b
    refine ap Z (λ_=>e) [18,19,20,21,22,23,24,25,26,27] (bt 28 []) [(91,.bool false)] λa Z=>?_
    refine qe kr ?_
    have Z:=Z.sp 91 (.bool (!fq x.ay g z)) rfl (congrArg abP (by rw [zk9 (by rw [E];simpa using p) om];rfl))
    exact ⟨Z.sub kr,b.pk [0,1]⟩
   clear Z b;rintro a wB ⟨Z,b⟩
   refine Jb Z b (Ju (λG=>?_) λG=>?_)
   ·
    exact (JT∘bB 1∘aW) λb=>dA (zif d (zk8 d (by rw [O];exact F) (by rw [O,hz];simpa using G))).symm b.below
   refine (aP∘JR∘dx 1∘Jp 1∘aL∘Jq) λa Z b=>?_
   replace Z:=Z.sp 58 (abo y.A y.l y.c) rfl (by rw [hq3])
   exact ⟨_,om,c+1,by omega,hu2.succ (by rw [hz];simpa using G),rfl,Z.sub kr,b.pk [1]⟩
  refine (JF∘JX∘JG∘JR∘dx 1∘Jp 1∘aL∘Jq) λa Z b=>?_
  replace Z:=Z.sp 45 (abo x.sA x.rs x.sc) rfl (by rw [X])
  exact ⟨_,om,g+1,by omega,hu.succ (q7c d (by rw [O];omega) (by rw [O];exact λi hi=>hu2 i om)),rfl,Z.sub kr,b.pk [0]⟩
 refine (JF∘JX∘JG∘JQ∘JP∘Jg 5 O0∘Jl∘bO 1∘JB) λa Z b=>?_
 refine qg (λQ M N=>∃(i:Nat),(i<=abr x.ts)/\(gK i (jD x.ay))/\Q=abr x.ts-i/\Fr M 123 [] (ah8 97 i 96 (abr x.ts) ((95,abo x.tA x.ts x.tc)::(48,.bool false)::ah8 47 g 46 (abr x.rs) ((45,abo x.sA x.rs x.sc)::aiV g1 [])))/\Mem w N [.blk g1 x.cells 48]) (m:=abr x.ts-0) ⟨0,abC _,gK.zero,rfl,Z.sub kr,b.pk [0]⟩ ?_
 clear Z b;rintro Q a w_ ⟨i,hi,hu3,rfl,Z,b⟩
 refine Jb Z b ((cB 1∘JQ) (Ji (λhd98=>?_) λhd98=>?_))
 ·
  have H:i<abr x.ts:=by omega
  obtain ⟨t,ht⟩:∃q,x.ts.getD i Tk.zero=q:=⟨_,rfl⟩
  have I:t.Ok:=by rw [<-ht];exact U.ts _ (qf Tk.zero H)
  have hti:=I.id
  intro a Z b
  unfold aX at hti
  refine Jb Z b ((eP∘aM 1) ?_)
  obtain ⟨Br,Bt,P,_⟩:=Rd.sat L.t i
  have J:=L.t;rw [P] at J
  refine (Jk 95 (.slice (some ⟨Br,Bt,none⟩) (abr x.ts) x.tc) (h:=by rw [P];try rfl)∘iF i 8∘qM Tk.cells qm J fH i Tk.zero (hk:=H)∘Jo (.agg t.cells) (by rw [ht])∘JA ajb) λw8 g8=>(Jp 1∘JV fH aN (h1:=by exact Il t)) λaaU=>(Jj) λa Z b=>?_
  refine qz (λM N=>Fr M 123 [] ((121,.bool (!jD x.ay i))::(7,vI i)::(8,vP g8 0)::(95,abo (some ⟨Br,Bt,none⟩) x.ts x.tc)::(98,.bool true)::ah8 97 i 96 (abr x.ts) ((48,.bool false)::ah8 47 g 46 (abr x.rs) ((45,abo x.sA x.rs x.sc)::aiV g1 [])))/\Mem w N [.blk g8 t.cells 232,.blk g1 x.cells 48]) ?_ ?_
  ·
   refine Jb Z b ((Vs .n []) λCW=>(Vp [0,1,2]) λa Z b e=>?_)
   rcases Z.tf 104 rfl with ⟨f,Z⟩|⟨f,Z⟩
   ·
    have hd104:=of_decide_eq_true f
    refine Vb Z b e ((Vf 3 5∘Vp [5]∘Vf 10 0∘Vc 4 O1∘GI 6 1) λa Z b e=>?_)
    replace Z:=Z.sp 106 (abo (some ⟨Br,Bt,none⟩) x.ts x.tc) rfl (by rw [P];try rfl)
    refine Vb Z b e ((oL 7 (i-1) 8∘Vf 8 0∘YC 9 qm J (i-1) Tk.zero (hk:=by first|omega|(simp;omega))∘Vc 11 O0∘Vp [12,13,14]) λa Z b e=>?_)
    rcases Z.tf 116 rfl with ⟨k,Z⟩|⟨k,Z⟩
    ·
     have IL:=of_decide_eq_true k
     refine Vb Z b e ((Vp [15,16,17,18,19]∘Vd∘aI) λa Z b=>?_)
     have Z:=Z.sp 121 (.bool (!jD x.ay i)) rfl (congrArg abP (by rw [zec om (by rw [ht];omega)];rfl))
     exact ⟨Z.sub kr,b.pk [0,1]⟩
    have IL:=of_decide_eq_false k
    refine iN Z e 15 rfl (v:= .agg x.cells) (Pe rfl rfl eX rfl (λ_ h=>qj (h.blk (i:=1) rfl))) λa Z=>?_
    refine iN Z e 16 rfl (v:= .agg t.cells) (Pe rfl rfl fH rfl (λ_ h=>qj (h.blk (i:=0) rfl))) λa Z=>?_
    refine s_on Z 17 rfl (jB Z b [.agg x.cells,.agg t.cells] (.bool (eG x.ay t)) rfl rfl (qip x t I hcp K.s _) λSr B b a Z=>?_)
    refine av (b.pk [0,1]) (λe=>?_)
    refine ap Z (λ_=>e) [18,19] (bt 20 []) [(121,.bool (!(eG x.ay t)))] λa Z=>?_
    refine qe kr ?_
    have Z:=Z.sp 121 (.bool (!jD x.ay i)) rfl (congrArg abP (by rw [q7d (by rw [ht];omega),ht]))
    exact ⟨Z.sub kr,b.pk [0,1]⟩
   have hd104:=of_decide_eq_false f
   refine ap Z (λ_=>e) [3,4,5,6,7,8,9,10,11,12,13,14] (bt 20 [15,16,17,18,19]) [(116,.bool false)] λa Z=>?_
   refine iN Z e 15 rfl (v:= .agg x.cells) (Pe rfl rfl eX rfl (λ_ h=>qj (h.blk (i:=1) rfl))) λa Z=>?_
   refine iN Z e 16 rfl (v:= .agg t.cells) (Pe rfl rfl fH rfl (λ_ h=>qj (h.blk (i:=0) rfl))) λa Z=>?_
   refine s_on Z 17 rfl (jB Z b [.agg x.cells,.agg t.cells] (.bool (eG x.ay t)) rfl rfl (qip x t I hcp K.s _) λSr B b a Z=>?_)
   refine av (b.pk [0,1]) (λe=>?_)
   refine ap Z (λ_=>e) [18,19] (bt 20 []) [(121,.bool (!(eG x.ay t)))] λa Z=>?_
   refine qe kr ?_
   have Z:=Z.sp 121 (.bool (!jD x.ay i)) rfl (congrArg abP (by rw [q7d (by rw [ht];omega),ht]))
   exact ⟨Z.sub kr,b.pk [0,1]⟩
  clear Z b;rintro a EY ⟨Z,b⟩
  refine Jb Z b (Ju (λo=>?_) λo=>?_)
  ·
   exact (JT∘bB 1∘aW) λb=>dA (Io H (by simpa using o)).symm b.below
  refine (aP∘JR∘dx 1∘Jp 1∘aL∘Jq) λa Z b=>?_
  replace Z:=Z.sp 95 (abo x.tA x.ts x.tc) rfl (by rw [P])
  exact ⟨_,om,i+1,by omega,hu3.succ (by simpa using o),rfl,Z.sub kr,b.pk [1]⟩
 exact (JF∘JX∘JG∘bB 1∘aW) λb=>dA (zpe hcf om hcl (λi hi=>hu i om) (λj hj=>hu3 j om)).symm b.below
def zpj {l:List Tk} {id:Int} (hs:fO l) (hm:m<abr l) (h:(l.getD m Tk.zero).id<id):∀k,k<m+1->(l.getD k Tk.zero).id<id:=λk b=>by
 rcases ab0 k m with a|a
 ·have:=hs k m a hm;omega
 ·obtain rfl:k=m:=by omega
  exact h
def zlh {l:List Tk} {id:Int} (hs:fO l) (hm:m<abr l) (h:id<=(l.getD m Tk.zero).id):∀k,m<=k->k<abr l->id<=(l.getD k Tk.zero).id:=λk c b=>by
 rcases ab0 m k with a|a
 ·have:=hs m k a b;omega
 ·obtain rfl:k=m:=by omega
  exact h
def qwi {l:List Tk} {id:Int} (hi:i=abr l) (h1:∀k,k<i->(l.getD k Tk.zero).id<id) (hb:Below w.heap.size w W):NP w l id (.returned (.tuple #[vI i,.bool false])) W:=by
 subst hi
 exact search_end h1 hb
def uS:SI abt 283 3:=⟨by kernel_rfl,by kernel_rfl⟩
def Bu (p:Int) (w:ajg):Calls abt 271 #[vI p] w (Is w (.bool false)):=by
 refine (fE Tryz.func271 6) ?_
 exact (aM 1∘bg 3∘Jo (.bool false) (by simp)∘Jp 1∘eO∘aQ) sW
def IQ (p q:Int) (w:ajg):Calls abt 222 #[vI p,vI q] w (Is w (vI (ko p q))):=by
 refine (iQ Tryz.func222 20) ?_
 refine (aM 1∘bg 1∘JL (h:=by exact λa=>Bu _ _)) ?_
 rintro a _ f ⟨rfl,b⟩
 refine ⟨_,rfl,_,a.call b,?_⟩
 refine (Jp 1∘bU∘bg 1∘JL (h:=by exact λa=>Bu _ _)) ?_
 rintro a _ e ⟨rfl,b⟩
 refine ⟨_,rfl,_,a.call b,?_⟩
 refine (Jp 1∘bU∘Jj∘JQ∘cB 1∘aP∘JQ∘cB 1∘aP∘bM 3∘bU∘Jj) (Ji (λc=>?_) λc=>?_)
 ·
  exact (JT∘bB 1∘aW) λa=>by exact ⟨by rw [show ko p q= -1 from if_pos om],a.below⟩
 refine (aP∘bM 3∘bU∘Jj) (Ji (λd=>?_) λd=>?_)
 ·
  exact (JT∘bB 1∘aW) λa=>by exact ⟨by rw [show ko p q=1 from (if_neg om).trans (if_pos om)],a.below⟩
 exact (aP∘bB 1∘aW) λa=>by exact ⟨by rw [show ko p q=0 from (if_neg om).trans (if_neg om)],a.below⟩
def Bv (p:Nat) (w:ajg):Calls abt 305 #[vQ p] w (Is w (.bool false)):=by
 refine (fE Tryz.func305 6) ?_
 exact (aM 1∘bg 3∘Jo (.bool false) (by simp)∘Jp 1∘eO∘aQ) sW
def IU (p q:Nat) (w:ajg):Calls abt 272 #[vQ p,vQ q] w (Is w (vI (ko (p:Int) (q:Int)))):=by
 refine (iQ Tryz.func272 20) ?_
 refine (aM 1∘bg 1∘JL (h:=by exact λa=>Bv _ _)) ?_
 rintro a _ f ⟨rfl,b⟩
 refine ⟨_,rfl,_,a.call b,?_⟩
 refine (Jp 1∘bU∘bg 1∘JL (h:=by exact λa=>Bv _ _)) ?_
 rintro a _ e ⟨rfl,b⟩
 refine ⟨_,rfl,_,a.call b,?_⟩
 refine (Jp 1∘bU∘Jj∘JQ∘cB 1∘aP∘JQ∘cB 1∘aP∘bM 3∘bU∘Jj) (Ji (λc=>?_) λc=>?_)
 ·
  exact (JT∘bB 1∘aW) λa=>by exact ⟨by rw [show ko (p:Int) (q:Int)= -1 from if_pos om],a.below⟩
 refine (aP∘bM 3∘bU∘Jj) (Ji (λd=>?_) λd=>?_)
 ·
  exact (JT∘bB 1∘aW) λa=>by exact ⟨by rw [show ko (p:Int) (q:Int)=1 from (if_neg om).trans (if_pos om)],a.below⟩
 exact (aP∘bB 1∘aW) λa=>by exact ⟨by rw [show ko (p:Int) (q:Int)=0 from (if_neg om).trans (if_neg om)],a.below⟩
def qth (t:Tk) (id:Int) (w:ajg):Calls abt 221 #[.agg t.cells,vI id] w (Is w (vI (ko t.id id))):=by
 refine (iQ Tryz.func221 9) ?_
 refine (JP∘JE) λc d=>(Jp 1∘Jr∘Jg 0 O0∘Jp 1∘JL (h:=by exact λb=>IQ t.id id _)) ?_
 rintro b _ e ⟨rfl,a⟩
 refine ⟨_,rfl,_,b.call a,?_⟩
 exact (Jp 1∘eO∘aQ) sW
def q2e (A:ajq) (c:Nat) (l:List Tk) (id:Int) (hs:fO l) (w:ajg) (hr:Rd w w.heap.size 8 A (abr l) (l.flatMap bZ)) (F:abr l<=1000000):
    Calls abt 220 #[abo A l c,vI id,.func (.func 221) #[] #[]] w (NP w l id):=by
 refine (vC Tryz.func220 49) ?_
 refine (aM 2∘bg 1∘Jl∘Jp 1∘bU∘bg 3∘Jj∘JQ∘JB) λa Z b=>?_
 refine qg (λt v x=>∃(i:Nat) (j:Nat),(i<=j)/\(j<=abr l)/\(∀k,k<i->(l.getD k Tk.zero).id<id)/\(∀k,j<=k->k<abr l->id<=(l.getD k Tk.zero).id)/\t=j-i/\Fr v 49 [] (ah8 10 j 9 i [(8,vI (abr l)),(7,.bool false),(6,vI 0),(0,abo A l c),(1,vI id),(2,.func (.func 221) #[] #[])])/\Mem w x []) (m:=abr l-0) ⟨0,abr l,abC _,abx _,λk h=>by omega,λk p r=>by omega,rfl,Z.sub kr,b.pk []⟩ ?_
 clear Z b;rintro t a G ⟨i,j,y,z,p,r,rfl,Z,b⟩
 refine Jb Z b ((bM 3∘bU∘Jj) (Ji (λg=>?_) λg=>?_))
 ·
  have u:i<=((i+j)/2)/\((i+j)/2)<j:=by omega
  refine (JT∘ET∘JB∘aM 2∘Ja∘Jw .u64∘Jp 1∘Jo (vQ ((i+j)/2:Nat)) (by exact vo .u64 (i+j) (j:=1) (q:=2) rfl rfl)∘Jw .i64∘Jp 1∘aI∘bg 3) ?_
  obtain ⟨gA,B,rfl,_⟩:=hr.sat ((i+j)/2)
  refine (iF ((i+j)/2) 8∘qM Tk.cells qm hr fH ((i+j)/2) Tk.zero∘Jp 1) λa Z b=>?_
  refine fo Z 6 rfl rfl ?_
  refine zl Z (f:=221) (vs:=[.agg ((l.getD ((i+j)/2) Tk.zero).cells),vI id]) (fst:=[]) (caps:=[]) rfl rfl rfl kr rfl de (qth (l.getD ((i+j)/2) Tk.zero) id _) ?_
  rintro _ C ⟨rfl,e⟩
  refine ⟨_,rfl,?_⟩
  replace b:=b.call e
  clear Z;intro a Z
  refine Jb Z b ((Jp 1∘Jo (.bool (decide ((l.getD ((i+j)/2) Tk.zero).id<id))) (by exact congrArg abP q7e)∘aI∘Jj) (Ju (λd=>?_) λd=>?_))
  ·
   have n:=of_decide_eq_true d
   have s:(l.getD ((i+j)/2) Tk.zero).id<id:=by simpa using d
   refine (JT∘JR∘Jp 1∘dx 1∘Jp 1∘bU∘Jq) λa Z b=>?_
   exact ⟨_,om,(((i+j)/2)+1),j,by omega,z,zpj hs om s,r,rfl,Z.sub kr,b.pk []⟩
  have n:=of_decide_eq_false d
  have D:¬(l.getD ((i+j)/2) Tk.zero).id<id:=by simpa using d
  refine (JF∘JR∘Jp 2∘aL∘Jq) λa Z b=>?_
  exact ⟨_,om,i,((i+j)/2),by omega,by omega,p,zlh hs om om,rfl,Z.sub kr,b.pk []⟩
 obtain rfl:i=j:=by omega
 refine (JF∘JX∘JG∘aM 5) (Ji (λo=>?_) λo=>?_)
 ·
  refine (Jp 3) ?_
  obtain ⟨gA,B,rfl,_⟩:=hr.sat i
  refine (iF i 8∘qM Tk.cells qm hr fH i Tk.zero∘Jp 1) λa Z b=>?_
  refine fo Z 11 rfl rfl ?_
  refine zl Z (f:=221) (vs:=[.agg ((l.getD i Tk.zero).cells),vI id]) (fst:=[]) (caps:=[]) rfl rfl rfl kr rfl de (qth (l.getD i Tk.zero) id _) ?_
  rintro _ E ⟨rfl,e⟩
  refine ⟨_,rfl,?_⟩
  replace b:=b.call e
  clear Z;intro a Z
  exact Jb Z b ((Jp 1∘Jo (.bool (decide ((l.getD i Tk.zero).id=id))) (by exact congrArg abP q7f)∘bO 3∘JZ∘bW) λb=>q7h hs om p r b.below)
 exact (Jv 11 [(7,.bool false),(6,vI i)]∘aQ∘bW) λb=>qwi om p b.below
def qti (x:aF) (f:Nat) (id:Int) (hs:fO x.ts) (w:ajg) (hm:w.heap[f]?=some (.cells #[vI x.au,vQ x.aj,abo x.gA x.gs x.gc,abo x.lA x.cl x.lc,abo x.uA x.cu x.uc,abo x.tA x.ts x.tc,abo x.sA x.rs x.sc,.bool true] 273 (0,0))) (ht:Rd w w.heap.size 8 x.tA (abr x.ts) (x.ts.flatMap bZ)) (g:abr x.ts<=1000000):
    Calls abt 161 #[vP f 0,vI id] w (Is w (vI (fidx x.ts id))):=by
 refine (iQ Tryz.func161 20) ?_
 refine (aM 1∘bg 1∘Jn∘Jf 0∘Jf 5∘Jy (v:= .slice x.tA (abr x.ts) x.tc) (h:=by exact Pd rfl rfl kr (λ_ h=>h.mV hm rfl))∘Jp 1∘JL (h:=by exact λc=>q2e x.tA x.tc x.ts id hs _ (c.old ht) g)) ?_
 rintro c _ j ⟨⟨i,b,rfl,k,d⟩,e⟩
 refine ⟨_,rfl,_,c.call e,?_⟩
 refine (Jp 1∘Jx∘Jx∘bO 2∘bM 2∘bU∘Jj) (Ju (λa=>?_) λa=>?_)
 ·
  exact (JT∘bB 1∘aW) λc=>by exact ⟨by rw [<-d,if_neg (by simpa using a)],c.below⟩
 exact (aP∘aM 2∘aL∘aQ∘aW) λc=>by exact ⟨by rw [<-d,if_pos (by simpa using a)],c.below⟩
def Sv (x:aF) (a c g:Nat):Prop:=∀w:ajg,fC w x->w.heap[a]?=some (.cells #[vI x.au,vQ x.aj,.slice x.gA (abr x.gs) x.gc,.slice x.lA (abr x.cl) x.lc,.slice x.uA (abr x.cu) x.uc,.slice x.tA (abr x.ts) x.tc,.slice x.sA (abr x.rs) x.sc,.bool true] 273 (0,0))->Calls abt 162 #[vP a 0,vI g,vI c] w (Is w (.tuple #[.agg (aO bP (aU x.ay g c)).cells,.bool (!(aU x.ay g c).isEmpty)]))
def qW {x:aF} (h:jD x.ay i=true):1<=(x.ts.getD i Tk.zero).id/\(x.ts.getD i Tk.zero).id<=65535:=by
 have a:=(Fp h).2
 unfold eG at a
 rw [abH,decide_eq_true_eq] at a
 exact ⟨a.1.1,a.1.2.1⟩
def q2f {p:Nat->Prop} (h:∀i,i<k->p i) (hk:p k):∀i,i<k+1->p i:=λi hi=>by
 rcases ab0 i k with a|a
 ·exact h i a
 ·obtain rfl:i=k:=by omega
  exact hk
def qtj (m n:Mb) (A j:ajq) (c p:Nat) (w:ajg) (hr:Rd w w.heap.size 1 A 3 (m.nums.map bG)) (d:Rd w w.heap.size 1 j 3 (n.nums.map bG)):
    Calls abt 224 #[.slice A 3 c,.slice j 3 p] w (wN w m n):=by
 refine (iQ Tryz.func224 36) ?_
 refine (cB 1∘bM 1∘Jl∘bO 1∘JB) λa Z b=>?_
 refine qg (λq r s=>∃(k:Nat),(k<=3)/\(∀i,i<k->m.nums.getD i 0=n.nums.getD i 0)/\q=3-k/\Fr r 36 [] [(11,vI k),(10,vI 3),(9,.slice A 3 c),(4,vI 0),(0,.slice A 3 c),(1,.slice j 3 p)]/\Mem w s []) (m:=3-0) ⟨0,by decide,λi h=>by omega,rfl,Z.sub kr,b.pk []⟩ ?_
 clear Z b;rintro q a x ⟨k,y,l,rfl,Z,b⟩
 refine Jb Z b ((cB 1∘JQ) (Ji (λe=>?_) λe=>?_))
 ·
  have f:k<3:=by omega
  refine (eP∘aM 1) ?_
  obtain ⟨gA,z,rfl,_⟩:=hr.sat k
  refine (iF k 1∘Jy (h:=by exact aad hr k 0 (show k<3 by omega) rfl rfl)∘bO 2∘bM 2∘Jl∘Jp 1∘Jo (.bool false) (by exact congrArg abP (decide_eq_false om))∘eO∘Jj∘aP∘aM 2) ?_
  obtain ⟨t,u,rfl,_⟩:=d.sat k
  refine (iF k 1∘Jy (h:=by exact aad d k 0 (show k<3 by omega) rfl rfl)∘Jp 1∘fK∘bg 2∘JL (h:=by exact λb=>IU (m.nums.getD k 0) (n.nums.getD k 0) _)) ?_
  rintro b _ v ⟨rfl,o⟩
  refine ⟨_,rfl,_,b.call o,?_⟩
  refine (Jp 1∘eO∘bg 2∘Jo (.bool (decide (((m.nums.getD k 0):Int)≠((n.nums.getD k 0):Int)))) (by exact congrArg abP zlb)∘aL∘Jj) (Ji (λg=>?_) λg=>?_)
  ·
   exact (JT∘aM 2∘aL∘aQ∘aW) λb=>zef f l om b.below
  refine (aP∘JR∘dx 1∘Jp 1∘aL∘Jq) λa Z b=>?_
  exact ⟨_,om,k+1,by omega,q2f l om,rfl,Z.sub kr,b.pk []⟩
 exact (JF∘JX∘JG∘bM 1∘Jl∘Jp 1∘Jl∘Jv 1 [(35,.bool false)]∘fK∘Jj∘aP∘bB 1∘aW) λb=>zeg (λi hi=>l i om) b.below
def zih (m:Mb) (w:ajg):Calls abt 163 #[.agg m.cells] w (Is w (vQ (m.v:Int))):=by
 refine (fE Tryz.func163 5) ?_
 exact (JP∘JE) λa g1=>(Jp 1∘Jr∘Jy (v:=vP g1 0) (h:=by exact Yl.uy (ad:=⟨g1,0,none⟩) (m:=3) (y:=0) (sz:=1) rfl rfl rfl kr de)∘Jc O0∘Jp 1∘bU∘aQ) sW
def zli (W w:ajg) (gs c:Nat) (o:Bool) (m n:Mb) (fs:List ajr) (b:Mem W w (.blk gs #[.bool o] 4:: .blk c n.cells 283::fs)):
    Calls abt 223 ([.agg m.cells,vP gs 0,vP c 0]:List ajh).toArray w λr p=>r= .returned (.tuple #[])/\Mem W p (.blk gs #[.bool true] 4:: .blk c (if m.lt n then m else n).cells 283::fs):=by
 refine nZ Tryz.func223 [.agg m.cells,vP gs 0,vP c 0] [(0,.agg m.cells),(1,vP gs 0),(2,vP c 0)] λa Z=>?_
 refine Jb Z b ((JP∘JE) λt e=>(aL∘Jr∘JW gu aN) λj=>(aL∘Jj) λa Z b=>?_)
 refine wp_seq ?_
 refine Jb Z b ((Vs .n []) λq=>(Vy 0 (v:=vS e 3 3) (h:=by exact aaS (n:=3) (sz:=1) rfl rfl kr)∘Vy 1 (v:=vS c 3 3) (h:=by exact aaS (n:=3) (sz:=1) rfl rfl kr)) λa Z b k=>?_)
 refine s_on Z 2 rfl ?_
 refine lT Z [vS e 3 3,vS c 3 3] rfl rfl (qtj m n (some ⟨e,0,none⟩) (some ⟨c,0,none⟩) 3 3 _ (b.bE (i:=0) (n:=3) (size:=1) rfl rfl) (b.bE (i:=2) (n:=3) (size:=1) rfl rfl)) ?_
 rintro _ u ⟨⟨s,rfl,f⟩,g⟩
 refine ⟨_,rfl,?_⟩
 replace b:=b.call g
 clear Z;intro a Z
 refine av (b.pt 3 [0,1,2]) (λk=>?_)
 refine Vb Z b k ((Vq [3] [(7,.bool (decide ((s:Int)<(0:Int))))]∘Vo (.bool (m.lt n)) (by exact congrArg abP f)∘Vd∘eO) (Ju (λd=>?_) λd=>?_))
 ·
  refine (JT∘JR∘eF uS O0∘JV uS iE (h1:=by exact Dp m)) λl=>(mW∘Jq) λa Z b=>?_
  refine iD rfl Z ⟨rfl,?_⟩
  rw [if_pos d]
  exact b.pt 3 [1,2]
 refine (JF∘JS) λa Z b=>?_
 refine iD rfl Z ⟨rfl,?_⟩
 rw [if_neg (by rw [d];decide)]
 exact b.pt 3 [1,2]
abbrev aiY:=λa b=>(.blk a #[.bool b] 4:ajr)
def zii (W w:ajg) (gs a:Nat) (b:Bool) (m:Mb) (q:List Mb) (fs:List ajr) (d:Mem W w (.blk gs #[.bool b] 4:: .blk a (aO bP q).cells 283::fs)):
  Calls abt 223 ([.agg m.cells,vP gs 0,vP a 0]:List ajh).toArray w λr e=>r= .returned (.tuple #[])/\Mem W e (aiY gs (!(q++[m]).isEmpty)::.blk a (aO bP (q++[m])).cells 283::fs):=by
 have c:=zli W w gs a b m _ fs d
 rw [<-q2a] at c
 rw [show (!(q++[m]).isEmpty)=true from by simp]
 exact c
abbrev aiW:=λa b c d e=>((10,.func (.func 223) #[] #[vP a 0,vP b 0])::(9,vP a 0)::(8,vP b 0)::(7,.bool false)::(6,vP c 0)::(0,vP d 0)::e:List (Nat×ajh))
def q2g (x:aF) (N:x.ay.Ok) (hf:cZ x) (D:ShAt x) (O c:Nat) (hc:(c:Int)<x.au) (g:Nat) (hg:g<abr x.rs) (ih:∀h,g<h->h<abr x.rs->Sv x O c h):Sv x O c g:=by
 intro w G hm
 have hfs:=hf.s;have hft:=hf.t;have hfg:=hf.g;have hrl:=D.rs;have hto:=N.ts
 obtain ⟨hc1,hc2,_,_⟩:=mX D.cfg
 refine (vC Tryz.func162 102) ?_
 refine (JP∘JA #[vQ 0,vQ 0,vQ 0]) λw6 M=>(Jp 1∘Jr∘Jy (v:= .agg #[vQ 18446744073709551615,vQ 18446744073709551615,vQ 18446744073709551615]) (h:=by exact aay (n:=3) (sz:=1) (vs:=[(0,vQ 18446744073709551615),(1,vQ 18446744073709551615),(2,vQ 18446744073709551615)]) rfl rfl kr kr)∘JA #[vQ 0,vQ 0,vQ 0]) λw8 j=>(JA #[.bool false]) λw9 k=>(JV uS gu) λRI=>(JW aN aN) λSw=>(Jr∘Jy (h:=by exact Yl.makeFunc (fst:=[]) (caps:=[vP k 0,vP j 0]) rfl rfl rfl)∘Jp 1∘aL∘Jq∘JC (h:=by exact λb=>b.Iq (i:=1) (ds:=(aO bP []).cells) rfl rfl)∘JG∘bM 1∘Jn∘Jf 0∘Jf 5∘Jy (v:= .slice x.tA (abr x.ts) x.tc) (h:=by exact Pd rfl rfl kr (λ_ h=>h.mV hm rfl))∘Jl∘bO 1∘JB) λa Z b=>?_
 refine qg (λP Q R=>∃(i:Nat) (q:List Mb),(i<=abr x.ts)/\(q=(x.ts.take i).filterMap (wK · g c))/\P=abr x.ts-i/\Fr Q 102 [] (ah8 24 i 23 (abr x.ts) ((22,abo x.tA x.ts x.tc)::aiW k j M O (ah8 1 g 2 c [])))/\Mem w R [aiY k (!q.isEmpty),.blk j ((aO bP q).cells) 283,.blk M #[vQ 0,vQ 0,vQ 0] 283]) (m:=abr x.ts-0) ⟨0,[],abC _,rfl,rfl,Z.sub kr,b.pk [0,1,2]⟩ ?_
 clear Z b;rintro P a w_ ⟨i,q,hi,E,rfl,Z,b⟩
 refine Jb Z b ((cB 1∘JQ) (Ji (λS=>?_) λS=>?_))
 ·
  have o:i<abr x.ts:=by omega
  obtain ⟨t,ht⟩:∃z,(x.ts.getD i Tk.zero)=z:=⟨_,rfl⟩
  have T:=qW (D.tk i o)
  rw [ht] at T
  refine (eP∘JP) ?_
  obtain ⟨U,V,F,_⟩:=Rd.sat G.t i
  have H:=G.t;rw [F] at H
  refine (Jk 22 (.slice (some ⟨U,V,none⟩) (abr x.ts) x.tc) (h:=by rw [F];try rfl)∘iF i 8∘qM Tk.cells qm H fH i Tk.zero (hk:=o)∘Jo (.agg t.cells) (by rw [ht])∘JA ajb) λyL W=>(JV fH aN (h1:=by exact Il t)) λDh=>(bU∘Jj) λa Z b=>?_
  refine qz (λQ R=>Fr Q 102 [] ((41,.bool (t.here g c))::(12,vP W 0)::(22,abo (some ⟨U,V,none⟩) x.ts x.tc)::(25,.bool true)::ah8 24 i 23 (abr x.ts) (aiW k j M O (ah8 1 g 2 c [])))/\Mem w R [.blk W t.cells 232,aiY k (!q.isEmpty),.blk j ((aO bP q).cells) 283,.blk M #[vQ 0,vQ 0,vQ 0] 283]) ?_ ?_
  ·
   refine sQ ?_
   refine Jb Z b ((Jg 5 O0∘Jp 1) (Ju (λp=>?_) λp=>?_))
   ·
    refine (Jg 1 O0∘Jp 4) (Je (λX=>?_) λX=>?_)
    ·
     refine (Jg 3 O0∘Jp 3∘aI∘Jq) λa Z b=>?_
     have Z:=Z.sp 41 (.bool (t.here g c)) rfl (congrArg abP (by unfold Tk.here;rw [p,decide_eq_true om,acj,acj,ab3,beq_iff_eq,decide_eq_true_eq]))
     exact ⟨Z.sub kr,b.pk [0,1,2,3]⟩
    refine (Jp 5∘aI∘Jq) λa Z b=>?_
    have Z:=Z.sp 41 (.bool (t.here g c)) rfl (congrArg abP (by unfold Tk.here;rw [p,decide_eq_false om];rfl))
    exact ⟨Z.sub kr,b.pk [0,1,2,3]⟩
   refine (Jv 11 [(41,.bool false)]∘bU∘Jq) λa Z b=>?_
   have Z:=Z.sp 41 (.bool (t.here g c)) rfl (congrArg abP (by unfold Tk.here;rw [p];rfl))
   exact ⟨Z.sub kr,b.pk [0,1,2,3]⟩
  clear Z b;rintro a w6 ⟨Z,b⟩
  refine Jb Z b (Ju (λB=>?_) λB=>?_)
  ·
   have r:q++[(⟨t.v,0,t.id.toNat⟩:Mb)]=(x.ts.take (i+1)).filterMap (wK · g c):=by rw [qed Tk.zero o,<-E,ht,wK,if_pos B];rfl
   refine (JT∘JR∘Jp 1∘Jg 6 O0∘Jg 0 O0∘Jv 1 [(47,vQ (IntKind.u64.wrap t.id))]∘Jo (vQ t.id.toNat) (by exact yF om om)∘Jy (v:= .agg #[vQ t.v,vQ 0,vQ t.id.toNat]) (h:=by exact aay (n:=3) (sz:=1) (vs:=[(0,vQ t.v),(1,vQ 0),(2,vQ t.id.toNat)]) rfl rfl kr kr)) λa Z b=>?_
   refine fo Z 7 rfl rfl ?_
   refine zl Z (f:=223) (vs:=[.agg #[vQ t.v,vQ 0,vQ t.id.toNat]]) (fst:=[]) (caps:=[vP k 0,vP j 0]) rfl rfl rfl kr rfl de (zii w _ k j _ (⟨t.v,0,t.id.toNat⟩:Mb) q _ (b.pk [1,2,0,3])) ?_
   rintro _ Ba ⟨rfl,L⟩
   refine ⟨_,rfl,?_⟩
   replace b:=L
   clear Z;intro a Z
   refine Jb Z b ((jh∘Jj∘JR∘dx 1∘Jp 1∘aL∘Jq) λa Z b=>?_)
   replace Z:=Z.sp 22 (abo x.tA x.ts x.tc) rfl (by rw [F])
   exact ⟨_,om,i+1,(q++[(⟨t.v,0,t.id.toNat⟩:Mb)]),by omega,r,rfl,Z.sub kr,b.pk [0,1,3]⟩
  have r:q=(x.ts.take (i+1)).filterMap (wK · g c):=by rw [qed Tk.zero o,<-E,ht,wK,if_neg (by rw [B];decide)];simp
  refine (aP∘JR∘dx 1∘Jp 1∘aL∘Jq) λa Z b=>?_
  replace Z:=Z.sp 22 (abo x.tA x.ts x.tc) rfl (by rw [F])
  exact ⟨_,om,i+1,q,by omega,r,rfl,Z.sub kr,b.pk [1,2,3]⟩
 rw [abM (by omega:abr x.ts<=i)] at E
 refine (JF∘JX∘JG∘bM 1∘dx 1∘Jp 1∘bU∘Jj∘JB) λa Z b=>?_
 refine qg (λP Q R=>∃(u:Nat) (q:List Mb),(g+1<=u)/\(u<=abr x.rs)/\(q=x.ts.filterMap (wK · g c)++((((acw (abr x.rs)).drop (g+1)).take (u- (g+1))).filterMap (lV x.ay c (λu=>aU x.ay u c) g)))/\P=abr x.rs-u/\Fr Q 102 [] ((13,vI u)::(25,.bool false)::ah8 24 i 23 (abr x.ts) ((22,abo x.tA x.ts x.tc)::aiW k j M O (ah8 1 g 2 c [])))/\Mem w R [aiY k (!q.isEmpty),.blk j ((aO bP q).cells) 283,.blk M #[vQ 0,vQ 0,vQ 0] 283]) (m:=abr x.rs- (g+1)) ⟨g+1,q,abx _,by omega,by rw [E];simp,rfl,Z.sub kr,b.pk [0,1,2]⟩ ?_
 clear Z b;rintro P a w_ ⟨u,q,hgh,hh,E,rfl,Z,b⟩
 refine Jb Z b ((bM 2∘Jn∘Jf 0∘Jf 6∘Jy (v:= .slice x.sA (abr x.rs) x.sc) (h:=by exact Pd rfl rfl kr (λ_ h=>h.mV hm rfl))∘Jl∘Jp 1∘aI∘Jj) (Ji (λY=>?_) λY=>?_))
 ·
  have d:u<abr x.rs:=by omega
  have e:=zeh (f:=lV x.ay c (λu=>aU x.ay u c) g) hgh d
  refine (eP∘bM 1∘Jn∘Jf 0∘Jf 0∘Jf 2∘Jy (v:= .slice x.gA (abr x.gs) x.gc) (h:=by exact Pd rfl rfl kr (λ_ h=>h.mV hm rfl))∘Jp 1) ?_
  obtain ⟨gq2,oq2,r,_⟩:=Rd.sat G.g u
  have I:=G.g;rw [r] at I
  refine (Jk 68 (.slice (some ⟨gq2,oq2,none⟩) (abr x.gs) x.gc) (h:=by rw [r];try rfl)∘iF u 2∘Jf 0∘ES qC I u Gr.zero∘Jp 2∘fK∘Jj) (Jh (λSy=>?_) λSy=>?_)
  ·
   rw [q7i om] at e
   refine (JT∘JX∘JG∘JR∘Jp 1∘dx 1∘Jp 1∘bU∘Jq) λa Z b=>?_
   exact ⟨_,om,u+1,q,by omega,by omega,by rw [e,E];simp,rfl,Z.sub kr,b.pk [0,1,2]⟩
  refine (aP∘aM 3∘JL (h:=by exact λb=>ih u om om _ (G.old b) (b.lU hm))) ?_
  rintro b _ w79 ⟨rfl,hbw⟩
  refine ⟨_,rfl,_,b.call hbw,?_⟩
  refine (Jp 1∘Jx∘Jx∘JA #[vQ 0,vQ 0,vQ 0]) λNb g14=>(JV uS aN (h1:=by exact Dp (aO bP (aU x.ay u c)))) λIV=>(Jp 1∘aI∘bg 1∘Jj) (Ju (λC=>?_) λC=>?_)
  ·
   obtain ⟨y,hy⟩:∃z,x.rs.getD u Rw.zero=z:=⟨_,rfl⟩
   have tH:Rd w w.heap.size 3 y.A (abr y.l) (y.l.flatMap ji):=by rw [<-hy];exact G.row d
   have hyl:(abr y.l:Int)=x.au:=by rw [<-hy];exact (Dn d (D.row u d)).1
   have nU:∀z∈y.l,z.Ok:=by rw [<-hy,<-kH d];exact N.sp _ (qf [] (by rw [lX];exact d))
   have hzv:=(nU _ (qf Sp.zero (show c<abr y.l by omega))).v
   rw [zei d om (by simpa using C),hy] at e
   refine (JT∘JR∘Jp 2∘Jn∘Jf 0∘Jf 6∘Jy (v:= .slice x.sA (abr x.rs) x.sc) (h:=by exact Pd rfl rfl kr (λ_ h=>h.mV hm rfl))∘Jp 1) ?_
   obtain ⟨Dx,Dy,hq3,_⟩:=Rd.sat G.s u
   have J:=G.s;rw [hq3] at J
   refine (Jk 88 (.slice (some ⟨Dx,Dy,none⟩) (abr x.rs) x.sc) (h:=by rw [hq3];try rfl)∘iF u 1∘Jy (v:= .slice ((x.rs.getD u Rw.zero).A) ((x.rs.getD u Rw.zero).l.length) ((x.rs.getD u Rw.zero).c)) (h:=by exact aad J u Rw.zero om rfl rfl)∘Jo (.slice y.A (abr y.l) y.c) (by rw [hy])∘Jp 1) ?_
   obtain ⟨Br,Bt,hq4,_⟩:=Rd.sat tH c
   have K:=tH;rw [hq4] at K
   refine (Jk 91 (.slice (some ⟨Br,Bt,none⟩) (abr y.l) y.c) (h:=by rw [hq4];try rfl)∘iF c 3∘Jf 0∘ES zP K c Sp.zero∘Jp 1∘Jw .u64∘Jy (v:= .agg #[vQ ((y.l.getD c Sp.zero).v),vQ 1,vQ u]) (h:=by exact aay (n:=3) (sz:=1) (vs:=[(0,vQ ((y.l.getD c Sp.zero).v)),(1,vQ 1),(2,vQ u)]) rfl rfl kr kr)) λa Z b=>?_
   refine fo Z 16 rfl rfl ?_
   refine zl Z (f:=223) (vs:=[.agg #[vQ ((y.l.getD c Sp.zero).v),vQ 1,vQ u]]) (fst:=[]) (caps:=[vP k 0,vP j 0]) rfl rfl rfl kr rfl de (zii w _ k j _ (⟨(y.l.getD c Sp.zero).v,1,u⟩:Mb) q _ (b.pk [1,2,0,3])) ?_
   rintro _ w99 ⟨rfl,L⟩
   refine ⟨_,rfl,?_⟩
   replace b:=L
   clear Z;intro a Z
   refine Jb Z b ((jh∘Jj∘JR∘Jp 1∘dx 1∘Jp 1∘aI∘Jq) λa Z b=>?_)
   exact ⟨_,om,u+1,(q++[(⟨(y.l.getD c Sp.zero).v,1,u⟩:Mb)]),by omega,by omega,by rw [e,E,aby];rfl,rfl,Z.sub kr,b.pk [0,1,3]⟩
  rw [q7j (by simpa using C)] at e
  refine (aP∘JR∘Jp 1∘dx 1∘Jp 1∘bU∘Jq) λa Z b=>?_
  exact ⟨_,om,u+1,q,by omega,by omega,by rw [e,E];simp,rfl,Z.sub kr,b.pk [1,2,3]⟩
 have hqm:q=aU x.ay g c:=by rw [E,NH,lX,show u=abr x.rs by omega,zlc];rfl
 refine (JF∘JX) λa Z b=>?_
 refine wp_seq ?_
 refine Jb Z b ((Vs (.t (.t (.f .n))) []) λIW=>(nR 0 uS O1∘Vc 1 O0) λa Z b HS=>?_)
 refine s_on Z 2 rfl (bV Z b 2 rfl rfl rfl rfl rfl uS rfl rfl (Dp (aO bP q)) λBf b=>?_)
 refine av (b.pk [0,1]) (λHS=>?_)
 refine Vb Z b HS ((Vp [3]∘Vd∘bU∘JZ) λa Z b=>?_)
 exact dS rfl Z (.cellS (i:=2) Z b rfl rfl uS rfl) (.tmp Z rfl) (⟨by rw [<-hqm],b.below⟩)
def NS (x:aF) (a:x.ay.Ok) (f:cZ x) (b:ShAt x) (d c:Nat) (hc:(c:Int)<x.au):∀(n g:Nat),abr x.rs-g<=n->g<abr x.rs->Sv x d c g:=by
 intro n
 induction n with
 |zero=>intro g i e;omega
 |succ n j=>intro g i e;exact q2g x a f b d c hc g e λh l k=>j h om k
def q7z {l:List Tk} {id:Int} (h:fidx l id<0):gQ l id=none:=by
 rcases Sd l id with a|⟨i,a,_⟩
 ·exact a.2
 ·omega
theorem qy9 {l:List Tk} {id:Int} (h:¬fidx l id<0):∃i:Nat,fidx l id=i/\gQ l id=some i/\i<abr l/\(l.getD i Tk.zero).id=id:=by
 rcases Sd l id with a|a
 ·omega
 ·exact a
def qwn (x:aF) (R:x.ay.Ok) (H:cZ x) (w:ajg) (D:fC w x):
    Calls abt 105 #[.agg x.cells] w (Is w (.bool (lM x.ay))):=by
 have amT:=H.s;have hft:=H.t;have hfg:=H.g;have hfl:=H.l;have hfu:=H.u
 refine (fE Tryz.func105 81) ?_
 refine (JP∘JE) λw1 g1=>(bO 1∘JQ∘JP∘eF eX O0∘JI (h:=by exact λb=>q2d x R H _ (D.old b))) λyL E=>(Jp 1∘bU∘Jj) (Ju (λj=>?_) λj=>?_)
 ·
  exact (JT∘bB 1∘aW) λb=>dA (Ir (by simpa using j)).symm b.below
 have S:og x.ay=true:=by simpa using j
 have k:=wM S
 have hs:=q7g k
 obtain ⟨hc1,hc2,_,_⟩:=mX k.cfg
 have pK:=k.cu
 refine (aP∘JP∘eF eX O0∘fu #[vI x.au,vQ x.aj,abo x.gA x.gs x.gc,abo x.lA x.cl x.lc,abo x.uA x.cu x.uc,abo x.tA x.ts x.tc,abo x.sA x.rs x.sc,.bool true]∘JE) λw16 e=>(Jp 1∘eO∘Jj∘JQ∘JP∘Jg 4 O1∘Jl∘bO 1∘JB) λa Z b=>?_
 refine qg (λT M N=>∃(c:Nat),(c<=abr x.cu)/\(gK c λc=>fB x.ay c&&iO (abr x.rs) λg=>kY x.ay g c)/\T=abr x.cu-c/\Fr M 81 [] (ah8 20 c 19 (abr x.cu) [(18,abo x.uA x.cu x.uc),(3,vP e 0),(13,.bool false),(2,.bool false),(1,vP g1 0)])/\Mem w N [.blk e #[vI x.au,vQ x.aj,abo x.gA x.gs x.gc,abo x.lA x.cl x.lc,abo x.uA x.cu x.uc,abo x.tA x.ts x.tc,abo x.sA x.rs x.sc,.bool true] 273,.blk g1 x.cells 48]) (m:=abr x.cu-0) ⟨0,abC _,gK.zero,rfl,Z.sub kr,b.pk [0,1]⟩ ?_
 clear Z b;rintro T a w_ ⟨c,hc,hu,rfl,Z,b⟩
 refine Jb Z b ((cB 1∘JQ) (Ji (λU=>?_) λU=>?_))
 ·
  have I:c<abr x.cu:=by omega
  obtain ⟨id,f⟩:∃z,(x.cu.getD c 0)=z:=⟨_,rfl⟩
  refine (eP∘aM 1) ?_
  obtain ⟨F,G,O,_⟩:=Rd.sat D.u c
  have J:=D.u;rw [O] at J
  refine (Jk 18 (.slice (some ⟨F,G,none⟩) (abr x.cu) x.uc) (h:=by rw [O];try rfl)∘iF c 1∘Jy (v:=vI (x.cu.getD c 0)) (h:=by exact aad J c 0 om rfl rfl)∘Jo (vI id) (by rw [f])∘Jp 2∘bg 2∘JI (h:=by exact λb=>qti x e id hs _ (b.blk (i:=0) rfl) (b.old D.t) H.t)) λFx E=>(Jp 1∘eO∘Jj∘JQ) λa Z b=>?_
  refine qz (λM N=>Fr M 81 [] ((52,.bool (!fB x.ay c))::ah8 6 (fidx x.ts id) 5 id ((4,vI c)::(18,abo (some ⟨F,G,none⟩) x.cu x.uc)::(21,.bool true)::ah8 20 c 19 (abr x.cu) [(3,vP e 0),(13,.bool false),(2,.bool false),(1,vP g1 0)]))/\Mem w N [.blk e #[vI x.au,vQ x.aj,abo x.gA x.gs x.gc,abo x.lA x.cl x.lc,abo x.uA x.cu x.uc,abo x.tA x.ts x.tc,abo x.sA x.rs x.sc,.bool true] 273,.blk g1 x.cells 48]) ?_ ?_
  ·
   refine sQ ?_
   refine Jb Z b ((Jp 3) (Jh (λV=>?_) λV=>?_))
   ·
    refine (Jp 3) (Ji (λW=>?_) λW=>?_)
    ·
     refine (Jv 19 [(52,.bool true)]∘aI∘Jq) λa Z b=>?_
     have Z:=Z.sp 52 (.bool (!fB x.ay c)) rfl (congrArg abP (by rw [qoo (by rw [f];omega) (by rw [f];exact q7z om)];rfl))
     exact ⟨Z.sub kr,b.pk [0,1]⟩
    obtain ⟨i,X,Y,hil,amU⟩:=qy9 (l:=x.ts) (id:=id) om
    refine (Jg 5 O1∘Jp 1∘Jo (vI i) (by rw [X])) ?_
    obtain ⟨Dx,Dy,P,_⟩:=Rd.sat D.t i
    have o:=D.t;rw [P] at o
    refine (Jk 35 (.slice (some ⟨Dx,Dy,none⟩) (abr x.ts) x.tc) (h:=by rw [P];try rfl)∘iF i 8∘Jf 5∘QC qm o 5 i Tk.zero∘Jp 3) (Ju (λp=>?_) λp=>?_)
    ·
     refine (Jv 10 [(52,.bool true)]∘aI∘Jq) λa Z b=>?_
     have Z:=Z.sp 52 (.bool (!fB x.ay c)) rfl (congrArg abP (by rw [qy3 (by rw [f];omega) (by rw [f];exact Y),(acP _).mp p];rfl))
     exact ⟨Z.sub kr,b.pk [0,1]⟩
    refine (Jg 5 O1∘Jp 1∘Jo (vI i) (by rw [X])∘Jk 44 (.slice (some ⟨Dx,Dy,none⟩) (abr x.ts) x.tc) (h:=by rw [P];try rfl)∘iF i 8∘Jf 3∘QC qm o 3 i Tk.zero∘Jp 4∘aI∘Jq) λa Z b=>?_
    have Z:=Z.sp 52 (.bool (!fB x.ay c)) rfl (congrArg abP (by rw [qy3 (by rw [f];omega) (by rw [f];exact Y),(aem _).mp p,acj,bne,ab3];simp))
    exact ⟨Z.sub kr,b.pk [0,1]⟩
   refine (Jv 22 [(52,.bool false)]∘eO∘Jq) λa Z b=>?_
   have Z:=Z.sp 52 (.bool (!fB x.ay c)) rfl (congrArg abP (by rw [q19 (by rw [f];omega)];rfl))
   exact ⟨Z.sub kr,b.pk [0,1]⟩
  clear Z b;rintro a w8 ⟨Z,b⟩
  refine Jb Z b (Ju (λq=>?_) λq=>?_)
  ·
   exact (JT∘bB 1∘aW) λb=>dA (Iu I (by simpa using q)).symm b.below
  refine (aP∘JP∘Jg 6 O1∘Jl∘bO 1∘JB) λa Z b=>?_
  refine qg (λT M N=>∃(g:Nat),(g<=abr x.rs)/\(gK g λg=>kY x.ay g c)/\T=abr x.rs-g/\Fr M 81 [] (ah8 56 g 55 (abr x.rs) ((54,abo x.sA x.rs x.sc)::(52,.bool false)::ah8 6 (fidx x.ts id) 5 id ((4,vI c)::(18,abo (some ⟨F,G,none⟩) x.cu x.uc)::(21,.bool true)::ah8 20 c 19 (abr x.cu) [(3,vP e 0),(13,.bool false),(2,.bool false),(1,vP g1 0)])))/\Mem w N [.blk e #[vI x.au,vQ x.aj,abo x.gA x.gs x.gc,abo x.lA x.cl x.lc,abo x.uA x.cu x.uc,abo x.tA x.ts x.tc,abo x.sA x.rs x.sc,.bool true] 273,.blk g1 x.cells 48]) (m:=abr x.rs-0) ⟨0,abC _,gK.zero,rfl,Z.sub kr,b.pk [0,1]⟩ ?_
  clear Z b;rintro T a w_ ⟨g,hg,hu2,rfl,Z,b⟩
  refine Jb Z b ((cB 1∘JQ) (Ji (λDv=>?_) λDv=>?_))
  ·
   have d:g<abr x.rs:=by omega
   obtain ⟨y,hy⟩:∃z,x.rs.getD g Rw.zero=z:=⟨_,rfl⟩
   have tH:Rd w w.heap.size 3 y.A (abr y.l) (y.l.flatMap ji):=by rw [<-hy];exact D.row d
   have hyl:(abr y.l:Int)=x.au:=by rw [<-hy];exact (Dn d (k.row g d)).1
   refine (eP∘aM 1) ?_
   obtain ⟨Br,Bt,Q,_⟩:=Rd.sat D.s g
   have K:=D.s;rw [Q] at K
   refine (Jk 54 (.slice (some ⟨Br,Bt,none⟩) (abr x.rs) x.sc) (h:=by rw [Q];try rfl)∘iF g 1∘Jy (v:= .slice ((x.rs.getD g Rw.zero).A) ((x.rs.getD g Rw.zero).l.length) ((x.rs.getD g Rw.zero).c)) (h:=by exact aad K g Rw.zero d rfl rfl)∘Jo (.slice y.A (abr y.l) y.c) (by rw [hy])∘Jp 2∘bg 3∘JL (h:=by exact λb=>NS x R H k e c om _ g (abx _) d _ (D.old b) (b.blk (i:=0) rfl))) ?_
   rintro b _ w65 ⟨rfl,E⟩
   refine ⟨_,rfl,_,b.call E,?_⟩
   refine (Jp 1∘Jx∘Jx∘JA #[vQ 0,vQ 0,vQ 0]) λw9 g9=>(JV uS aN (h1:=by exact Dp (aO bP (aU x.ay g c)))) λIV=>(bO 1) λa Z b=>?_
   refine qz (λM N=>Fr M 81 [] ((78,.bool (!kY x.ay g c))::(10,.bool (!(aU x.ay g c).isEmpty))::(9,vP g9 0)::(8,abo y.A y.l y.c)::(7,vI g)::(54,abo (some ⟨Br,Bt,none⟩) x.rs x.sc)::(57,.bool true)::ah8 56 g 55 (abr x.rs) ((52,.bool false)::ah8 6 (fidx x.ts id) 5 id ((4,vI c)::(18,abo (some ⟨F,G,none⟩) x.cu x.uc)::(21,.bool true)::ah8 20 c 19 (abr x.cu) [(3,vP e 0),(13,.bool false),(2,.bool false),(1,vP g1 0)])))/\Mem w N [.blk g9 ((aO bP (aU x.ay g c)).cells) 283,.blk e #[vI x.au,vQ x.aj,abo x.gA x.gs x.gc,abo x.lA x.cl x.lc,abo x.uA x.cu x.uc,abo x.tA x.ts x.tc,abo x.sA x.rs x.sc,.bool true] 273,.blk g1 x.cells 48]) ?_ ?_
   ·
    refine Jb Z b ((Vs .n []) λzK=>(Vp [0,1]) λa Z b HS=>?_)
    rcases Z.tf 69 rfl with ⟨r,Z⟩|⟨r,Z⟩
    ·
     refine Vb Z b HS ((Vp [4,5]∘nR 2 uS O0) ?_)
     obtain ⟨SK,SL,L,_⟩:=Rd.sat tH c
     have B:=tH;rw [L] at B
     intro a Z b HS
     replace Z:=Z.sp 72 (abo (some ⟨SK,SL,none⟩) y.l y.c) rfl (by rw [L];try rfl)
     refine Vb Z b HS ((oL 6 c 3∘Vf 7 2∘GH 8 zP B 2 c Sp.zero∘VI 3 .n (h:=by exact λb=>zih (aO bP (aU x.ay g c)) _)) λw71 E=>(Vp [9,10]∘Vd∘kV) λa Z b=>?_)
     have Z:=Z.sp 78 (.bool (!kY x.ay g c)) rfl (congrArg abP (by rw [zph (by simpa using r),Sg d,hy,<-decide_not];exact decide_eq_decide.2 om))
     exact ⟨Z.sub kr,b.pk [0,1,2]⟩
    refine ap Z (λ_=>HS) [2,3,4,5,6,7,8,9,10] (bt 11 []) [(78,.bool false)] λa Z=>?_
    refine qe kr ?_
    have Z:=Z.sp 78 (.bool (!kY x.ay g c)) rfl (congrArg abP (by rw [zld (by simpa using r)];rfl))
    exact ⟨Z.sub kr,b.pk [0,1,2]⟩
   clear Z b;rintro a Nb ⟨Z,b⟩
   refine Jb Z b (Ju (λC=>?_) λC=>?_)
   ·
    exact (JT∘bB 1∘aW) λb=>dA (Iw I d (by simpa using C)).symm b.below
   refine (aP∘JR∘dx 1∘Jp 1∘aL∘Jq) λa Z b=>?_
   replace Z:=Z.sp 54 (abo x.sA x.rs x.sc) rfl (by rw [Q])
   exact ⟨_,om,g+1,by omega,hu2.succ (by simpa using C),rfl,Z.sub kr,b.pk [1,2]⟩
  refine (JF∘JX∘JG∘JR∘dx 1∘Jp 1∘aL∘Jq) λa Z b=>?_
  replace Z:=Z.sp 18 (abo x.uA x.cu x.uc) rfl (by rw [O])
  exact ⟨_,om,c+1,by omega,hu.succ (by rw [show fB x.ay c=true by simpa using q,acj];exact gK.all λi hi=>hu2 i om),rfl,Z.sub kr,b.pk [0,1]⟩
 exact (JF∘JX∘JG∘bB 1∘aW) λb=>dA (Iy S (λi hi=>hu i om)).symm b.below
def dV {α:Type} (k:Nat) (f:Nat->List α):List α:=(acw k).flatMap f
theorem qy {α:Type} (k:Nat) (f:Nat->List α):dV (k+1) f=dV k f++f k:=by unfold dV;rw [List.range_succ,abZ];simp
def Dq {α:Type} (f:Nat->List α):dV 0 f=[]:=rfl
def Iz {α:Type} {f:Nat->List α} {m:Nat} (h:∀i,abr (f i)<=m):∀k,abr (dV k f)<=m*k
 |0=>abC _
 |k+1=>by rw [qy,abu,ae6];have:=Iz h k;have:=h k;omega
def q7k {α:Type} {f:Nat->List α} {m:Nat}:∀k,(∀i,i<k->abr (f i)<=m)->abr (dV k f)<=m*k
 |0,_=>abC _
 |k+1,h=>by rw [qy,abu,ae6];have:=q7k k (λi hi=>h i om);have:=h k om;omega
def Fq {α:Type} {f:Nat->List α} {p:α->Prop}:∀k,(∀i,i<k->∀x∈f i,p x)->∀x∈dV k f,p x
 |0,_=>λx a=>by cases a
 |k+1,h=>λx a=>by
  rw [qy] at a
  rcases acg.1 a with a|a
  ·exact Fq k (λi hi=>h i om) x a
  ·exact h k om x a
def aK (n:Int):Nat:=(n%18446744073709551616).toNat
theorem Dr (n:Int):aK n<18446744073709551616:=by unfold aK;omega
def Si (n:Int):abT .u64 (Go.IntKind.u64.wrap n)= .int .u64 ((aK n:Nat):Int):=by
 unfold aK
 rw [Int.toNat_of_nonneg (Int.emod_nonneg _ de)]
 rfl
structure dG where
 next:Int
 st:aF
def dG.cells (s:dG):Array ajh:= #[.int .i64 s.next,.int .i64 s.st.au,.int .u64 (s.st.aj:Int),.slice s.st.gA (abr s.st.gs) s.st.gc,.slice s.st.lA (abr s.st.cl) s.st.lc,.slice s.st.uA (abr s.st.cu) s.st.uc,.slice s.st.tA (abr s.st.ts) s.st.tc,.slice s.st.sA (abr s.st.rs) s.st.sc]
def NQ (x:dG):∀v∈x.cells.toList,v.oneCell'=true:=by simp [dG.cells,Value.oneCell']
def vH (l:List Gr) (i:Nat):List Nat:=[aK (l.getD (i+1) Gr.zero).parent,aK (l.getD (i+1) Gr.zero).weight]
def qq (l:List Tk) (i:Nat):Int:=if i=0 then 0 else (l.getD (i-1) Tk.zero).id
def lq (p:Int) (t:Tk):List Nat:=[aK (t.id-p),aK t.group,aK t.weight,aK t.cpu,t.mask,if t.ready then 1 else 0,t.v,t.r]
def nS (g:Nat) (z:Sp):List Nat:=(if 0<g then [z.v,z.r] else [])++[z.floor]
def lu (g:Nat) (l:List Sp):List Nat:=dV (abr l) λc=>nS g (l.getD c Sp.zero)
def aJ (s:dG):Nat->List Nat
 |0=>[aK s.next]
 |1=>[aK s.st.au,s.st.aj,abr s.st.gs]
 |2=>dV (abr s.st.gs-1) (vH s.st.gs)
 |3=>s.st.cl.map aK
 |4=>s.st.cu.map aK
 |5=>abr s.st.ts::dV (abr s.st.ts) λi=>lq (qq s.st.ts i) (s.st.ts.getD i Tk.zero)
 |6=>dV (abr s.st.rs) λg=>lu g (s.st.rs.getD g Rw.zero).l
 |_=>[]
def qb:Nat->ByteArray
 |0=>⟨#[110,101,120,116]⟩
 |1=>⟨#[99,111,110,102,105,103]⟩
 |2=>⟨#[103,114,111,117,112,115]⟩
 |3=>⟨#[99,108,111,99,107,115]⟩
 |4=>⟨#[99,117,114,114,101,110,116]⟩
 |5=>⟨#[116,97,115,107,115]⟩
 |6=>⟨#[115,112,111,116,115]⟩
 |_=>⟨#[]⟩
def dP (s:dG):Nat:=if s.next<1\/281474976710657<s.next then 330 else if lM s.st.ay=false then 331 else 0
def eY (s:dG):List Nat:=dV 7 (aJ s)
def bS (s:dG):List Nat:=[113,115,1]++(eY s).flatMap ak
def dD (s:dG):List Nat:=if dP s=0 then aY (bS s) else []
structure j4 where
 nm:ByteArray
 fr:Nat
 to:Nat
def nT (s:dG) (i:Nat):Nat:=3+abr ((dV i (aJ s)).flatMap ak)
theorem Bo (s:dG) (i:Nat):nT s (i+1)=nT s i+abr ((aJ s i).flatMap ak):=by grind [nT,qy]
def iA (x:j4):List ajh:=[.string x.nm,.int .i64 (x.fr:Int),.int .i64 (x.to:Int)]
def zej (x:j4):abr (iA x)=3:=rfl
def yQ (w:ajg) (R:List Nat) (r:ajk) (a:ajg):Prop:=
 (∃A c,r= .returned (.slice A (abr R) c)/\a.ownsRow w.heap.size 41 1 (.slice A (abr R) c) (abr R) (R.map bG)/\abr R<=c)/\Below w.heap.size w a
def Bp {q:List Nat} (h:q=R) (a:W.ownsRow w.heap.size 41 1 (.slice A (abr q) c) (abr q) (q.map bG)) (hc:abr q<=c) (hb:Below w.heap.size w W):yQ w R (.returned (.slice A (abr q) c)) W:=by
 subst h
 exact ⟨⟨A,c,rfl,a,hc⟩,hb⟩
def wQ (l:List Nat):∀u∈l.map bG,u.oneCell'=true:=by
 intro u a
 obtain ⟨x,_,rfl⟩:=ab7.1 a
 rfl
theorem qqe {l:List Int} (h:k<abr l):(l.take (k+1)).map aK=(l.take k).map aK++[aK (l.getD k 0)]:=by grind [abv,adx]
def oo {α:Type} {a b:List α} (h:abr b=n):abr a+n=abr (a++b):=by rw [abu,h]
def q7l (h:n<18446744073709551616):aK (n:Int)=n:=by unfold aK;omega
def zle {E:ajq} {l:List Gr} (h:Rd w w.heap.size 2 A (abr l) (l.flatMap fU)) (h1:1<=abr l) (hc:abr l<=c) (b:(if c=1 then A else A.map (·.add (1*2)))=E):Rd w w.heap.size 2 E (abr (l.drop 1)) ((l.drop 1).flatMap fU):=by
 have a:=Rd.zq8 qC h h1 hc
 rw [b] at a
 exact a
def getD_drop {α:Type} (l:List α) (j k:Nat) (d:α):(l.drop j).getD k d=l.getD (k+j) d:=by
 rw [abw,adn,abw,ae5]
def IB (l:List Tk) (k:Nat):qq l (k+1)=(l.getD k Tk.zero).id:=by unfold qq;rw [if_neg om];rfl
def qwf (l:List Tk):qq l 0=0:=rfl
theorem Bq {z:Sp} (h:0<g):nS g z=[z.v,z.r]++[z.floor]:=by unfold nS;rw [if_pos h]
theorem Dt {z:Sp} (h:¬0<g):nS g z=[z.floor]:=by unfold nS;rw [if_neg h];rfl
def IC {p:Int} {t:Tk} (h:t.ready=true):lq p t=[aK (t.id-p),aK t.group,aK t.weight,aK t.cpu]++[t.mask,1,t.v,t.r]:=by unfold lq;rw [h];rfl
def IE {p:Int} {t:Tk} (h:t.ready=false):lq p t=[aK (t.id-p),aK t.group,aK t.weight,aK t.cpu]++[t.mask,0,t.v,t.r]:=by unfold lq;rw [h];rfl
def VJ (A:ajq) (c:Nat) (l:List Int) (w:ajg) (hr:Rd w w.heap.size 1 A (abr l) (l.map aZ)) (C:abr l<=1000000):
    Calls abt 277 #[abo A l c] w (yQ w (l.map aK)):=by
 refine (fE Tryz.func277 19) ?_
 refine (aM 1∘bg 1∘Jq∘JC (h:=by exact λb=>b.nil 41 1)∘JG∘bM 1∘Jl∘bO 1∘JB) λa Z b=>?_
 refine qg (λt v x=>∃(k:Nat) (q:List Nat) (o:ajq) (co:Nat),(k<=abr l)/\(q=(l.take k).map aK)/\(abr q=k)/\(abr q<=co)/\t=abr l-k/\Fr v 19 [] (ah8 8 k 7 (abr l) [(6,abo A l c),(3,abo o q co),(2,vN)])/\Mem w x [abp o q co bG 41 1]) (m:=abr l-0) ⟨0,[],none,0,abC _,rfl,rfl,abx _,rfl,Z.sub kr,b.pk [0]⟩ ?_
 clear Z b;rintro t a D ⟨k,q,o,co,E,u,p,r,rfl,Z,b⟩
 refine Jb Z b ((cB 1∘JQ) (Ji (λs=>?_) λs=>?_))
 ·
  have f:k<abr l:=by omega
  refine (eP∘JP) ?_
  obtain ⟨gA,F,rfl,_⟩:=hr.sat k
  refine (iF k 1∘Jy (h:=by exact aad hr k 0 f rfl rfl)∘Jp 1∘bU∘Jj∘JR∘Jp 2∘Jv 1 [(14,vQ (IntKind.u64.wrap (l.getD k 0)))]∘Jo (vQ (aK (l.getD k 0))) (by exact Si _)∘JU kT #[vQ (aK (l.getD k 0))]) λy z=>(JD ([aK (l.getD k 0)].map bG) 1 (λ_ _=>gu) kT (hr:=by exact λb=>b.bE (i:=0) (n:=1) (size:=1) rfl rfl) (h1:=by exact wQ _)) λB g j e=>(Jp 1∘kV∘Jq) ?_
  have d:abr q+1=abr (q++[aK (l.getD k 0)]):=oo rfl
  rw [d] at e
  refine (JC (h:=by exact λb=>b.bq (i:=1) (ys:=(q++[aK (l.getD k 0)]).map bG) rfl d (List.map_append.symm))∘Jk 3 (.slice g (abr (q++[aK (l.getD k 0)])) j) (h:=by exact iZ d)∘JG∘JR∘dx 1∘Jp 1∘aL∘Jq) λa Z b=>?_
  exact ⟨_,om,k+1,(q++[aK (l.getD k 0)]),g,j,by omega,by rw [u,qqe f],by rw [abu,p];rfl,e,rfl,Z.sub kr,b.pk [1]⟩
 exact (JF∘JX∘JG∘aM 2∘aL∘aQ∘aW) λb=>Bp (by rw [u,abM om]) (b.own (i:=0) rfl) r b.below
def K3 (A:ajq) (c n:Nat) (l:List Int) (R:List Nat) (w:ajg) (a:abr l=n) (hr:Rd w w.heap.size 1 A n (l.map aZ)) (b:n<=1000000) (d:l.map aK=R):
  Calls abt 277 #[.slice A n c] w (yQ w R):=by
 subst a;subst d
 exact VJ A c l w hr b
def zak (s:dG) (d:s.st.ay.Ok) (f:cZ s.st) (w:ajg) (g:fC w s.st):
    Calls abt 230 #[.agg s.cells] w (yQ w (aJ s 0)):=by
 refine (fE Tryz.func230 7) ?_
 refine (JP∘JE) λj g1=>(Jp 1∘Jr∘Jg 0 O0∘JU kD #[vI s.next]) λk e=>(JK (h:=by exact λa=>K3 (some ⟨e,0,none⟩) 1 1 [s.next] [aK s.next] _ rfl (a.bE (i:=0) (n:=1) (size:=1) rfl rfl) de rfl)) λl m o b=>?_
 have c: [aK s.next].length=1:=rfl
 exact (Jp 1∘eO∘aQ∘aW) λa=>Bp rfl (a.own (i:=0) rfl) b a.below
def qxm (s:dG) (c:s.st.ay.Ok) (d:cZ s.st) (w:ajg) (k:fC w s.st):
    Calls abt 231 #[.agg s.cells] w (yQ w (aJ s 1)):=by
 have e:=d.g
 refine (fE Tryz.func231 17) ?_
 exact (JP∘JE) λl g1=>(Jp 1∘Jr∘Jf 1∘Jf 0∘Jy (v:= .agg #[vI s.st.au,vQ s.st.aj,abo s.st.gA s.st.gs s.st.gc]) (h:=by exact Pe rfl rfl zQ rfl (λ_ h=>h.sub (i:=0) rfl 1 rfl))∘JA #[vI 0,vQ 0,vN]) λm o=>(JV zQ aN) λb=>(eO∘Jr∘Jg 0 O0∘Jv 1 [(9,vQ (IntKind.u64.wrap s.st.au))]∘Jo (vQ (aK s.st.au)) (by exact Si _)∘Jg 1 O0∘Jg 2 O0∘Jl∘Jw .u64∘JU kT #[vQ (aK s.st.au),vQ s.st.aj,vQ (abr s.st.gs)]) λf j=>(Jp 1∘aI∘Jq∘JC (h:=by exact λa=>(a.fV (i:=0) (n:=3) (size:=1) rfl rfl de).dw (i:=0) (ys:=[aK s.st.au,s.st.aj,abr s.st.gs].map bG) rfl (rfl))∘JG∘JZ∘aW) λa=>Bp (q:=[aK s.st.au,s.st.aj,abr s.st.gs]) rfl (a.own (i:=0) rfl) (abx 3) a.below
def qxn (s:dG) (c:s.st.ay.Ok) (d:cZ s.st) (w:ajg) (e:fC w s.st):
    Calls abt 233 #[.agg s.cells] w (yQ w (aJ s 3)):=by
 refine (fE Tryz.func233 7) ?_
 exact (JP∘JE) λf g1=>(Jp 1∘Jr∘Jf 1∘Jg 3 O0∘JK (h:=by exact λa=>VJ s.st.lA s.st.lc s.st.cl _ (a.old e.l) d.l)) λg j k b=>(Jp 1∘eO∘aQ∘aW) λa=>Bp rfl (a.own (i:=0) rfl) b a.below
def qum (s:dG) (c:s.st.ay.Ok) (d:cZ s.st) (w:ajg) (e:fC w s.st):
    Calls abt 234 #[.agg s.cells] w (yQ w (aJ s 4)):=by
 refine (fE Tryz.func234 7) ?_
 exact (JP∘JE) λf g1=>(Jp 1∘Jr∘Jf 1∘Jg 4 O0∘JK (h:=by exact λa=>VJ s.st.uA s.st.uc s.st.cu _ (a.old e.u) d.u)) λg j k b=>(Jp 1∘eO∘aQ∘aW) λa=>Bp rfl (a.own (i:=0) rfl) b a.below
def qxo (s:dG) (M:s.st.ay.Ok) (N:cZ s.st) (w:ajg) (O:fC w s.st) (hc:gD s.st) (u:ShAt s.st):
    Calls abt 232 #[.agg s.cells] w (yQ w (aJ s 2)):=by
 have P:=N.g;have x:=hc.g
 have y:=(qt (mX u.cfg).2.2.2).1
 obtain ⟨l,d⟩:∃z,(if s.st.gc=1 then s.st.gA else s.st.gA.map (·.add (1*2)))=z:=⟨_,rfl⟩
 have f:=zle O.g y x d
 obtain ⟨m,hm⟩:∃z,s.st.gs.drop 1=z:=⟨_,rfl⟩
 have A:abr m=abr s.st.gs-1:=by rw [<-hm,abE]
 rw [hm] at f
 refine (fE Tryz.func232 26) ?_
 refine (JP∘JE) λX g1=>(Jp 1∘bg 1∘Jq∘JC (h:=by exact λb=>b.nil 41 1)∘JG∘JQ∘JP∘Jf 1∘Jf 0∘Jg 2 O1∘Jy (v:= .slice (if s.st.gc=1 then s.st.gA else (s.st.gA:ajq).map (·.add (1*2))) (abr s.st.gs-1) (s.st.gc-1)) (h:=by exact aaf jE (j:=1) rfl rfl rfl om)∘Jo (.slice l (abr m) (s.st.gc-1)) (by rw [d,A])∘Jl∘bO 1∘JB) λa Z b=>?_
 refine qg (λG Q R=>∃(k:Nat) (q:List Nat) (B:ajq) (co:Nat),(k<=abr m)/\(q=dV k (vH s.st.gs))/\(abr q=2*k)/\(abr q<=co)/\G=abr m-k/\Fr Q 26 [] (ah8 12 k 11 (abr m) [(10,abo l m (s.st.gc-1)),(3,abo B q co),(2,vN)])/\Mem w R [abp B q co bG 41 1,.blk g1 s.cells 50]) (m:=abr m-0) ⟨0,[],none,0,abC _,rfl,rfl,abx _,rfl,Z.sub kr,b.pk [0,1]⟩ ?_
 clear Z b;rintro G a Y ⟨k,q,B,co,hk,H,C,D,rfl,Z,b⟩
 refine Jb Z b ((cB 1∘JQ) (Ji (λo=>?_) λo=>?_))
 ·
  have p:k<abr m:=by omega
  refine (eP∘JP) ?_
  obtain ⟨I,J,rfl,_⟩:=f.sat k
  refine (iF k 2∘qM Gr.cells qC f kI k Gr.zero (hk:=p)∘JA #[vI 0,vI 0]) λw5 g5=>(JV kI aN (h1:=by exact zid (m.getD k Gr.zero))) λK=>(bU∘Jj∘JR∘Jp 1∘Jg 0 O0∘Jg 1 O0∘JU kD #[vI ((m.getD k Gr.zero).parent),vI ((m.getD k Gr.zero).weight)]) λS E=>(JK (h:=by exact λb=>K3 (some ⟨E,0,none⟩) 2 2 [(m.getD k Gr.zero).parent,(m.getD k Gr.zero).weight] [aK (m.getD k Gr.zero).parent,aK (m.getD k Gr.zero).weight] _ rfl (b.bE (i:=0) (n:=2) (size:=1) rfl rfl) de rfl)) λT U V L=>?_
  have F: [aK (m.getD k Gr.zero).parent,aK (m.getD k Gr.zero).weight].length=2:=rfl
  refine (JD ([aK (m.getD k Gr.zero).parent,aK (m.getD k Gr.zero).weight].map bG) 3 (λ_ _=>oI) kT (hr:=by exact λb=>b.rd (i:=0) rfl) (h1:=by exact wQ _)) λW r t e=>(Jp 1∘aI∘Jq) ?_
  have c:abr q+([aK (m.getD k Gr.zero).parent,aK (m.getD k Gr.zero).weight].length)=abr (q++[aK (m.getD k Gr.zero).parent,aK (m.getD k Gr.zero).weight]):=oo rfl
  rw [c] at e
  refine (JC (h:=by exact λb=>b.bq (i:=3) (ys:=(q++[aK (m.getD k Gr.zero).parent,aK (m.getD k Gr.zero).weight]).map bG) rfl c (List.map_append.symm))∘Jk 3 (.slice r (abr (q++[aK (m.getD k Gr.zero).parent,aK (m.getD k Gr.zero).weight])) t) (h:=by exact iZ c)∘JG∘JR∘dx 1∘Jp 1∘aL∘Jq) λa Z b=>?_
  exact ⟨_,om,k+1,(q++[aK (m.getD k Gr.zero).parent,aK (m.getD k Gr.zero).weight]),r,t,by omega,by rw [H,qy,<-hm,getD_drop];rfl,by rw [abu,C];rfl,e,rfl,Z.sub kr,b.pk [3,4]⟩
 exact (JF∘JX∘JG∘aM 2∘aL∘aQ∘aW) λb=>Bp (by rw [H,show k=abr s.st.gs-1 by omega];try rfl) (b.own (i:=0) rfl) D b.below
def q3w (s:dG) (L:s.st.ay.Ok) (hf:cZ s.st) (w:ajg) (hx:fC w s.st) (hc:gD s.st) (M:ShAt s.st):
    Calls abt 235 #[.agg s.cells] w (yQ w (aJ s 5)):=by
 have htl:=hf.t
 refine (fE Tryz.func235 53) ?_
 refine (JP∘JE) λw1 g1=>(Jp 1∘Jr∘Jf 1∘Jg 5 O0∘Jl∘JU kD #[vI (abr s.st.ts)]) λyL F=>(JK (h:=by exact λb=>K3 (some ⟨F,0,none⟩) 1 1 [(abr s.st.ts:Int)] [aK (abr s.st.ts:Int)] _ rfl (b.bE (i:=0) (n:=1) (size:=1) rfl rfl) de rfl)) λG H wB x=>?_
 have N: [aK (abr s.st.ts:Int)].length=1:=rfl
 refine (Jp 1∘kV∘Jq) ?_
 have f: [aK (abr s.st.ts:Int)].length=[abr s.st.ts].length:=rfl
 rw [f] at x
 refine (JC (h:=by exact λb=>b.bq (i:=0) (ys:=[abr s.st.ts].map bG) rfl f (by rw [q7l om]))∘Jk 3 (.slice G ([abr s.st.ts].length) H) (h:=by exact iZ f)∘JG∘cB 1∘JQ∘JP∘Jf 1∘Jg 5 O2∘Jl∘bO 1∘JB) λa Z b=>?_
 refine qg (λmS aS wS=>∃(k:Nat) (q:List Nat) (O:ajq) (co:Nat),(k<=abr s.st.ts)/\(0<=qq s.st.ts k/\qq s.st.ts k<=65535)/\(q=[abr s.st.ts]++dV k λi=>lq (qq s.st.ts i) (s.st.ts.getD i Tk.zero))/\(abr q=8*k+1)/\(abr q<=co)/\mS=abr s.st.ts-k/\Fr aS 53 [] (ah8 18 k 17 (abr s.st.ts) [(16,abo s.st.tA s.st.ts s.st.tc),(4,vI (qq s.st.ts k)),(3,abo O q co),(2,vN),(1,vP g1 0)])/\Mem w wS [abp O q co bG 41 1,ah9 F (abr s.st.ts),.blk g1 s.cells 50]) (m:=abr s.st.ts-0) ⟨0,[abr s.st.ts],G,H,abC _,by rw [qwf];decide,by rw [Dq,abN],rfl,x,rfl,Z.sub kr,b.pk [0,1,2]⟩ ?_
 clear Z b;rintro mS a w_ ⟨k,q,O,co,hk,hp,P,hql,Q,rfl,Z,b⟩
 refine Jb Z b ((cB 1∘JQ) (Ji (λI=>?_) λI=>?_))
 ·
  have g:k<abr s.st.ts:=by omega
  obtain ⟨t,ht⟩:∃z,(s.st.ts.getD k Tk.zero)=z:=⟨_,rfl⟩
  have J:=qW (M.tk k g)
  rw [ht] at J
  have A:=L.ts _ (qf Tk.zero g)
  replace A:Tk.Ok t:=by rw [<-ht];exact A
  have htr:=A.r
  refine (eP∘JP) ?_
  obtain ⟨R,S,u,_⟩:=Rd.sat hx.t k
  have y:=hx.t;rw [u] at y
  refine (Jk 16 (.slice (some ⟨R,S,none⟩) (abr s.st.ts) s.st.tc) (h:=by rw [u];try rfl)∘iF k 8∘qM Tk.cells qm y fH k Tk.zero (hk:=g)∘Jo (.agg t.cells) (by rw [ht])∘JA ajb) λw6 g6=>(JV fH aN (h1:=by exact Il t)) λDh=>(bU∘bg 1∘Jj∘JQ∘JP∘Jg 5 O0∘Jj) (Ju (λj=>?_) λj=>?_)
  ·
   refine (JT∘JR∘Jp 1∘bg 1∘Jg 0 O0∘Jp 2∘Jo (vI (t.id-qq s.st.ts k)) (by exact nN ⟨by omega,by omega⟩)∘Jg 1 O0∘Jg 2 O0∘Jg 3 O0∘JU kD #[vI (t.id-qq s.st.ts k),vI t.group,vI t.weight,vI t.cpu]) λT B=>(JK (h:=by exact λb=>K3 (some ⟨B,0,none⟩) 4 4 [t.id-qq s.st.ts k,t.group,t.weight,t.cpu] [aK (t.id-qq s.st.ts k),aK t.group,aK t.weight,aK t.cpu] _ rfl (b.bE (i:=0) (n:=4) (size:=1) rfl rfl) de rfl)) λU V W K=>?_
   have C: [aK (t.id-qq s.st.ts k),aK t.group,aK t.weight,aK t.cpu].length=4:=rfl
   refine (JD ([aK (t.id-qq s.st.ts k),aK t.group,aK t.weight,aK t.cpu].map bG) 3 (λ_ _=>oI) kT (hr:=by exact λb=>b.rd (i:=0) rfl) (h1:=by exact wQ _)) λX D E l=>(Jp 1∘aI∘Jq) ?_
   have c:abr q+([aK (t.id-qq s.st.ts k),aK t.group,aK t.weight,aK t.cpu].length)=abr (q++[aK (t.id-qq s.st.ts k),aK t.group,aK t.weight,aK t.cpu]):=oo rfl
   rw [c] at l
   refine (JC (h:=by exact λb=>b.bq (i:=3) (ys:=(q++[aK (t.id-qq s.st.ts k),aK t.group,aK t.weight,aK t.cpu]).map bG) rfl c (List.map_append.symm))∘Jk 3 (.slice D (abr (q++[aK (t.id-qq s.st.ts k),aK t.group,aK t.weight,aK t.cpu])) E) (h:=by exact iZ c)∘JG∘aM 1∘Jg 4 O2∘Jp 1∘Jg 6 O2∘Jg 7 O2∘Jw .u64∘JU kT #[vQ t.mask,vQ 1,vQ t.v,vQ t.r]) λY g47=>(JD ([t.mask,1,t.v,t.r].map bG) 4 (λ_ _=>qK) kT (hr:=by exact λb=>b.bE (i:=0) (n:=4) (size:=1) rfl rfl) (h1:=by exact wQ _)) λC9 o p e=>(Jp 1∘aI∘Jq) ?_
   have d:(abr (q++[aK (t.id-qq s.st.ts k),aK t.group,aK t.weight,aK t.cpu]))+4=abr ((q++[aK (t.id-qq s.st.ts k),aK t.group,aK t.weight,aK t.cpu])++[t.mask,1,t.v,t.r]):=oo rfl
   rw [d] at e
   refine (JC (h:=by exact λb=>b.bq (i:=4) (ys:=((q++[aK (t.id-qq s.st.ts k),aK t.group,aK t.weight,aK t.cpu])++[t.mask,1,t.v,t.r]).map bG) rfl d (List.map_append.symm))∘Jk 3 (.slice o (abr ((q++[aK (t.id-qq s.st.ts k),aK t.group,aK t.weight,aK t.cpu])++[t.mask,1,t.v,t.r])) p) (h:=by exact iZ d)∘JG∘JR∘Jf 0∘Jc O3∘Jo (vI (qq s.st.ts (k+1))) (by rw [IB,ht])∘Jp 1∘bU∘Jj∘JR∘dx 1∘Jp 1∘aL∘Jq) λa Z b=>?_
   replace Z:=Z.sp 16 (abo s.st.tA s.st.ts s.st.tc) rfl (by rw [u])
   exact ⟨_,om,k+1,(q++[aK (t.id-qq s.st.ts k),aK t.group,aK t.weight,aK t.cpu]++[t.mask,1,t.v,t.r]),o,p,by omega,by rw [IB,ht];omega,by rw [P,qy,ht,IC j,aby,aby],by (simp only [abu,abS,aes];omega),e,rfl,Z.sub kr,b.pk [4,5,6]⟩
  refine (aP∘aM 1∘Jg 0 O0∘Jp 2∘Jo (vI (t.id-qq s.st.ts k)) (by exact nN ⟨by omega,by omega⟩)∘Jg 1 O0∘Jg 2 O0∘Jg 3 O0∘JU kD #[vI (t.id-qq s.st.ts k),vI t.group,vI t.weight,vI t.cpu]) λT B=>(JK (h:=by exact λb=>K3 (some ⟨B,0,none⟩) 4 4 [t.id-qq s.st.ts k,t.group,t.weight,t.cpu] [aK (t.id-qq s.st.ts k),aK t.group,aK t.weight,aK t.cpu] _ rfl (b.bE (i:=0) (n:=4) (size:=1) rfl rfl) de rfl)) λU V W K=>?_
  have C: [aK (t.id-qq s.st.ts k),aK t.group,aK t.weight,aK t.cpu].length=4:=rfl
  refine (JD ([aK (t.id-qq s.st.ts k),aK t.group,aK t.weight,aK t.cpu].map bG) 3 (λ_ _=>oI) kT (hr:=by exact λb=>b.rd (i:=0) rfl) (h1:=by exact wQ _)) λX D E l=>(Jp 1∘aI∘Jq) ?_
  have c:abr q+([aK (t.id-qq s.st.ts k),aK t.group,aK t.weight,aK t.cpu].length)=abr (q++[aK (t.id-qq s.st.ts k),aK t.group,aK t.weight,aK t.cpu]):=oo rfl
  rw [c] at l
  refine (JC (h:=by exact λb=>b.bq (i:=3) (ys:=(q++[aK (t.id-qq s.st.ts k),aK t.group,aK t.weight,aK t.cpu]).map bG) rfl c (List.map_append.symm))∘Jk 3 (.slice D (abr (q++[aK (t.id-qq s.st.ts k),aK t.group,aK t.weight,aK t.cpu])) E) (h:=by exact iZ c)∘JG∘aM 1∘Jg 4 O2∘Jp 1∘Jg 6 O2∘Jg 7 O2∘Jw .u64∘JU kT #[vQ t.mask,vQ 0,vQ t.v,vQ t.r]) λY g47=>(JD ([t.mask,0,t.v,t.r].map bG) 4 (λ_ _=>qK) kT (hr:=by exact λb=>b.bE (i:=0) (n:=4) (size:=1) rfl rfl) (h1:=by exact wQ _)) λC9 o p e=>(Jp 1∘aI∘Jq) ?_
  have d:(abr (q++[aK (t.id-qq s.st.ts k),aK t.group,aK t.weight,aK t.cpu]))+4=abr ((q++[aK (t.id-qq s.st.ts k),aK t.group,aK t.weight,aK t.cpu])++[t.mask,0,t.v,t.r]):=oo rfl
  rw [d] at e
  refine (JC (h:=by exact λb=>b.bq (i:=4) (ys:=((q++[aK (t.id-qq s.st.ts k),aK t.group,aK t.weight,aK t.cpu])++[t.mask,0,t.v,t.r]).map bG) rfl d (List.map_append.symm))∘Jk 3 (.slice o (abr ((q++[aK (t.id-qq s.st.ts k),aK t.group,aK t.weight,aK t.cpu])++[t.mask,0,t.v,t.r])) p) (h:=by exact iZ d)∘JG∘JR∘Jf 0∘Jc O3∘Jo (vI (qq s.st.ts (k+1))) (by rw [IB,ht])∘Jp 1∘bU∘Jj∘JR∘dx 1∘Jp 1∘aL∘Jq) λa Z b=>?_
  replace Z:=Z.sp 16 (abo s.st.tA s.st.ts s.st.tc) rfl (by rw [u])
  exact ⟨_,om,k+1,(q++[aK (t.id-qq s.st.ts k),aK t.group,aK t.weight,aK t.cpu]++[t.mask,0,t.v,t.r]),o,p,by omega,by rw [IB,ht];omega,by rw [P,qy,ht,IE j,aby,aby],by (simp only [abu,abS,aes];omega),e,rfl,Z.sub kr,b.pk [4,5,6]⟩
 exact (JF∘JX∘JG∘aM 2∘aL∘aQ∘aW) λb=>Bp (by rw [P,show k=abr s.st.ts by omega];try rfl) (b.own (i:=0) rfl) Q b.below
def q3x (s:dG) (Q:s.st.ay.Ok) (hf:cZ s.st) (w:ajg) (R:fC w s.st) (hc:gD s.st) (F:ShAt s.st):
    Calls abt 236 #[.agg s.cells] w (yQ w (aJ s 6)):=by
 have hrl:=hf.s
 obtain ⟨hc1,hc2,_,_⟩:=mX F.cfg
 refine (fE Tryz.func236 41) ?_
 refine (JP∘JE) λw1 g1=>(Jp 1∘bg 1∘Jq∘JC (h:=by exact λb=>b.nil 41 1)∘JG∘JQ∘JP∘Jf 1∘Jg 6 O1∘Jl∘bO 1∘JB) λa Z b=>?_
 refine qg (λG S T=>∃(g:Nat) (q:List Nat) (p:ajq) (co:Nat),(g<=abr s.st.rs)/\(q=dV g λi=>lu i (s.st.rs.getD i Rw.zero).l)/\(abr q<=192*g)/\(abr q<=co)/\G=abr s.st.rs-g/\Fr S 41 [] (ah8 12 g 11 (abr s.st.rs) [(10,abo s.st.sA s.st.rs s.st.sc),(3,abo p q co),(2,vN)])/\Mem w T [abp p q co bG 41 1,.blk g1 s.cells 50]) (m:=abr s.st.rs-0) ⟨0,[],none,0,abC _,rfl,abx _,abx _,rfl,Z.sub kr,b.pk [0,1]⟩ ?_
 clear Z b;rintro G a w_ ⟨g,q,p,co,hg,E,U,t,rfl,Z,b⟩
 refine Jb Z b ((cB 1∘JQ) (Ji (λH=>?_) λH=>?_))
 ·
  have e:g<abr s.st.rs:=by omega
  obtain ⟨y,I⟩:∃z,s.st.rs.getD g Rw.zero=z:=⟨_,rfl⟩
  have J:Rd w w.heap.size 3 y.A (abr y.l) (y.l.flatMap ji):=by rw [<-I];exact R.row e
  have hyl:(abr y.l:Int)=s.st.au:=by rw [<-I];exact (Dn e (F.row g e)).1
  have V:∀z∈y.l,z.Ok:=by rw [<-I,<-kH e];exact Q.sp _ (qf [] (by rw [lX];exact e))
  refine (eP∘aM 1) ?_
  obtain ⟨K,L,D,_⟩:=Rd.sat R.s g
  have x:=R.s;rw [D] at x
  refine (Jk 10 (.slice (some ⟨K,L,none⟩) (abr s.st.rs) s.st.sc) (h:=by rw [D];try rfl)∘iF g 1∘Jy (v:= .slice ((s.st.rs.getD g Rw.zero).A) ((s.st.rs.getD g Rw.zero).l.length) ((s.st.rs.getD g Rw.zero).c)) (h:=by exact aad x g Rw.zero e rfl rfl)∘Jo (.slice y.A (abr y.l) y.c) (by rw [I])∘Jp 2∘bg 1∘Jl∘bO 1∘JB) λa Z b=>?_
  refine qg (λG S T=>∃(c:Nat) (q:List Nat) (p:ajq) (co:Nat),(c<=abr y.l)/\(q=(dV g λi=>lu i (s.st.rs.getD i Rw.zero).l)++dV c λi=>nS g (y.l.getD i Sp.zero))/\(abr q<=192*g+3*c)/\(abr q<=co)/\G=abr y.l-c/\Fr S 41 [] (ah8 19 c 18 (abr y.l) ((17,abo y.A y.l y.c)::(5,abo y.A y.l y.c)::(4,vI g)::(10,abo (some ⟨K,L,none⟩) s.st.rs s.st.sc)::(13,.bool true)::ah8 12 g 11 (abr s.st.rs) [(3,abo p q co),(2,vN)]))/\Mem w T [abp p q co bG 41 1,.blk g1 s.cells 50]) (m:=abr y.l-0) ⟨0,q,p,co,abC _,by rw [E,Dq,abN],by omega,t,rfl,Z.sub kr,b.pk [0,1]⟩ ?_
  clear Z b;rintro G a w_ ⟨c,q,p,co,hc,E,U,t,rfl,Z,b⟩
  refine Jb Z b ((cB 1∘JQ) (Ji (λM=>?_) λM=>?_))
  ·
   have B:c<abr y.l:=by omega
   obtain ⟨z,hz⟩:∃q,(y.l.getD c Sp.zero)=q:=⟨_,rfl⟩
   have N:=V _ (qf Sp.zero B)
   rw [hz] at N
   have hzr:=N.r
   refine (eP∘JP) ?_
   obtain ⟨W,X,u,_⟩:=Rd.sat J c
   have C:=J;rw [u] at C
   refine (Jk 17 (.slice (some ⟨W,X,none⟩) (abr y.l) y.c) (h:=by rw [u];try rfl)∘iF c 3∘qM Sp.cells zP C mh c Sp.zero (hk:=B)∘Jo (.agg z.cells) (by rw [hz])∘JA #[vQ 0,vW 0,vQ 0]) λw7 g7=>(JV mh aN (h1:=by exact zie z)) λasA=>(bU∘Jj∘bM 2∘aL∘Jj) (Ji (λO=>?_) λO=>?_)
   ·
    refine (JT∘JR∘Jp 1∘Jg 0 O0∘Jg 1 O0∘Jw .u64∘JU kT #[vQ z.v,vQ z.r]) λFa VL=>(JD ([z.v,z.r].map bG) 2 (λ_ _=>iE) kT (hr:=by exact λb=>b.bE (i:=0) (n:=2) (size:=1) rfl rfl) (h1:=by exact wQ _)) λw32 Y c32 P=>(Jp 1∘aI∘Jq) ?_
    have j:abr q+2=abr (q++[z.v,z.r]):=oo rfl
    rw [j] at P
    refine (JC (h:=by exact λb=>b.bq (i:=2) (ys:=(q++[z.v,z.r]).map bG) rfl j (List.map_append.symm))∘Jk 3 (.slice Y (abr (q++[z.v,z.r])) c32) (h:=by exact iZ j)∘JG∘JR∘Jp 1∘Jg 2 O1∘JU kT #[vQ z.floor]) λw36 g36=>(JD ([z.floor].map bG) 3 (λ_ _=>oI) kT (hr:=by exact λb=>b.bE (i:=0) (n:=1) (size:=1) rfl rfl) (h1:=by exact wQ _)) λDi k o f=>(Jp 1∘fK∘Jq) ?_
    have d:(abr (q++[z.v,z.r]))+1=abr ((q++[z.v,z.r])++[z.floor]):=oo rfl
    rw [d] at f
    refine (JC (h:=by exact λb=>b.bq (i:=3) (ys:=((q++[z.v,z.r])++[z.floor]).map bG) rfl d (List.map_append.symm))∘Jk 3 (.slice k (abr ((q++[z.v,z.r])++[z.floor])) o) (h:=by exact iZ d)∘JG∘JR∘dx 1∘Jp 1∘aL∘Jq) λa Z b=>?_
    replace Z:=Z.sp 17 (abo y.A y.l y.c) rfl (by rw [u])
    exact ⟨_,om,c+1,((q++[z.v,z.r])++[z.floor]),k,o,by omega,by rw [E,qy,hz,Bq om];simp only [aby],by (simp only [abu,abS,aes];omega),f,rfl,Z.sub kr,b.pk [3,4]⟩
   refine (aP∘JR∘Jp 1∘Jg 2 O0∘JU kT #[vQ z.floor]) λw36 g36=>(JD ([z.floor].map bG) 2 (λ_ _=>iE) kT (hr:=by exact λb=>b.bE (i:=0) (n:=1) (size:=1) rfl rfl) (h1:=by exact wQ _)) λDi k o f=>(Jp 1∘fK∘Jq) ?_
   have d:abr q+1=abr (q++[z.floor]):=oo rfl
   rw [d] at f
   refine (JC (h:=by exact λb=>b.bq (i:=2) (ys:=(q++[z.floor]).map bG) rfl d (List.map_append.symm))∘Jk 3 (.slice k (abr (q++[z.floor])) o) (h:=by exact iZ d)∘JG∘JR∘dx 1∘Jp 1∘aL∘Jq) λa Z b=>?_
   replace Z:=Z.sp 17 (abo y.A y.l y.c) rfl (by rw [u])
   exact ⟨_,om,c+1,(q++[z.floor]),k,o,by omega,by rw [E,qy,hz,Dt om,aby],by (simp only [abu,abS,aes];omega),f,rfl,Z.sub kr,b.pk [2,3]⟩
  refine (JF∘JX∘JG∘JR∘dx 1∘Jp 1∘aL∘Jq) λa Z b=>?_
  replace Z:=Z.sp 10 (abo s.st.sA s.st.rs s.st.sc) rfl (by rw [D])
  exact ⟨_,om,g+1,q,p,co,by omega,by rw [E,show c=abr y.l by omega,qy,I];rfl,by omega,t,rfl,Z.sub kr,b.pk [0,1]⟩
 exact (JF∘JX∘JG∘aM 2∘aL∘aQ∘aW) λb=>Bp (by rw [E,show g=abr s.st.rs by omega];try rfl) (b.own (i:=0) rfl) t b.below
def tV:SI abt 362 2:=⟨by kernel_rfl,by kernel_rfl⟩
def zmz:EI abt 363 362 (.agg #[.string (abB #[]),.nilFunc]) 2 24:=⟨by kernel_rfl,by kernel_rfl,rfl,by omega⟩
def q8 (s:dG):Array ajh:= #[.string (abB #[110,101,120,116]),.func (.func 230) #[.agg s.cells] #[],.string (abB #[99,111,110,102,105,103]),.func (.func 231) #[.agg s.cells] #[],.string (abB #[103,114,111,117,112,115]),.func (.func 232) #[.agg s.cells] #[],.string (abB #[99,108,111,99,107,115]),.func (.func 233) #[.agg s.cells] #[],.string (abB #[99,117,114,114,101,110,116]),.func (.func 234) #[.agg s.cells] #[],.string (abB #[116,97,115,107,115]),.func (.func 235) #[.agg s.cells] #[],.string (abB #[115,112,111,116,115]),.func (.func 236) #[.agg s.cells] #[]]
def q0b (P:aji) (W:ajg) (a:Nat) (s:dG) (Inv:Nat->List ajr->Prop):Prop:=
 ∀(i:Nat) (F fr:List ajr) (w:ajg) (A:ajq) (c:Nat),Inv i F->i<7->abr (aJ s i)<=c->Mem W w (.row (.slice A (abr (aJ s i)) c) (abr (aJ s i)) ((aJ s i).map bG) 41 1::(F++fr))->YieldAt acf 0 P a #[.string (qb i),.slice A (abr (aJ s i)) c] w (R3 W fr (Inv (i+1)))
def zal (s:dG) (w:ajg):
    Calls abt 166 #[.agg s.cells] w λr e=>∃d gp,r= .returned (.func (.func 237) #[] #[vP d 0])/\Mem w e [.blk d #[.slice (some ⟨gp,0,none⟩) 7 7] 363,.blk gp (q8 s) 362]:=by
 refine (fE Tryz.func166 27) ?_
 refine (JP∘JE) λj g1=>(Jp 1∘Jr∘eF zr O0∘Jy (h:=by exact Yl.makeFunc (fst:=[.agg s.cells]) (caps:=[]) rfl rfl rfl)∘fu #[.string (abB #[110,101,120,116]),.func (.func 230) #[.agg s.cells] #[]]∘eF zr O0∘Jy (h:=by exact Yl.makeFunc (fst:=[.agg s.cells]) (caps:=[]) rfl rfl rfl)∘fu #[.string (abB #[99,111,110,102,105,103]),.func (.func 231) #[.agg s.cells] #[]]∘eF zr O0∘Jy (h:=by exact Yl.makeFunc (fst:=[.agg s.cells]) (caps:=[]) rfl rfl rfl)∘fu #[.string (abB #[103,114,111,117,112,115]),.func (.func 232) #[.agg s.cells] #[]]∘eF zr O0∘Jy (h:=by exact Yl.makeFunc (fst:=[.agg s.cells]) (caps:=[]) rfl rfl rfl)∘fu #[.string (abB #[99,108,111,99,107,115]),.func (.func 233) #[.agg s.cells] #[]]∘eF zr O0∘Jy (h:=by exact Yl.makeFunc (fst:=[.agg s.cells]) (caps:=[]) rfl rfl rfl)∘fu #[.string (abB #[99,117,114,114,101,110,116]),.func (.func 234) #[.agg s.cells] #[]]∘eF zr O0∘Jy (h:=by exact Yl.makeFunc (fst:=[.agg s.cells]) (caps:=[]) rfl rfl rfl)∘fu #[.string (abB #[116,97,115,107,115]),.func (.func 235) #[.agg s.cells] #[]]∘eF zr O0∘Jy (h:=by exact Yl.makeFunc (fst:=[.agg s.cells]) (caps:=[]) rfl rfl rfl)∘fu #[.string (abB #[115,112,111,116,115]),.func (.func 236) #[.agg s.cells] #[]]) λa Z b=>?_
 refine fo Z 21 rfl rfl (jG Z b zmz [(0,.agg #[.string (abB #[110,101,120,116]),.func (.func 230) #[.agg s.cells] #[]]),(1,.agg #[.string (abB #[99,111,110,102,105,103]),.func (.func 231) #[.agg s.cells] #[]]),(2,.agg #[.string (abB #[103,114,111,117,112,115]),.func (.func 232) #[.agg s.cells] #[]]),(3,.agg #[.string (abB #[99,108,111,99,107,115]),.func (.func 233) #[.agg s.cells] #[]]),(4,.agg #[.string (abB #[99,117,114,114,101,110,116]),.func (.func 234) #[.agg s.cells] #[]]),(5,.agg #[.string (abB #[116,97,115,107,115]),.func (.func 235) #[.agg s.cells] #[]]),(6,.agg #[.string (abB #[115,112,111,116,115]),.func (.func 236) #[.agg s.cells] #[]])] (q8 s) ?_)
 clear Z b;intro a f g Z b
 exact Jb Z b ((JA #[vN]) λk i=>(JW aN aN) λc=>(aI∘Jr∘Jy (h:=by exact Yl.makeFunc (fst:=[]) (caps:=[vP i 0]) rfl rfl rfl)∘Jp 1∘aL∘aQ∘aW) λb=>by exact ⟨_,_,rfl,b.pk [0,1]⟩)
abbrev ah0:=λa b c d=>(.blk a #[vS b 7 7] 363::.blk b (q8 c) 362::d:List ajr)
abbrev ail:=λa b=>(.blk a #[.string (abB #[99,117,114,114,101,110,116]),.func (.func 234) #[.agg b] #[]] 362:ajr)
abbrev aio:=λa b=>(.blk a #[.string (abB #[103,114,111,117,112,115]),.func (.func 232) #[.agg b] #[]] 362:ajr)
abbrev aip:=λa b=>(.blk a #[.string (abB #[99,111,110,102,105,103]),.func (.func 231) #[.agg b] #[]] 362:ajr)
abbrev aiq:=λa b=>(.blk a #[.string (abB #[99,108,111,99,107,115]),.func (.func 233) #[.agg b] #[]] 362:ajr)
abbrev ait:=λa b=>(.blk a #[.string (abB #[115,112,111,116,115]),.func (.func 236) #[.agg b] #[]] 362:ajr)
abbrev aiu:=λa b=>(.blk a #[.string (abB #[116,97,115,107,115]),.func (.func 235) #[.agg b] #[]] 362:ajr)
abbrev aiw:=λa b=>(.blk a #[.string (abB #[110,101,120,116]),.func (.func 230) #[.agg b] #[]] 362:ajr)
abbrev aiM:=λa b c=>((14,vP a 1)::(12,vP a 0)::(11,.func (.yield b) #[] #[])::c:List (Nat×ajh))
def q3y (W w:ajg) (g gp u:Nat) (s:dG) (x:s.st.ay.Ok) (C:cZ s.st) (D:fC W s.st) (hc:gD s.st) (E:ShAt s.st) (Inv:Nat->List ajr->Prop) (H:List ajr) (hy:q0b abt W u s Inv) (I:Inv 0 H) (b:Mem W w (.blk g #[.slice (some ⟨gp,0,none⟩) 7 7] 363:: .blk gp (q8 s) 362::H)):
    Calls abt 237 (.func (.yield u) #[] #[]:: [vP g 0]).toArray w (q68 W (Inv 7)):=by
 refine nZ Tryz.func237 [.func (.yield u) #[] #[],vP g 0] [aik u,(1,vP g 0)] λa Z=>?_
 refine Jb Z b ((JP∘Jc O0∘Jl∘bO 1∘JB) λa Z b=>?_)
 refine qg (λK L M=>∃(k:Nat) (F:List ajr),(k<=7)/\(Inv k F)/\K=7-k/\Fr L 20 [] [(7,vI k),(6,vI 7),(5,vS gp 7 7),aik u]/\Mem W M (ah0 g gp s F)) (m:=7-0) ⟨0,H,by decide,I,rfl,Z.sub kr,b.pt 2 [0,1]⟩ ?_
 clear Z b;rintro K a N ⟨k,F,O,B,rfl,Z,b⟩
 refine Jb Z b ((cB 1∘JQ) (Ji (λJ=>?_) λJ=>?_))
 ·
  repeat (first|clear Z|clear b)
  intro a Z b
  obtain rfl|rfl|rfl|rfl|rfl|rfl|rfl:k=0\/k=1\/k=2\/k=3\/k=4\/k=5\/k=6:=by omega
  ·
   replace Z:=Z.sp 7 (vI 0) rfl rfl
   refine Jb Z b ((eP∘JP∘Jy (v:=vP gp 0) (h:=by exact Yl.indexAddr (ad:=⟨gp,0,none⟩) (y:=0) (sz:=2) rfl rfl rfl de kr)∘Jy (v:= .agg #[.string (abB #[110,101,120,116]),.func (.func 230) #[.agg s.cells] #[]]) (h:=by exact Pe rfl rfl tV rfl (λ_ h=>h.sub (i:=1) rfl 0 rfl))∘JA #[.string (abB #[]),.nilFunc]) λG c=>(JV tV aN) λr=>(bU∘Jj) λa Z b=>?_)
   refine wp_seq ?_
   refine Ei 6 b (aiw c s.cells::ah0 g gp s F) 3 [0,1,2] [] λb l=>?_
   refine ap Z (λ_=>l) [0,1,3] (bf 6 [0,1,3]) (aiM c u []) λa Z=>?_
   refine dJ Z l 2 0 λa Z=>?_
   refine dJ Z l 4 0 λa Z=>?_
   refine s_on Z 5 rfl ?_
   refine zl Z (f:=230) (vs:=[]) (fst:=[.agg s.cells]) (caps:=[]) rfl rfl rfl kr rfl de (zak s x C _ (D.old b)) ?_
   rintro _ z ⟨⟨d,e,rfl,A,j⟩,n⟩
   refine ⟨_,rfl,?_⟩
   replace b:=b.dh n A
   clear Z;intro a Z
   refine av (b.pt 4 [1,2,3]) (λl=>?_)
   refine qe kr ?_
   replace b:=b.pt (fs':=(abp d (aJ s 0) e bG 41 1::aiw c s.cells::ah0 g gp s F)) 4 [0,1,2,3]
   refine vv Z (i:=6) (vs:=[.string (abB #[110,101,120,116]),abo d (aJ s 0) e]) rfl rfl rfl rfl rfl rfl de (hy 0 F (aiw c s.cells::ah0 g gp s []) _ d e B om j (aao (es:=(aiw c s.cells::ah0 g gp s [])) b)) zt ?_
   clear Z b;rintro v o a ⟨t,b,p,q⟩ Z;injection p with p;subst p
   replace b:Mem W o (aiw c s.cells::ah0 g gp s t):=aag (es:=(aiw c s.cells::ah0 g gp s [])) b
   replace Z:=Z.to [(17,.bool true),(7,vI 0),(6,vI 7),(5,vS gp 7 7),aik u]
   refine Jb Z b ((Jp 1∘aL∘Jq∘aP∘JR∘Jv 2 [(7,vI 1)]∘Jq) λa Z b=>?_)
   exact ⟨_,om,1,t,by omega,q,rfl,Z.sub kr,b.pt 3 [1,2]⟩
  ·
   replace Z:=Z.sp 7 (vI 1) rfl rfl
   refine Jb Z b ((eP∘JP∘Jy (v:=vP gp 2) (h:=by exact Yl.indexAddr (ad:=⟨gp,0,none⟩) (y:=1) (sz:=2) rfl rfl rfl de kr)∘Jy (v:= .agg #[.string (abB #[99,111,110,102,105,103]),.func (.func 231) #[.agg s.cells] #[]]) (h:=by exact Pe rfl rfl tV rfl (λ_ h=>h.sub (i:=1) rfl 2 rfl))∘JA #[.string (abB #[]),.nilFunc]) λG c=>(JV tV aN) λr=>(bU∘Jj) λa Z b=>?_)
   refine wp_seq ?_
   refine Ei 6 b (aip c s.cells::ah0 g gp s F) 3 [0,1,2] [] λb l=>?_
   refine ap Z (λ_=>l) [0,1,3] (bf 6 [0,1,3]) (aiM c u []) λa Z=>?_
   refine dJ Z l 2 0 λa Z=>?_
   refine dJ Z l 4 0 λa Z=>?_
   refine s_on Z 5 rfl ?_
   refine zl Z (f:=231) (vs:=[]) (fst:=[.agg s.cells]) (caps:=[]) rfl rfl rfl kr rfl de (qxm s x C _ (D.old b)) ?_
   rintro _ z ⟨⟨d,e,rfl,A,j⟩,n⟩
   refine ⟨_,rfl,?_⟩
   replace b:=b.dh n A
   clear Z;intro a Z
   refine av (b.pt 4 [1,2,3]) (λl=>?_)
   refine qe kr ?_
   replace b:=b.pt (fs':=(abp d (aJ s 1) e bG 41 1::aip c s.cells::ah0 g gp s F)) 4 [0,1,2,3]
   refine vv Z (i:=6) (vs:=[.string (abB #[99,111,110,102,105,103]),abo d (aJ s 1) e]) rfl rfl rfl rfl rfl rfl de (hy 1 F (aip c s.cells::ah0 g gp s []) _ d e B om j (aao (es:=(aip c s.cells::ah0 g gp s [])) b)) zt ?_
   clear Z b;rintro v o a ⟨t,b,p,q⟩ Z;injection p with p;subst p
   replace b:Mem W o (aip c s.cells::ah0 g gp s t):=aag (es:=(aip c s.cells::ah0 g gp s [])) b
   replace Z:=Z.to [(17,.bool true),(7,vI 1),(6,vI 7),(5,vS gp 7 7),aik u]
   refine Jb Z b ((Jp 1∘aL∘Jq∘aP∘JR∘Jv 2 [(7,vI 2)]∘Jq) λa Z b=>?_)
   exact ⟨_,om,2,t,by omega,q,rfl,Z.sub kr,b.pt 3 [1,2]⟩
  ·
   replace Z:=Z.sp 7 (vI 2) rfl rfl
   refine Jb Z b ((eP∘JP∘Jy (v:=vP gp 4) (h:=by exact Yl.indexAddr (ad:=⟨gp,0,none⟩) (y:=2) (sz:=2) rfl rfl rfl de kr)∘Jy (v:= .agg #[.string (abB #[103,114,111,117,112,115]),.func (.func 232) #[.agg s.cells] #[]]) (h:=by exact Pe rfl rfl tV rfl (λ_ h=>h.sub (i:=1) rfl 4 rfl))∘JA #[.string (abB #[]),.nilFunc]) λG c=>(JV tV aN) λr=>(bU∘Jj) λa Z b=>?_)
   refine wp_seq ?_
   refine Ei 6 b (aio c s.cells::ah0 g gp s F) 3 [0,1,2] [] λb l=>?_
   refine ap Z (λ_=>l) [0,1,3] (bf 6 [0,1,3]) (aiM c u []) λa Z=>?_
   refine dJ Z l 2 0 λa Z=>?_
   refine dJ Z l 4 0 λa Z=>?_
   refine s_on Z 5 rfl ?_
   refine zl Z (f:=232) (vs:=[]) (fst:=[.agg s.cells]) (caps:=[]) rfl rfl rfl kr rfl de (qxo s x C _ (D.old b) hc E) ?_
   rintro _ z ⟨⟨d,e,rfl,A,j⟩,n⟩
   refine ⟨_,rfl,?_⟩
   replace b:=b.dh n A
   clear Z;intro a Z
   refine av (b.pt 4 [1,2,3]) (λl=>?_)
   refine qe kr ?_
   replace b:=b.pt (fs':=(abp d (aJ s 2) e bG 41 1::aio c s.cells::ah0 g gp s F)) 4 [0,1,2,3]
   refine vv Z (i:=6) (vs:=[.string (abB #[103,114,111,117,112,115]),abo d (aJ s 2) e]) rfl rfl rfl rfl rfl rfl de (hy 2 F (aio c s.cells::ah0 g gp s []) _ d e B om j (aao (es:=(aio c s.cells::ah0 g gp s [])) b)) zt ?_
   clear Z b;rintro v o a ⟨t,b,p,q⟩ Z;injection p with p;subst p
   replace b:Mem W o (aio c s.cells::ah0 g gp s t):=aag (es:=(aio c s.cells::ah0 g gp s [])) b
   replace Z:=Z.to [(17,.bool true),(7,vI 2),(6,vI 7),(5,vS gp 7 7),aik u]
   refine Jb Z b ((Jp 1∘aL∘Jq∘aP∘JR∘Jv 2 [(7,vI 3)]∘Jq) λa Z b=>?_)
   exact ⟨_,om,3,t,by omega,q,rfl,Z.sub kr,b.pt 3 [1,2]⟩
  ·
   replace Z:=Z.sp 7 (vI 3) rfl rfl
   refine Jb Z b ((eP∘JP∘Jy (v:=vP gp 6) (h:=by exact Yl.indexAddr (ad:=⟨gp,0,none⟩) (y:=3) (sz:=2) rfl rfl rfl de kr)∘Jy (v:= .agg #[.string (abB #[99,108,111,99,107,115]),.func (.func 233) #[.agg s.cells] #[]]) (h:=by exact Pe rfl rfl tV rfl (λ_ h=>h.sub (i:=1) rfl 6 rfl))∘JA #[.string (abB #[]),.nilFunc]) λG c=>(JV tV aN) λr=>(bU∘Jj) λa Z b=>?_)
   refine wp_seq ?_
   refine Ei 6 b (aiq c s.cells::ah0 g gp s F) 3 [0,1,2] [] λb l=>?_
   refine ap Z (λ_=>l) [0,1,3] (bf 6 [0,1,3]) (aiM c u []) λa Z=>?_
   refine dJ Z l 2 0 λa Z=>?_
   refine dJ Z l 4 0 λa Z=>?_
   refine s_on Z 5 rfl ?_
   refine zl Z (f:=233) (vs:=[]) (fst:=[.agg s.cells]) (caps:=[]) rfl rfl rfl kr rfl de (qxn s x C _ (D.old b)) ?_
   rintro _ z ⟨⟨d,e,rfl,A,j⟩,n⟩
   refine ⟨_,rfl,?_⟩
   replace b:=b.dh n A
   clear Z;intro a Z
   refine av (b.pt 4 [1,2,3]) (λl=>?_)
   refine qe kr ?_
   replace b:=b.pt (fs':=(abp d (aJ s 3) e bG 41 1::aiq c s.cells::ah0 g gp s F)) 4 [0,1,2,3]
   refine vv Z (i:=6) (vs:=[.string (abB #[99,108,111,99,107,115]),abo d (aJ s 3) e]) rfl rfl rfl rfl rfl rfl de (hy 3 F (aiq c s.cells::ah0 g gp s []) _ d e B om j (aao (es:=(aiq c s.cells::ah0 g gp s [])) b)) zt ?_
   clear Z b;rintro v o a ⟨t,b,p,q⟩ Z;injection p with p;subst p
   replace b:Mem W o (aiq c s.cells::ah0 g gp s t):=aag (es:=(aiq c s.cells::ah0 g gp s [])) b
   replace Z:=Z.to [(17,.bool true),(7,vI 3),(6,vI 7),(5,vS gp 7 7),aik u]
   refine Jb Z b ((Jp 1∘aL∘Jq∘aP∘JR∘Jv 2 [(7,vI 4)]∘Jq) λa Z b=>?_)
   exact ⟨_,om,4,t,by omega,q,rfl,Z.sub kr,b.pt 3 [1,2]⟩
  ·
   replace Z:=Z.sp 7 (vI 4) rfl rfl
   refine Jb Z b ((eP∘JP∘Jy (v:=vP gp 8) (h:=by exact Yl.indexAddr (ad:=⟨gp,0,none⟩) (y:=4) (sz:=2) rfl rfl rfl de kr)∘Jy (v:= .agg #[.string (abB #[99,117,114,114,101,110,116]),.func (.func 234) #[.agg s.cells] #[]]) (h:=by exact Pe rfl rfl tV rfl (λ_ h=>h.sub (i:=1) rfl 8 rfl))∘JA #[.string (abB #[]),.nilFunc]) λG c=>(JV tV aN) λr=>(bU∘Jj) λa Z b=>?_)
   refine wp_seq ?_
   refine Ei 6 b (ail c s.cells::ah0 g gp s F) 3 [0,1,2] [] λb l=>?_
   refine ap Z (λ_=>l) [0,1,3] (bf 6 [0,1,3]) (aiM c u []) λa Z=>?_
   refine dJ Z l 2 0 λa Z=>?_
   refine dJ Z l 4 0 λa Z=>?_
   refine s_on Z 5 rfl ?_
   refine zl Z (f:=234) (vs:=[]) (fst:=[.agg s.cells]) (caps:=[]) rfl rfl rfl kr rfl de (qum s x C _ (D.old b)) ?_
   rintro _ z ⟨⟨d,e,rfl,A,j⟩,n⟩
   refine ⟨_,rfl,?_⟩
   replace b:=b.dh n A
   clear Z;intro a Z
   refine av (b.pt 4 [1,2,3]) (λl=>?_)
   refine qe kr ?_
   replace b:=b.pt (fs':=(abp d (aJ s 4) e bG 41 1::ail c s.cells::ah0 g gp s F)) 4 [0,1,2,3]
   refine vv Z (i:=6) (vs:=[.string (abB #[99,117,114,114,101,110,116]),abo d (aJ s 4) e]) rfl rfl rfl rfl rfl rfl de (hy 4 F (ail c s.cells::ah0 g gp s []) _ d e B om j (aao (es:=(ail c s.cells::ah0 g gp s [])) b)) zt ?_
   clear Z b;rintro v o a ⟨t,b,p,q⟩ Z;injection p with p;subst p
   replace b:Mem W o (ail c s.cells::ah0 g gp s t):=aag (es:=(ail c s.cells::ah0 g gp s [])) b
   replace Z:=Z.to [(17,.bool true),(7,vI 4),(6,vI 7),(5,vS gp 7 7),aik u]
   refine Jb Z b ((Jp 1∘aL∘Jq∘aP∘JR∘Jv 2 [(7,vI 5)]∘Jq) λa Z b=>?_)
   exact ⟨_,om,5,t,by omega,q,rfl,Z.sub kr,b.pt 3 [1,2]⟩
  ·
   replace Z:=Z.sp 7 (vI 5) rfl rfl
   refine Jb Z b ((eP∘JP∘Jy (v:=vP gp 10) (h:=by exact Yl.indexAddr (ad:=⟨gp,0,none⟩) (y:=5) (sz:=2) rfl rfl rfl de kr)∘Jy (v:= .agg #[.string (abB #[116,97,115,107,115]),.func (.func 235) #[.agg s.cells] #[]]) (h:=by exact Pe rfl rfl tV rfl (λ_ h=>h.sub (i:=1) rfl 10 rfl))∘JA #[.string (abB #[]),.nilFunc]) λG c=>(JV tV aN) λr=>(bU∘Jj) λa Z b=>?_)
   refine wp_seq ?_
   refine Ei 6 b (aiu c s.cells::ah0 g gp s F) 3 [0,1,2] [] λb l=>?_
   refine ap Z (λ_=>l) [0,1,3] (bf 6 [0,1,3]) (aiM c u []) λa Z=>?_
   refine dJ Z l 2 0 λa Z=>?_
   refine dJ Z l 4 0 λa Z=>?_
   refine s_on Z 5 rfl ?_
   refine zl Z (f:=235) (vs:=[]) (fst:=[.agg s.cells]) (caps:=[]) rfl rfl rfl kr rfl de (q3w s x C _ (D.old b) hc E) ?_
   rintro _ z ⟨⟨d,e,rfl,A,j⟩,n⟩
   refine ⟨_,rfl,?_⟩
   replace b:=b.dh n A
   clear Z;intro a Z
   refine av (b.pt 4 [1,2,3]) (λl=>?_)
   refine qe kr ?_
   replace b:=b.pt (fs':=(abp d (aJ s 5) e bG 41 1::aiu c s.cells::ah0 g gp s F)) 4 [0,1,2,3]
   refine vv Z (i:=6) (vs:=[.string (abB #[116,97,115,107,115]),abo d (aJ s 5) e]) rfl rfl rfl rfl rfl rfl de (hy 5 F (aiu c s.cells::ah0 g gp s []) _ d e B om j (aao (es:=(aiu c s.cells::ah0 g gp s [])) b)) zt ?_
   clear Z b;rintro v o a ⟨t,b,p,q⟩ Z;injection p with p;subst p
   replace b:Mem W o (aiu c s.cells::ah0 g gp s t):=aag (es:=(aiu c s.cells::ah0 g gp s [])) b
   replace Z:=Z.to [(17,.bool true),(7,vI 5),(6,vI 7),(5,vS gp 7 7),aik u]
   refine Jb Z b ((Jp 1∘aL∘Jq∘aP∘JR∘Jv 2 [(7,vI 6)]∘Jq) λa Z b=>?_)
   exact ⟨_,om,6,t,by omega,q,rfl,Z.sub kr,b.pt 3 [1,2]⟩
  ·
   replace Z:=Z.sp 7 (vI 6) rfl rfl
   refine Jb Z b ((eP∘JP∘Jy (v:=vP gp 12) (h:=by exact Yl.indexAddr (ad:=⟨gp,0,none⟩) (y:=6) (sz:=2) rfl rfl rfl de kr)∘Jy (v:= .agg #[.string (abB #[115,112,111,116,115]),.func (.func 236) #[.agg s.cells] #[]]) (h:=by exact Pe rfl rfl tV rfl (λ_ h=>h.sub (i:=1) rfl 12 rfl))∘JA #[.string (abB #[]),.nilFunc]) λG c=>(JV tV aN) λr=>(bU∘Jj) λa Z b=>?_)
   refine wp_seq ?_
   refine Ei 6 b (ait c s.cells::ah0 g gp s F) 3 [0,1,2] [] λb l=>?_
   refine ap Z (λ_=>l) [0,1,3] (bf 6 [0,1,3]) (aiM c u []) λa Z=>?_
   refine dJ Z l 2 0 λa Z=>?_
   refine dJ Z l 4 0 λa Z=>?_
   refine s_on Z 5 rfl ?_
   refine zl Z (f:=236) (vs:=[]) (fst:=[.agg s.cells]) (caps:=[]) rfl rfl rfl kr rfl de (q3x s x C _ (D.old b) hc E) ?_
   rintro _ z ⟨⟨d,e,rfl,A,j⟩,n⟩
   refine ⟨_,rfl,?_⟩
   replace b:=b.dh n A
   clear Z;intro a Z
   refine av (b.pt 4 [1,2,3]) (λl=>?_)
   refine qe kr ?_
   replace b:=b.pt (fs':=(abp d (aJ s 6) e bG 41 1::ait c s.cells::ah0 g gp s F)) 4 [0,1,2,3]
   refine vv Z (i:=6) (vs:=[.string (abB #[115,112,111,116,115]),abo d (aJ s 6) e]) rfl rfl rfl rfl rfl rfl de (hy 6 F (ait c s.cells::ah0 g gp s []) _ d e B om j (aao (es:=(ait c s.cells::ah0 g gp s [])) b)) zt ?_
   clear Z b;rintro v o a ⟨t,b,p,q⟩ Z;injection p with p;subst p
   replace b:Mem W o (ait c s.cells::ah0 g gp s t):=aag (es:=(ait c s.cells::ah0 g gp s [])) b
   replace Z:=Z.to [(17,.bool true),(7,vI 6),(6,vI 7),(5,vS gp 7 7),aik u]
   refine Jb Z b ((Jp 1∘aL∘Jq∘aP∘JR∘Jv 2 [(7,vI 7)]∘Jq) λa Z b=>?_)
   exact ⟨_,om,7,t,by omega,q,rfl,Z.sub kr,b.pt 3 [1,2]⟩
 refine (JF∘JX) ?_
 obtain rfl:k=7:=by omega
 intro a Z b
 exact iD rfl Z ⟨_,rfl,F,aam (ah0 g gp s []) b,B⟩
structure En where
 v:Nat
 r:Nat
 w:Nat
abbrev oh:Nat:=18446744073709551615
def En.add (x:En) (d:Nat):En:=
 if oh-x.v<=(d*1048576+x.r)/x.w then ⟨oh,0,x.w⟩ else ⟨x.v+(d*1048576+x.r)/x.w,(d*1048576+x.r)%x.w,x.w⟩
def En.woken (x:En) (floor aj:Nat):En:=if x.v<floor-aj then ⟨floor-aj,0,x.w⟩ else x
def uQ (v fr to:Nat):Nat:=if fr<=v then to+min (v-fr) (oh-to) else to-min to (fr-v)
def En.moved (x:En) (fr to:Nat):En:=⟨uQ x.v fr to,if uQ x.v fr to=oh then 0 else x.r,x.w⟩
def Tk.en (t:Tk):En:=⟨t.v,t.r,t.weight.toNat⟩
def Tk.put (t:Tk) (x:En):Tk:={t with v:=x.v,r:=x.r,weight:=x.w}
def bI.kQ (s:bI) (g c:Nat):En:=⟨(s.spot g c).v,(s.spot g c).r,(s.gs.getD g Gr.zero).weight.toNat⟩
structure bQ where
 kind:Nat
 cpu:Int
 task:Int
 group:Int
 weight:Int
 to:Int
 ticks:Int
 mask:Nat
structure bQ.Ok (x:bQ):Prop where
 kind:x.kind<256
 cpu:aX x.cpu
 task:aX x.task
 group:aX x.group
 weight:aX x.weight
 to:aX x.to
 ticks:aX x.ticks
 mask:x.mask<18446744073709551616
def bI.jT (s:bI) (i:Nat) (t:Tk):bI:={s with ts:=s.ts.set i t}
def bI.yO (s:bI) (g c:Nat) (x:Sp):bI:={s with sp:=s.sp.set g ((s.sp.getD g []).set c x)}
def bI.wO (s:bI) (g c:Nat) (x:En):bI:=s.yO g c {s.spot g c with v:=x.v,r:=x.r}
def bI.qU (s:bI) (c:Int):Bool:=decide (0<=c/\c<s.au)
def pI (id:Int):Bool:=decide (1<=id/\id<=65535)
def sJ (s:bI) (c:Nat):Nat->Nat->List Nat
 |0,_=>[]
 |f+1,g=>if g=0 then [] else if (aU s g c).isEmpty then g::sJ s c f (s.par g).toNat else []
def lN (s:bI) (g c:Nat):List Nat:=sJ s c g g
def mq (c:Nat) (s:bI) (g:Nat):bI:=s.wO g c ((s.kQ g c).woken (s.spot (s.par g).toNat c).floor s.aj)
def iw (s:bI) (l:List Nat) (c:Nat):bI:=l.foldl (mq c) s
def iW (s:bI) (g c:Nat) (x:Sp):Sp:=if (aU s g c).isEmpty then x else {x with floor:=max x.floor (aO bP (aU s g c)).v}
def gF (s:bI):bI:={s with sp:=s.sp.mapIdx λg l=>l.mapIdx λc x=>iW s g c x}
def yP (s:bI) (c:Nat):Nat->Nat->Nat
 |0,_=>0
 |f+1,g=>if (aU s g c).isEmpty then 0 else if (aO bP (aU s g c)).k=0 then (aO bP (aU s g c)).id else yP s c f (aO bP (aU s g c)).id
def qD (s:bI) (c:Nat):Nat:=yP s c (abr s.sp) 0
def aH (s:bI) (c:Nat):Int:=(s.ts.map λt=>if t.ready&&decide (t.cpu=(c:Int)) then t.weight else (0:Int)).sum
def jJ (m:Nat) (c:Int):Bool:=decide (m/2^c.toNat%2=1)
abbrev iX:=bI×Int×Nat
def zS (s:bI) (o:bQ):iX:=
 if s.qU o.cpu=false then (s,0,300)
 else if pI o.task=false then (s,0,301)
 else if ¬(0<=o.group/\o.group<abr s.sp) then (s,0,302)
 else if mK o.weight=false\/o.mask=0\/yN o.mask s.au=true then (s,0,2)
 else if 0<=fidx s.ts o.task then (s,0,303)
 else if jJ o.mask o.cpu=false then (s,0,305)
 else (iw {s with ts:=(s.ts.takeWhile λt=>decide (t.id<=o.task))++(⟨o.task,o.group,o.weight,o.cpu,o.mask,true,(s.spot o.group.toNat o.cpu.toNat).floor,0⟩::(s.ts.dropWhile λt=>decide (t.id<=o.task)))} (lN s o.group.toNat o.cpu.toNat) o.cpu.toNat,0,0)
def pJ (s:bI) (id:Int):Tk:=s.ts.getD (fidx s.ts id).toNat Tk.zero
def zU (s:bI) (o:bQ):iX:=
 if pI o.task=false then (s,0,301)
 else if fidx s.ts o.task<0 then (s,0,6)
 else if (pJ s o.task).ready=true then (s,0,304)
 else
  let t:=pJ s o.task
  (iw (s.jT (fidx s.ts o.task).toNat {t.put (t.en.woken (s.spot t.group.toNat t.cpu.toNat).floor s.aj) with ready:=true}) (lN s t.group.toNat t.cpu.toNat) t.cpu.toNat,0,0)
def tC (s:bI) (o:bQ):iX:=
 if s.qU o.cpu=false then (s,0,300)
 else if s.cu.getD o.cpu.toNat 0=0 then (s,0,6)
 else
  let id:=s.cu.getD o.cpu.toNat 0
  let i:=(fidx s.ts id).toNat
  let s1:={s with cu:=s.cu.set o.cpu.toNat 0,ts:=s.ts.set i {s.ts.getD i Tk.zero with ready:=false}}
  (if o.kind=4 then {s1 with ts:=s1.ts.eraseIdx i} else s1,id,0)
def qV (c d:Nat):Nat->Nat->bI->bI
 |0,_,s=>s
 |f+1,g,s=>if g=0 then s else qV c d f (s.par g).toNat (s.wO g c ((s.kQ g c).add d))
def jU (s:bI) (o:bQ):iX:=
 if s.qU o.cpu=false then (s,0,300)
 else if ¬(1<=o.ticks/\o.ticks<=4294967295) then (s,0,2)
 else if 281474976710656<s.cl.getD o.cpu.toNat 0+o.ticks then (s,0,4)
 else
  let s1:={s with cl:=s.cl.set o.cpu.toNat (s.cl.getD o.cpu.toNat 0+o.ticks)}
  if s.cu.getD o.cpu.toNat 0=0 then (s1,0,0)
  else
   let id:=s.cu.getD o.cpu.toNat 0
   let t:=pJ s id
   (qV o.cpu.toNat o.ticks.toNat t.group.toNat t.group.toNat (s1.jT (fidx s.ts id).toNat (t.put (t.en.add o.ticks.toNat))),id,0)
def kZ (s:bI) (o:bQ):iX:=
 if s.qU o.cpu=false then (s,0,300)
 else ({s with cu:=s.cu.set o.cpu.toNat (qD s o.cpu.toNat)},qD s o.cpu.toNat,0)
def zV (s:bI) (o:bQ):iX:=
 if pI o.task=false then (s,0,301)
 else if mK o.weight=false then (s,0,2)
 else if fidx s.ts o.task<0 then (s,0,6)
 else (s.jT (fidx s.ts o.task).toNat {pJ s o.task with r:=0,weight:=o.weight},0,0)
def zW (s:bI) (o:bQ):iX:=
 if ¬(1<=o.group/\o.group<abr s.sp) then (s,0,302)
 else if mK o.weight=false then (s,0,2)
 else ({s with sp:=s.sp.set o.group.toNat ((s.sp.getD o.group.toNat []).map λx=>{x with r:=0}),gs:=s.gs.set o.group.toNat {s.gs.getD o.group.toNat Gr.zero with weight:=o.weight}},0,0)
def jK (s:bI) (i:Nat) (to:Int):bI:=
 let t:=s.ts.getD i Tk.zero
 let s1:=s.jT i {t.put (t.en.moved (s.spot t.group.toNat t.cpu.toNat).floor (s.spot t.group.toNat to.toNat).floor) with cpu:=to}
 if t.ready then iw s1 (lN s t.group.toNat to.toNat) to.toNat else s1
def zX (s:bI) (o:bQ):iX:=
 if s.qU o.to=false then (s,0,300)
 else if pI o.task=false then (s,0,301)
 else if fidx s.ts o.task<0 then (s,0,6)
 else if o.task∈s.cu then (s,0,304)
 else if (pJ s o.task).cpu=o.to then (s,0,2)
 else if jJ (pJ s o.task).mask o.to=false then (s,0,305)
 else (jK s (fidx s.ts o.task).toNat o.to,0,0)
def jk (s:bI) (cpu:Int):Nat->Int×Int
 |0=>(-1,-1)
 |c+1=>if (c:Int)≠cpu/\(jk s cpu c).2<aH s c then ((c:Int),aH s c) else jk s cpu c
def uR (s:bI) (o:bQ) (t:Tk):Bool:=t.ready&& (decide (t.cpu=(jk s o.cpu s.au.toNat).1)&& (jJ t.mask o.cpu&& (decide (s.cu.getD t.cpu.toNat 0≠t.id)&&decide (2*t.weight<=(jk s o.cpu s.au.toNat).2-aH s o.cpu.toNat))))
def gT (s:bI) (o:bQ):Nat->Option Nat
 |0=>none
 | n + 1 => if uR s o (s.ts.getD n Tk.zero) then match gT s o n with
   |none=>some n
   |some b=>if (s.ts.getD b Tk.zero).weight<(s.ts.getD n Tk.zero).weight then some n else some b
  else gT s o n
def wP (s:bI) (o:bQ):iX:=
 if s.qU o.cpu=false then (s,0,300)
 else match gT s o (abr s.ts) with
  |none=>(s,0,6)
  |some b=>(jK s b o.cpu,(s.ts.getD b Tk.zero).id,0)
def dM (s:bI) (o:bQ):iX:=
 match o.kind with
 |1=>zS s o
 |2=>zU s o
 |3=>tC s o
 |4=>tC s o
 |5=>jU s o
 |6=>kZ s o
 |7=>zV s o
 |8=>zW s o
 |9=>zX s o
 |10=>wP s o
 |_=>(s,0,2)
def tF (s:bI) (o:bQ):iX:=if (dM s o).2.2≠0 then (s,0,(dM s o).2.2) else (gF (dM s o).1,(dM s o).2.1,0)
def newS (au:Int) (aj:Nat) (gs:List Gr):bI:=⟨au,aj,gs,abG au.toNat 0,abG au.toNat 0,[],abG (abr gs) (abG au.toNat Sp.zero)⟩
def zF (f y:Nat):List (Nat×Bool):=if y<128 then [] else iR (f-1) (y/128)
def q5h {f y:Nat} (a:0<f):iR f y=(y%128,decide (127<y))::zF f y:=by
 obtain ⟨k,rfl⟩:∃k,f=k+1:=⟨f-1,by omega⟩
 unfold zF
 by_cases h:y<128
 ·rw [Ez k y h,if_pos h,decide_eq_false om,Nat.mod_eq_of_lt h]
 ·rw [EA k y om,if_neg h,decide_eq_true om,adt]
def zcr {f y:Nat} (h:¬127<y):zF f y=[]:=if_pos om
def q5i {f y:Nat} (h:127<y):zF f y=iR (f-1) (y/128):=if_neg om
def Yt {f y:Nat} (h:y<128^f) (h1:127<y):y/128<128^ (f-1)/\0<f-1:=by
 rcases f with _|_|f
 ·rw [Nat.pow_zero] at h;omega
 ·rw [ab9,Nat.pow_one] at h;omega
 ·rw [afH] at h
  exact ⟨by rw [adt];omega,by omega⟩
def Yu (W:ajg) (b:Nat) (Inv:List (Nat×Bool)->List ajr->Prop):Prop:=
 ∀(g:Nat) (m:Bool) (t:List (Nat×Bool)) (F fr:List ajr) (w:ajg),g<128->Inv ((g,m)::t) F->Mem W w (F++fr)->
  YieldAt acf 0 abt b #[.int .u8 (g:Int),.bool m] w λe c=>∃a,Mem W c (a++fr)/\e= .returned (.bool true)/\Inv t a
def zj6 (W:ajg) (Inv:List (Nat×Bool)->List ajr->Prop) (r:ajk) (b:ajg):Prop:=∃v,r= .returned v/\∃a,Mem W b a/\Inv [] a
def qsi {W:ajg} {fr:List ajr} {I:List ajr->Prop}:∀(e:ajk) (b:ajg),(∃a,Mem W b (a++fr)/\e= .returned (.bool true)/\I a)->∃v,e= .returned v
 |_,_,⟨_,_,h,_⟩=>⟨_,h⟩
def A8 (W:ajg) (n:Nat) (ys:List ajh) (x:Nat) (fr:List ajr) (r:ajk) (a:ajg):Prop:=
 ∃A c,r= .returned (.slice A (n+abr (ak x)) c)/\n+abr (ak x)<=c/\Mem W a (.row (.slice A (n+abr (ak x)) c) (n+abr (ak x)) (ys++(ak x).map B8) 5 1::fr)
def zcs {ys:List ajh} {fr:List ajr} (hz:l++([]:List (Nat×Bool)).map bK=ak x) (hc:n+abr l<=c) (a:Mem W w (.row (.slice A (n+abr l) c) (n+abr l) (ys++l.map B8) 5 1::fr)):A8 W n ys x fr (.returned (.slice A (n+abr l) c)) w:=by
 rw [adF,abN] at hz
 subst hz
 exact ⟨A,c,rfl,hc,a⟩
def q5o (W w:ajg) (c d x:Nat) (u:x<18446744073709551616) (Inv:List (Nat×Bool)->List ajr->Prop) (l:List ajr) (hy:Yu W d Inv) (n:Inv (iR 10 x) l) (b:Mem W w (.blk c #[vQ x] 41::l)):
    Calls abt 239 (.func (.yield d) #[] #[]:: [vP c 0]).toArray w (zj6 W Inv):=by
 refine nZ Tryz.func239 [.func (.yield d) #[] #[],vP c 0] [aik d,(1,vP c 0)] λa Z=>?_
 refine Jb Z b ((JB) λa Z b=>?_)
 refine qg (λs z A=>∃(f:Nat) (y:Nat) (F:List ajr),(0<f)/\(y<128^f)/\(y<18446744073709551616)/\(Inv (iR f y) F)/\s=0+y/\Fr z 16 [] [aik d,(1,vP c 0)]/\Mem W A (.blk c #[vQ y] 41::F)) (m:=0+x) ⟨10,x,l,de,om,u,n,rfl,Z.sub kr,b.pt 1 [0]⟩ ?_
 clear Z b;rintro s a D ⟨f,y,F,B,e,g,C,rfl,Z,b⟩
 refine Jb Z b ((JQ) λa Z b=>?_)
 refine wp_seq ?_
 refine Gv (i:=6) ?_
 refine Jb Z b ((Jp 1∘Jc O0∘Jp 1∘Jo (vQ (y%128:Nat)) (by exact congrArg _ (zof y g))∘Jv 1 [(6,vB (IntKind.u8.wrap ((y%128:Nat):Int)))]∘Jo (vB (y%128:Nat)) (by exact congrArg _ (zog _ om))∘Jc O0∘Jp 1∘Jo (.bool (decide (127<y))) (by exact congrArg abP (decide_eq_decide.2 om))∘Jq) λa Z b=>?_)
 refine vv Z (i:=6) (vs:=[vB (y%128:Nat),.bool (decide (127<y))]) rfl rfl rfl rfl rfl rfl de (hy _ _ _ F _ _ (adJ _ de) (by rw [<-q5h B];exact C) (aag (F:=[.blk c #[vQ y] 41]) b)) qsi ?_
 clear Z b;rintro v o a ⟨p,b,r,h⟩ Z;injection r with r;subst r
 replace b:Mem W o (.blk c #[vQ y] 41::p):=aag (es:=[.blk c #[vQ y] 41]) b
 refine Jb Z b ((Jp 1∘Jc O0∘Jp 2∘aI∘Jq) (Ji (λk=>?_) λk=>?_))
 ·
  refine (JT∘ET∘JB∘JR∘Jc O0∘Jp 1∘Jo (vQ (y/128:Nat)) (by exact vo .u64 y (j:=7) (q:=128) rfl rfl)∘JW aN aN) λt=>(nO∘Jq) λa Z b=>?_
  exact ⟨_,om,(f-1),(y/128),p,(Yt e om).2,(Yt e om).1,by omega,by rw [<-q5i om];exact h,rfl,Z.sub kr,b.pt 1 [0]⟩
 refine (JF∘JX) λa Z b=>?_
 exact iD rfl Z (⟨_,rfl,p,aam [.blk c #[vQ y] 41] b,by rw [<-zcr (f:=f) (y:=y) om];exact h⟩)
def zcu (x:Nat) (w:ajg):
    Calls abt 168 #[vQ x] w λr a=>∃g,r= .returned (.func (.func 239) #[] #[vP g 0])/\Mem w a [.blk g #[vQ x] 41]:=by
 refine (fE Tryz.func168 4) ?_
 exact (JP∘uH) λc g1=>(Jp 1∘Jr∘Jy (h:=by exact Yl.makeFunc (fst:=[]) (caps:=[vP g1 0]) rfl rfl rfl)∘Jp 1∘aL∘aQ∘aW) λb=>by exact ⟨_,rfl,b⟩
abbrev ah7:=λa b c d=>(.blk a #[.slice b c d] 30:ajr)
abbrev aiP:=λa b c d e f g=>(.row (.slice a (b+abr (c++[bK (d,e)])) f) (b+abr (c++[bK (d,e)])) g 5 1:ajr)
def YD (W w:ajg) (x:Nat) (M:x<18446744073709551616) (A:ajq) (n c:Nat) (ys:List ajh) (fr:List ajr) (V:n<=100000000000) (hc:n<=c) (d:Mem W w (.row (.slice A n c) n ys 5 1::fr)):
    Calls abt 109 #[.slice A n c,vQ x] w (A8 W n ys x fr):=by
 refine Cz (vs:=[.slice A n c,vQ x]) Tryz.func109 rfl rfl kr (σ0:=[(0,.slice A n c),(1,vQ x)]) rfl ?_
 intro a Z
 refine Jb Z d ((JP∘uH) λN s=>(bO 1∘bM 1∘JL (h:=by exact λd=>zcu x _)) ?_)
 rintro d _ X ⟨O,rfl,hm⟩
 refine ⟨_,rfl,_,d.join hm,?_⟩
 refine (aL∘Jq∘JC (h:=by exact λd=>d.bq (i:=2) (ys:=ys++([]:List Nat).map B8) rfl rfl (by rw [adF,abN]))∘JG∘JB) λa Z d=>?_
 refine Cy Z d (λF=>∃(b:List Nat) (l:ajq) (j:Nat),(b++(([]:List (Nat×Bool))).map bK=ak x)/\(n+abr b<=j)/\F=(ah7 s l (n+abr b) j::.row (.slice l (n+abr b) j) (n+abr b) (ys++b.map B8) 5 1::fr)) (λ_ _=>False) rfl kr ?_ ?_ ?_
 ·
  clear Z d;intro z y o P E d
  have Q:Yu W z (λG F=>∃(b:List Nat) (l:ajq) (j:Nat),(b++(G).map bK=ak x)/\(n+abr b<=j)/\F=(.obj z (.loop (o .ready none)):: .obj y (.deferred (some []))::(ah7 s l (n+abr b) j::.row (.slice l (n+abr b) j) (n+abr b) (ys++b.map B8) 5 1::fr))):=by
   rintro q m t F p R S ⟨b,l,j,hz,C,rfl⟩ d
   have T:abr b<=10:=by have h:=congrArg List.length hz;rw [abu] at h;have:=Ci x;omega
   replace d:Mem W R (ah5 z (o .ready none)::ahY y::ah7 s l (n+abr b) j::.row (.slice l (n+abr b) j) (n+abr b) (ys++b.map B8) 5 1::(fr++(p))):=(by simpa only [aeu,aby,acX] using d)
   refine EO (v1:=vB q) (v2:= .bool m) E d de de λa Z=>?_
   refine wpIn_seq ?_
   refine qk ?_
   refine Jb Z d ((Jp 1∘Jq) λa Z d=>?_)
   refine qk ?_
   refine Jb Z d ((Jp 1∘Jq) λa Z d=>?_)
   refine ⟨(ahY y::ah7 s l (n+abr b) j::.row (.slice l (n+abr b) j) (n+abr b) (ys++b.map B8) 5 1::(fr++(p))),d.pt (fs':=(ah5 z (o .ready none)::ahY y::ah7 s l (n+abr b) j::.row (.slice l (n+abr b) j) (n+abr b) (ys++b.map B8) 5 1::(fr++(p)))) 4 [0,1,2,3],λY d=>?_⟩
   refine wpIn_block ?_
   refine wpIn_seq ?_
   refine wpIn_seq ?_
   refine qk ?_
   refine Jb Z d ((Jp 1∘Jq) (Ju (λu=>?_) λu=>?_))
   ·
    intro a Z d
    have D:bK (q,m)=q+128:=by rw [u];rfl
    refine Cw Z rfl ?_
    refine qk ?_
    refine Jb Z d ((Jp 2∘Jo (vB (q+128:Nat)) (by exact congrArg _ (F8 q S))∘Jp 1∘bU∘Jq) λa Z d=>?_)
    refine qk ?_
    refine Jb Z d ((Jc O2∘Jp 1∘JU bD #[vB (q+128:Nat)]) λI J=>(JD [B8 (bK (q,m))] 4 (λ_ _=>qK) bD (hr:=by exact λd=>(by rw [D];exact d.bE (i:=0) (n:=1) (size:=1) rfl rfl)) (h1:=by exact uw [bK (q,m)])) λK e f k=>(JW oI aN) λH=>(wu∘Jq) λa Z d=>?_)
    have g:(n+abr b)+1=(n+abr (b++[bK (q,m)])):=by rw [abu];rfl
    rw [g] at k
    replace d:=d.bq (i:=4) (ys:=(ys++(b++[bK (q,m)]).map B8)) rfl g (by rw [abW,aby];rfl)
    replace d:=d.dX (i:=3) (ds:= #[.slice e (n+abr (b++[bK (q,m)])) f]) rfl (by rw [g])
    refine ⟨(ahY y::ah7 s e (n+abr (b++[bK (q,m)])) f::aiP e n b q m f (ys++(b++[bK (q,m)]).map B8)::(fr++(p))),d.pt (fs':=(ah5 z (o .busy none)::ahY y::ah7 s e (n+abr (b++[bK (q,m)])) f::aiP e n b q m f (ys++(b++[bK (q,m)]).map B8)::(fr++(p)))) 5 [1,2,3,4],λU d=>?_⟩
    exact ⟨(ah5 z (o .ready none)::ahY y::ah7 s e (n+abr (b++[bK (q,m)])) f::aiP e n b q m f (ys++(b++[bK (q,m)]).map B8)::fr),(by simpa only [aeu,aby,acX] using d),rfl,(b++[bK (q,m)]),e,f,by rw [aby];exact hz,k,rfl⟩
   intro a Z d
   have D:bK (q,m)=q:=by rw [u];rfl
   refine Cx Z rfl ?_
   refine wpIn_skip ?_
   refine qk ?_
   refine Jb Z d ((Jc O2∘Jp 1∘JU bD #[vB q]) λI J=>(JD [B8 (bK (q,m))] 4 (λ_ _=>qK) bD (hr:=by exact λd=>(by rw [D];exact d.bE (i:=0) (n:=1) (size:=1) rfl rfl)) (h1:=by exact uw [bK (q,m)])) λK e f k=>(JW oI aN) λH=>(wu∘Jq) λa Z d=>?_)
   have g:(n+abr b)+1=(n+abr (b++[bK (q,m)])):=by rw [abu];rfl
   rw [g] at k
   replace d:=d.bq (i:=4) (ys:=(ys++(b++[bK (q,m)]).map B8)) rfl g (by rw [abW,aby];rfl)
   replace d:=d.dX (i:=3) (ds:= #[.slice e (n+abr (b++[bK (q,m)])) f]) rfl (by rw [g])
   refine ⟨(ahY y::ah7 s e (n+abr (b++[bK (q,m)])) f::aiP e n b q m f (ys++(b++[bK (q,m)]).map B8)::(fr++(p))),d.pt (fs':=(ah5 z (o .busy none)::ahY y::ah7 s e (n+abr (b++[bK (q,m)])) f::aiP e n b q m f (ys++(b++[bK (q,m)]).map B8)::(fr++(p)))) 5 [1,2,3,4],λU d=>?_⟩
   exact ⟨(ah5 z (o .ready none)::ahY y::ah7 s e (n+abr (b++[bK (q,m)])) f::aiP e n b q m f (ys++(b++[bK (q,m)]).map B8)::fr),(by simpa only [aeu,aby,acX] using d),rfl,(b++[bK (q,m)]),e,f,by rw [aby];exact hz,k,rfl⟩
  refine (q5o W P O z x M _ _ Q ⟨[],A,c,rfl,hc,rfl⟩ (d.pt 5 [2,0,1,3,4])).mono ?_
  rintro r N ⟨v,rfl,F2,L,⟨b,l,j,hz,C,rfl⟩⟩
  exact ⟨v,rfl,.inl ⟨_,⟨b,l,j,hz,C,rfl⟩,L⟩⟩
 ·
  clear Z d;rintro B a w6 _ ⟨b,l,j,hz,C,rfl⟩ Z d
  refine Jb Z d ((JG∘JP∘Jc O1∘Jp 1∘aL∘aQ) λa Z d=>?_)
  refine yH Z d (i:=0) rfl λa w7 Z d=>?_
  exact l8 rfl Z rfl (zcs hz C (d.pt (fs':=(.row (.slice l (n+abr b) j) (n+abr b) (ys++b.map B8) 5 1::fr)) 3 [2]))
 exact λ_ _ _ _ _ h=>h.elim
def zcv (A:ajq) (c:Nat) (b:List Nat) (w:ajg) (hr:Rd w w.heap.size 1 A (abr b) (b.map bG)) (s:∀x∈b,x<18446744073709551616) (E:abr b<=1000000000):
    Calls abt 49 #[.slice A (abr b) c] w (sU w (b.flatMap ak)):=by
 refine (fE Tryz.func49 17) ?_
 refine (aM 1∘bg 1∘Jj∘bM 1∘Jl∘Jp 1∘Jq∘JC (h:=by exact λd=>d.nil 5 1)∘JG∘JB) λa Z d=>?_
 refine qg (λv y z=>∃(k:Nat) (n:ajq) (g:Nat),(k<=abr b)/\(abr ((b.take k).flatMap ak)<=g)/\v=abr b-k/\Fr y 17 [] (ah8 8 k 7 (abr b) [(6,abo A b c),(3,abo n ((b.take k).flatMap ak) g),(2,vN)])/\Mem w z [abp n ((b.take k).flatMap ak) g B8 5 1]) (m:=abr b-0) ⟨0,none,0,abC _,abx _,rfl,Z.sub kr,d.pk [0]⟩ ?_
 clear Z d;rintro v a F ⟨k,n,g,G,o,rfl,Z,d⟩
 refine Jb Z d ((cB 1∘JQ) (Ji (λt=>?_) λt=>?_))
 ·
  have j:k<abr b:=by omega
  have B:=s _ (qf 0 j)
  have u:=vg (b.take k)
  rw [abA] at u
  have C:=Ci (b.getD k 0)
  have p:(b.take (k+1)).flatMap ak=(b.take k).flatMap ak++ak (b.getD k 0):=by rw [adx,getD_at 0 j,abZ];simp
  refine (eP∘JP) ?_
  obtain ⟨gA,H,rfl,_⟩:=hr.sat k
  refine (iF k 1∘Jy (h:=by exact aad hr k 0 j rfl rfl)∘Jp 1∘bU∘Jj∘JR∘Jp 2∘JL (h:=by exact λd=>YD w _ (b.getD k 0) B n (abr ((b.take k).flatMap ak)) g (((b.take k).flatMap ak).map B8) _ om o (d.pk (fs':=[abp n ((b.take k).flatMap ak) g B8 5 1]) [0]))) ?_
  rintro d _ D ⟨q,r,rfl,f,hm⟩
  refine ⟨_,rfl,_,hm,?_⟩
  refine (Jp 1∘eO∘Jq) ?_
  have e:(abr ((b.take k).flatMap ak)+abr (ak (b.getD k 0)))=abr ((b.take (k+1)).flatMap ak):=by rw [p,abu]
  rw [e] at f
  refine (JC (h:=by exact λd=>d.bq (i:=0) (ys:=((b.take (k+1)).flatMap ak).map B8) rfl e (by rw [p,abW]))∘Jk 3 (.slice q (abr ((b.take (k+1)).flatMap ak)) r) (h:=by exact iZ e)∘JG∘JR∘dx 1∘Jp 1∘aL∘Jq) λa Z d=>?_
  exact ⟨_,om,k+1,q,r,by omega,f,rfl,Z.sub kr,d.pk [0]⟩
 have l:b.take k=b:=abM om
 exact (JF∘JX∘JG∘aM 2∘aL∘aQ∘aW) λd=>by exact ⟨⟨n,g,by rw [l],by have h:=d.own (i:=0) rfl;rw [l] at h;exact h,by rw [<-l];exact o⟩,d.below⟩
def q1g {w:ajg} (e:x<18446744073709551616):Calls abt 109 #[vN,vQ x] w (sU w (ak x)):=
 (YD w w x e none 0 0 [] [] (abC _) (abx _) ((Mem.start w).nil 5 1)).mono λr f ⟨A, c, b, d, a⟩ => by
  rw [ab9,acX] at a
  rw [ab9] at b d
  exact ⟨⟨A,c,b,a.own (i:=0) rfl,d⟩,a.below⟩
def M0 (A:ajq) (n c:Nat) (a:List Nat) (w:ajg) (hr:Rd w w.heap.size 1 A n (a.map bG)) (b:∀x∈a,x<18446744073709551616) (d:n<=1000000000):Calls abt 49 #[.slice A n c] w (sU w (a.flatMap ak)):=by
 obtain rfl:n=abr a:=by have h:=hr.len;rw [abz,ac5] at h;exact h.symm
 exact zcv A c a w hr b d
def qo7:∀(k:Nat) (l xs:List Nat) (u x m:Nat),aV k l=(xs,u,0)->aD (l.drop u)=(x,m,0)->aV (k+1) l=(xs++[x],u+m,0)
 |0,l,xs,u,x,m,h,a=>by
  simp only [aV,Prod.mk.injEq] at h
  obtain ⟨rfl,rfl,_⟩:=h
  rw [List.drop_zero] at a
  simp [aV,a]
 | k + 1, l, xs, u, x, m, h, a => by
  rw [aV] at h
  split at h
  ·rename_i b;simp at h;exact absurd h.2.2 b
  ·rename_i b
   split at h
   ·rename_i c;simp at h;exact absurd h.2.2 c
   ·rename_i c
    simp only [Prod.mk.injEq] at h
    obtain ⟨rfl,rfl,_⟩:=h
    have d:aV k (l.drop (aD l).2.1)=((aV k (l.drop (aD l).2.1)).1,(aV k (l.drop (aD l).2.1)).2.1,0):=by
     rw [<-show (aV k (l.drop (aD l).2.1)).2.2=0 by omega]
    have e:=qo7 k _ _ _ x m d (by rwa [acH])
    rw [aV,if_neg b,e,if_neg (by simp)]
    simp [Nat.add_assoc]
theorem qw8:∀(k j:Nat) (l xs:List Nat) (u:Nat),aV k l=(xs,u,0)->(aD (l.drop u)).2.2≠0->(aV (k+1+j) l).2.2≠0:=by intro x;induction x<;>grind [aV,aD,acH,Prod.mk.injEq]
theorem zfw:∀(k:Nat) (l xs:List Nat) (u:Nat),aV k l=(xs,u,0)->abr xs=k/\k<=u/\u<=abr l:=by intro x;induction x<;>grind [aV,aD,yu,Xx]
def zd:SI abt 73 11:=⟨by kernel_rfl,by kernel_rfl⟩
def oM {v u:Bool} (h:v=true↔u=true):abP v= .bool u:=by rw [ab3.2 h]
theorem Mem.A9 (h:Mem W w fs) {p:Addr} {v:ajh} (hc:W.cell? p=some v) (hb:p.block<W.heap.size):w.cell? p=some v:=(h.below.cell hb).trans hc
def zoq {g i x:Nat} (a:Mem W w (.blk g e.cells 73::fs)) (hi:i<7):
  Calls abt 321 #[.pointer (some ⟨g,0,none⟩),.int .i64 (i:Int),.int .u64 (x:Int)] w λr b=>r= .returned (.bool (Ev.fits i x))/\Mem W b (.blk g (e.put i x).cells 73::fs):=by
 have c:=a.blk (i:=0) rfl
 have hz:4+i<e.cells.size:=by show 4+i<11;omega
 refine (zjw g i x hi w (e.cells[4+i]'hz) (by unfold aep;rw [c];exact Array.getElem?_eq_getElem hz) (by unfold World.frozen?;rw [c];simp)).mono ?_
 rintro r b ⟨rfl,rfl⟩
 refine ⟨rfl,?_⟩
 have h:=a.set (i:=0) (o:=4+i) rfl (aas i x)
 rw [q4q e i x hi] at h
 exact h
def zcw {vs:List Nat} (hi:l[k]?=some i) (a:vs[k]?=some x):(l.zip vs).take (k+1)=(l.zip vs).take k++[(i,x)]:=by
 rw [List.take_succ]
 congr 1
 rw [(List.getElem?_zip_eq_some (z:=(i,x))).2 ⟨hi,a⟩]
 rfl
section
variable {e:Ev} {vs:List Nat}
def QE (h:e.dB vs=m) (a:m≠0):(e.dZ vs,e.dB vs)=(Ev.zero,m):=by unfold Ev.dZ;rw [h,if_neg a]
def zcx (h:e.kind=0\/10<e.kind):(e.dZ vs,e.dB vs)=(Ev.zero,60):=QE (if_pos h) de
def zj7 (h:¬(e.kind=0\/10<e.kind)) (a:abr vs≠abr (aB e.kind)):(e.dZ vs,e.dB vs)=(Ev.zero,2):=QE ((if_neg h).trans (if_pos a)) de
def YE (h:¬(e.kind=0\/10<e.kind)) (a:abr vs=abr (aB e.kind)) (b:(e.made vs).check≠0):(e.dZ vs,e.dB vs)=(Ev.zero,61):=QE ((if_neg h).trans ((if_neg (λn=>n a)).trans (if_pos b))) de
def zj8 {o:Ev} (h:¬(e.kind=0\/10<e.kind)) (b:abr vs=abr (aB e.kind)) (a:o=e.made vs) (c:o.check=0):(e.dZ vs,e.dB vs)=(o,0):=by
 have k:e.dB vs=0:=(if_neg h).trans ((if_neg (λn=>n b)).trans (if_neg (λn=>n (by rw [<-a];exact c))))
 unfold Ev.dZ
 rw [k,a]
 rfl
def GJ {v:Ev} {n:Int} (h:(e.dZ vs,e.dB vs)=(v,m)) (a:n=m) (hb:Below w.heap.size w W) {C:Array ajh} (hc:C=v.cells):nk w (e.dZ vs) (e.dB vs) (.returned (.tuple #[.agg C,.int .i64 n])) W:=by
 injection h with b c
 rw [b,c]
 subst a hc
 exact ⟨rfl,hb⟩
end
def zor:SI abt 424 12:=⟨by kernel_rfl,by kernel_rfl⟩
def zos (w:ajg) (er:Nat) (R:List Nat) (r:ajk) (w':ajg):Prop:=
 (∃A c,r= .returned (.tuple #[.slice A (abr R) c,.int .i64 (er:Int)])/\w'.ownsRow w.heap.size 41 1 (.slice A (abr R) c) (abr R) (R.map bG)/\abr R<=c)/\Below w.heap.size w w'
section
variable {b:Bs} {e:Ev} {w w':ajg} {v:Bool}
def M4 (hb:Below w.heap.size w w') (h:v=true↔(1<=b.seq/\b.seq<=281474976710656/\0<=b.time/\b.time<=281474976710656)):Is w (.bool b.right) (.returned (.bool v)) w':=by
 refine ⟨?_,hb⟩
 unfold Bs.right
 rw [show v=decide _ from (ab3.2 (h.trans decide_eq_true_iff.symm))]
def YF (hb:Below w.heap.size w w') (h:v=true↔(b.seq<=e.seq/\b.time<=e.time)):Is w (.bool (b.behind e)) (.returned (.bool v)) w':=by
 refine ⟨?_,hb⟩
 unfold Bs.behind
 rw [show v=decide _ from (ab3.2 (h.trans decide_eq_true_iff.symm))]
end
def zcy (e:Ev) (d:e.Ok) (B:Nat) (w:ajg) (f:Laid B w) (g:B<=w.heap.size) {er:Nat} {R:List Nat} (h1:e.check=er) (i:e.qc5=R):Calls abt 286 #[.agg e.cells] w (zos w er R):=by
 subst h1 i
 refine (q09 e d B w f g).mono λr w' ⟨⟨v,h,a⟩,j⟩=>?_
 obtain ⟨A,c,rfl,hc⟩:=Cq a
 exact ⟨⟨A,c,h,a,hc⟩,j⟩
def q5p (e:Ev) (a:e.Ok) (B:Nat) (w:ajg) (c:Laid B w) (d:B<=w.heap.size):Calls abt 243 #[.agg e.cells] w (Is w (.int .i64 (e.check:Int))):=P6 e a B w c d
theorem zcz (e:Ev):abr e.qc5<=4:=by grind [Ev.qc5,Ev.vals,AJ]
theorem zj9 {b:Bs} (h:e.check=er) (a:er≠0):uh b e=er/\yt b e=[]:=by grind [uh,yt]
theorem YG {b:Bs} (h:e.check=0) (a:¬(b.right=true/\b.behind e=true)):uh b e=70/\yt b e=[]:=by grind [uh,yt]
theorem zka {b:Bs} (h:e.check=0) (h1:b.right=true) (a:b.behind e=true):uh b e=0/\yt b e=zn b e:=by grind [uh,yt]
def GK {uI:Nat} {n:Int} (h:er=uI/\R=[]) (a:n=uI) (hb:Below w.heap.size w w'):mI w er R (.returned (.tuple #[.slice none 0 0,.int .i64 n])) w':=by
 obtain ⟨rfl,rfl⟩:=h
 subst a
 exact ⟨⟨none,0,rfl,acK _ _ _ _,abx _⟩,hb⟩
def YH {L:List Nat} (h:er=0/\R=L) (a:w'.ownsRow w.heap.size 5 1 (.slice A (abr L) c) (abr L) (L.map B8)) (hc:abr L<=c) (hb:Below w.heap.size w w'):mI w er R (.returned (.tuple #[.slice A (abr L) c,.int .i64 0])) w':=by
 obtain ⟨rfl,rfl⟩:=h
 exact ⟨⟨A,c,rfl,a,hc⟩,hb⟩
def YI (l:List Nat):∀u∈l.map bG,u.oneCell'=true:=by
 intro u a
 obtain ⟨x,_,rfl⟩:=ab7.1 a
 rfl
def M5 {x:Int} (h:0<=x/\x<9223372036854775808) (a:x.toNat=n):abT .u64 (IntKind.u64.wrap x)= .int .u64 (n:Int):=by rw [ad3];congr 1;omega
def zc0 {b:Bs} {vs:List Nat} (c:e.Ok) (h:e.check=0) (d:e.qc5=vs) (h1:b.right=true) (f:b.behind e=true):(0<=e.seq-b.seq/\e.seq-b.seq<9223372036854775808)/\(0<=e.time-b.time/\e.time-b.time<9223372036854775808)/\(∀x∈(e.seq-b.seq).toNat::(e.time-b.time).toNat::vs,x<18446744073709551616)/\zn b e=[e.kind]++((e.seq-b.seq).toNat::(e.time-b.time).toNat::vs).flatMap ak:=by
 have g:=vM h
 have j:=of_decide_eq_true h1
 have l:=of_decide_eq_true f
 have:=c.seq.2
 have:=c.time.2
 refine ⟨by omega,by omega,λx a=>?_,?_⟩
 ·rcases abX.1 a with rfl|a
  ·omega
  rcases abX.1 a with rfl|a
  ·omega
  rw [<-d] at a
  unfold Ev.qc5 at a
  rw [if_pos h] at a
  obtain ⟨i,hi,rfl⟩:=ab7.1 a
  have k:=Xo c h hi
  unfold Ev.num at k
  rw [ad3] at k
  omega
 ·unfold zn y8
  rw [<-d]
  unfold Ev.qc5
  rw [if_pos h]
  rfl
theorem zkb {b:Bs} {A:Prop} {B:Prop} {C:Prop} (h:e.check=x) (c:x=0) (hb:b.right=true/\b.behind e=true) (d:A/\B/\C/\zn b e=[e.kind]++R.flatMap ak) (a:R.flatMap ak=l):uh b e=0/\yt b e=e.kind::l:=by grind [zka]
def YJ {c:Nat} (hr:Rd w w.heap.size 1 A (abr l) (l.map bG)) (d:∀x∈l,x<18446744073709551616) (f:abr l<=6) (a:l.flatMap ak=R):Calls abt 49 #[.slice A (abr l) c] w (sU w R):=by
 subst a
 exact M0 A (abr l) c _ w hr d om
def zkc {l:List Ev} {p:Option Ev} (hk:k=abr l):iT p k (l.drop k)=(-1,0):=by
 rw [adG om]
 rfl
theorem row_step {l:List Ev} {p:Option Ev} (hk:k<abr l) (a:l.getD k Ev.zero=e):iT p k (l.drop k)=if e.check≠0 then ((k:Int),e.check) else if p.all (λq=>e.after q)=false then ((k:Int),71) else iT (some e) (k+1) (l.drop (k+1)):=by grind [iT,acv,abv]
def kP (l:List Ev) (k:Nat):Option Ev:=if k=0 then none else some (l.getD (k-1) Ev.zero)
theorem zc1 {l:List Ev} (a:l.getD k Ev.zero=e):kP l (k+1)=some e:=by grind [kP]
theorem zc2 {l:List Ev} {q:Ev} (c:0<k) (a:l.getD (k-1) Ev.zero=q) (h:¬(e.cpu=q.cpu/\q.seq<e.seq/\q.time<=e.time)):(kP l k).all (λq=>e.after q)=false:=by
 unfold kP;rw [if_neg om,a];exact decide_eq_false h
theorem q5q {l:List Ev} {q:Ev} (c:l.getD (k-1) Ev.zero=q) (h:k=0\/(e.cpu=q.cpu/\q.seq<e.seq/\q.time<=e.time)):(kP l k).all (λq=>e.after q)=true:=by
 unfold kP
 by_cases a:k=0
 ·rw [if_pos a];rfl
 ·rw [if_neg a,c];exact decide_eq_true (h.resolve_left a)
theorem M6 {l:List Ev} {q:Ev} {v:Bool} (a:l.getD (k-1) Ev.zero=q) (h:v=true↔¬(k=0\/(e.cpu=q.cpu/\q.seq<e.seq/\q.time<=e.time))):abP v= .bool (!(kP l k).all λq=>e.after q):=by grind [zc2,q5q]
def M7 (h:0<k) (hk:k<=140737488355328):abT .i64 (IntKind.i64.wrap ((k:Int)-1))= .int .i64 ((k-1:Nat):Int):=by rw [IntKind.wrap_i64];congr 1;omega
def QF {R:Int×Nat} {v n:Int} (h:R=(v,m)) (a:n=(m:Int)) (hb:Below w.heap.size w w'):Is w (.tuple #[.int .i64 R.1,.int .i64 (R.2:Int)]) (.returned (.tuple #[.int .i64 v,.int .i64 n])) w':=by
 subst h a
 exact ⟨rfl,hb⟩
def CK {b:Bs} {l:List Ev} {v:Bool} (h:v=true↔¬(b.right=true/\(0<abr l->b.behind (l.getD 0 Ev.zero)=true))):abP v= .bool (!(b.right&&l.head?.all b.behind)):=by
 have e:l.head?.all b.behind=true↔(0<abr l->b.behind (l.getD 0 Ev.zero)=true):=by
  cases l with
  |nil=>exact ⟨λ_ h=>absurd h (Nat.lt_irrefl 0),λ_=>rfl⟩
  |cons x r=>exact ⟨λh _=>h,λh=>h (Nat.succ_pos _)⟩
 rw [<-e,<-abH] at h
 by_cases a:(b.right&&l.head?.all b.behind)=true
 ·rw [a,show v=false from (agY _).mp λc=>h.1 c a];rfl
 ·rw [(agY _).mp a,h.2 a];rfl
theorem q1h {b:Bs} {l:List Ev} {n:Int} (h:jo l=(n,c)) (a:c≠0):sO b l=c/\vR b l=[]:=by grind [sO,vR]
theorem qvm {b:Bs} {l:List Ev} {n:Int} (h:jo l=(n,c)) (a:c=0) (h1:¬(b.right&&l.head?.all b.behind)=true):sO b l=70/\vR b l=[]:=by grind [sO,vR]
def q1i {b:Bs} {l:List Ev} {n:Int} {pre:List Nat} {a:Bs} (h:jo l=(n,c)) (d:c=0) (h1:(b.right&&l.head?.all b.behind)=true) (hr:recs b l=pre++recs a (l.drop k)) (hk:abr l<=k):sO b l=0/\vR b l=pre:=by
 rw [abH] at h1
 have e:sO b l=0:=by unfold sO;rw [h,if_neg om,if_pos h1]
 exact ⟨e,by unfold vR;rw [if_pos e,hr,adG hk];exact abN pre⟩
def q5r {b a:Bs} {l:List Ev} {n:Int} (h:jo l=(n,c)) (d:c=0) (h1:(b.right&&l.head?.all b.behind)=true) (hk:k<abr l) (hb:a=Gd b l k) (f:l.getD k Ev.zero=e):uh a e=0/\recs a (l.drop k)=zn a e++recs e.at (l.drop (k+1))/\e.at=Gd b l (k+1)/\abr (zn a e)<=61:=by
 rw [abH] at h1
 have e1:l[k]=e:=by rw [<-f,abw,abv hk];rfl
 have p:=zcj (by rw [h];exact d) h1.1 h1.2 k hk
 rw [<-hb,e1] at p
 refine ⟨p,by rw [acv hk,recs,e1],?_,zj0 _ _⟩
 show _=(match l[k]? with|some e=>e.at|none=>b)
 rw [abv hk,e1]
def YK (e:Ev) (w:ajg):Calls abt 275 #[.agg e.cells] w (Is w (.agg e.at.cells)):=by
 refine (fE Tryz.func275 8) ?_
 refine (JP∘JE) λd g1=>(JA #[vI 0,vI 0]) λf g=>(Jr∘Jg 0 O1∘Jg 1 O1∘fu #[vI e.seq,vI e.time]∘JV iU aN) λb=>(oK∘aQ) λa Z c=>?_
 exact jc rfl Z (.cellS (i:=0) Z c rfl rfl iU rfl) (⟨rfl,c.below⟩)
def M8 (b:Bs) (w:ajg):Calls abt 273 #[.agg b.cells] w (Is w (.bool b.right)):=by
 refine (fE Tryz.func273 21) ?_
 refine (JP∘JE) λf g1=>(Jp 1∘Jr∘Jg 0 O0∘Jp 2) (Ji (λe=>?_) λe=>?_)
 ·
  refine (Jg 0 O0∘Jp 3) (Ji (λc=>?_) λc=>?_)
  ·
   refine (Jg 1 O0∘Jp 3) (Ji (λd=>?_) λd=>?_)
   ·
    exact (Jg 1 O0∘Jp 3∘aI∘aQ∘aW) λa=>M4 a.below (by simp;omega)
   exact (Jp 5∘aI∘aQ∘aW) λa=>M4 a.below (by simp;omega)
  exact (Jv 10 [(2,.bool false)]∘aI∘aQ∘aW) λa=>M4 a.below (by simp;omega)
 exact (Jv 15 [(2,.bool false)]∘eO∘aQ∘aW) λa=>M4 a.below (by simp;omega)
def YL (b:Bs) (e:Ev) (w:ajg):Calls abt 274 #[.agg b.cells,.agg e.cells] w (Is w (.bool (b.behind e))):=by
 refine (iQ Tryz.func274 17) ?_
 refine (JP∘JE) λd f=>(JE) λg h=>(Jp 1∘Jr∘Jg 0 O0∘Jg 0 O1∘Jp 2) (Ji (λa=>?_) λa=>?_)
 ·
  exact (Jg 1 O0∘Jg 1 O1∘Jp 3∘aI∘aQ∘aW) λc=>YF c.below (by simp;omega)
 exact (Jp 7∘aI∘aQ∘aW) λc=>YF c.below (by simp;omega)
theorem zc3 (b:Bs) (e:Ev) (S:e.Ok) (B:Nat) (w:ajg) (W:Laid B w) (T:B<=w.heap.size):Calls abt 244 #[.agg b.cells,.agg e.cells] w (mI w (uh b e) (yt b e)):=by
 refine (iQ Tryz.func244 47) ?_
 refine (JP∘JE) λw2 U=>(JE) λw3 V=>(Jp 2∘Jq) ?_
 obtain ⟨N,y⟩:∃N,e.check=N:=⟨_,rfl⟩
 obtain ⟨m,z⟩:∃m,e.qc5=m:=⟨_,rfl⟩
 have X:abr m<=4:=by rw [<-z];exact zcz e
 refine (JG∘JP∘eF zd O0∘JK (h:=by exact λc=>zcy e S B _ (W.mem c T) (c.le T) y z)) λY cv vD hcv=>(Jp 1∘Jx∘Jx∘bO 2∘bM 2∘aL∘Jj) (Jh (λG=>?_) λG=>?_)
 ·
  exact (JT∘bB 3∘bW) λc=>GK (zj9 y om) rfl c.below
 refine (aP∘JQ∘JP∘eF iU O2∘JI (h:=by exact λc=>M8 b _)) λzJ O=>(Jp 2) (Ju (λH=>?_) λH=>?_)
 ·
  exact (Jp 5∘aI∘Jj∘JT∘bB 2∘bW) λc=>GK (YG om (by simp_all)) rfl c.below
 refine (eF iU O2∘eF zd O1∘JI (h:=by exact λc=>YL b e _)) λQG O=>(Jp 2∘aI∘Jj) (Ju (λI=>?_) λI=>?_)
 ·
  exact (JT∘bB 2∘bW) λc=>GK (YG om (by simp_all)) rfl c.below
 have A:b.right=true/\b.behind e=true:=by simp_all
 have p:=zc0 S om z A.1 A.2
 obtain ⟨q,J⟩:∃x,(e.seq-b.seq).toNat=x:=⟨_,rfl⟩
 obtain ⟨r,K⟩:∃x,(e.time-b.time).toNat=x:=⟨_,rfl⟩
 rw [J,K] at p
 obtain ⟨j,t⟩:∃j,(q::r::m).flatMap ak=j:=⟨_,rfl⟩
 have hbl:abr j<=60:=by rw [<-t];have:=vg (q::r::m);simp only [abS] at this;omega
 refine (aP∘JP∘Jg 0 O1∘Jg 0 O2∘Jp 1∘Jo (vI (e.seq-b.seq)) (by exact nN ⟨by omega,by omega⟩)∘Jv 1 [(31,vQ (IntKind.u64.wrap (e.seq-b.seq)))]∘Jo (vQ q) (by exact M5 p.1 J)∘Jg 1 O1∘Jg 1 O2∘Jp 1∘Jo (vI (e.time-b.time)) (by exact nN ⟨by omega,by omega⟩)∘Jv 1 [(37,vQ (IntKind.u64.wrap (e.time-b.time)))]∘Jo (vQ r) (by exact M5 p.2.1 K)∘JU kT #[vQ q,vQ r]) λQI g38=>(Jp 1∘JC (h:=by exact λc=>c.fV (i:=0) (n:=2) (size:=1) rfl rfl de)∘JD (m.map bG) 0 (λ_ _=>aN) kT (hr:=by exact λc=>c.rd (i:=1) rfl) (h1:=by exact YI _)) λw40 C D M=>(Jp 1∘aI∘Jq) ?_
 have o:(2+abr m)=abr (q::r::m):=ae5 2 _
 rw [o] at M
 refine (JC (h:=by exact λc=>c.bq (i:=0) (ys:=(q::r::m).map bG) rfl o (rfl))∘Jk 8 (.slice C (abr (q::r::m)) D) (h:=by exact iZ o)) λa Z c=>?_
 refine qz (λaS wS=>∃(s:Nat) (F:ajq) (E:Nat) (k:ajq) (g:Nat),Fr aS 47 [] [(46,.slice k (abr (e.kind::j)) g),(4,.slice k (abr (e.kind::j)) g),(5,vI 0),(25,.bool false),(15,.bool false),(7,vI N),(3,vP V 0),(2,vP U 0)]/\Mem w wS [.row (.slice F (abr j) E) (abr j) (j.map B8) 5 1,.row (.slice k (abr (e.kind::j)) g) (abr (e.kind::j)) ((e.kind::j).map B8) 5 1,.row (.slice C (abr (q::r::m)) D) (abr (q::r::m)) ((q::r::m).map bG) 41 1,.row (.slice Y (abr m) cv) (abr m) (m.map bG) 41 1,.blk V e.cells 73,.blk U b.cells 110]/\(abr j<=E)/\(abr (e.kind::j)<=g)) ?_ ?_
 ·
  refine Jb Z c ((Vs .n []) λYM=>(Vf 0 3∘Vp [3]∘Vc 1 O2) λa Z c u=>?_)
  refine zh [2,4] kr rfl ?_
  refine all_cons ?_ ?_
  ·refine qu Z (i:=2) rfl rfl ?_
   refine jG Z c bD [(0,vB e.kind)] #[vB e.kind] ?_
   clear Z c;intro a P s Z c
   refine av (c.pk [1,2,3,4]) (λu=>?_)
   refine Vb Z c u ((VK 4 (.f .n) (h:=by exact λc=>YJ (c.rd (i:=1) rfl) p.2.2.1 (by simp only [abS];omega) t)) λF E Q v=>λa Z c u=>?_)
   refine s_on Z 5 rfl ?_
   replace c:=c.fV (i:=1) (n:=1) (size:=1) rfl rfl de
   refine su Z c (i:=1) rfl bD rfl rfl rfl (news:=(j.map B8)) (c.rd (i:=0) rfl) (uw _) om om rfl de ?_
   clear Z c;intro a R k g Z c l
   refine av (c.pk [2,3,4,5]) (λu=>?_)
   refine Vb Z c u ((Vp [6,7]∘Vd) ?_)
   have d:(1+abr j)=abr (e.kind::j):=ae5 1 _
   rw [d] at l
   intro a Z c
   replace c:=c.bq (i:=1) (ys:=(e.kind::j).map B8) rfl d (rfl)
   replace Z:=Z.sp 4 (.slice k (abr (e.kind::j)) g) rfl (iZ d)
   replace Z:=Z.sp 46 (.slice k (abr (e.kind::j)) g) rfl (iZ d)
   exact ⟨s,F,E,k,g,Z.sub kr,c.pk [0,1,2,3,4,5],v,l⟩
  refine all_cons ?_ all_nil
  refine qu Z (i:=4) rfl rfl ?_
  refine CJ Z c [.slice C (abr (q::r::m)) D] (YJ (c.rd (i:=0) rfl) p.2.2.1 (by simp only [abS];omega) t) λF E Q v c a Z=>?_
  refine av (c.pk [1,2,3,4]) (λu=>?_)
  refine s_on Z 2 rfl (jG Z c bD [(0,vB e.kind)] #[vB e.kind] ?_)
  clear Z c;intro a P s Z c
  refine av (c.pk [2,3,4,5]) (λu=>?_)
  refine s_on Z 5 rfl ?_
  replace c:=c.fV (i:=0) (n:=1) (size:=1) rfl rfl de
  refine su Z c (i:=0) rfl bD rfl rfl rfl (news:=(j.map B8)) (c.rd (i:=1) rfl) (uw _) om om rfl de ?_
  clear Z c;intro a R k g Z c l
  refine av (c.pk [2,3,4,5]) (λu=>?_)
  refine Vb Z c u ((Vp [6,7]∘Vd) ?_)
  have d:(1+abr j)=abr (e.kind::j):=ae5 1 _
  rw [d] at l
  intro a Z c
  replace c:=c.bq (i:=0) (ys:=(e.kind::j).map B8) rfl d (rfl)
  replace Z:=Z.sp 4 (.slice k (abr (e.kind::j)) g) rfl (iZ d)
  replace Z:=Z.sp 46 (.slice k (abr (e.kind::j)) g) rfl (iZ d)
  exact ⟨s,F,E,k,g,Z.sub kr,c.pk [1,0,2,3,4,5],v,l⟩
 clear Z c;rintro a w7 ⟨s,F,E,k,g,Z,c,v,l⟩
 exact Jb Z c ((JZ∘bW) λc=>YH (L:=e.kind::j) (zkb y om A p t) (c.own (i:=1) rfl) l c.below)
theorem zc4 (A:ajq) (c:Nat) (l:List Ev) (J:∀e∈l,e.Ok) (B:Nat) (w:ajg) (Q:Laid B w) (N:B<=w.heap.size) (hr:Rd w w.heap.size 11 A (abr l) (l.flatMap fD)) (U:abr l<=140737488355328):Calls abt 171 #[.slice A (abr l) c] w (Is w (.tuple #[.int .i64 (jo l).1,.int .i64 ((jo l).2:Int)])):=by
 refine (fE Tryz.func171 57) ?_
 refine (cB 2∘bM 1∘Jl∘bO 1∘JB) λa Z b=>?_
 refine qg (λO K L=>∃(k:Nat),(k<=abr l)/\(jo l=iT (kP l k) k (l.drop k))/\O=abr l-k/\Fr K 57 [] (ah8 9 k 8 (abr l) [(7,.slice A (abr l) c),(3,vI 0),(2,vI 0),(0,.slice A (abr l) c)])/\Mem w L []) (m:=abr l-0) ⟨0,abC _,rfl,rfl,Z.sub kr,b.pk []⟩ ?_
 clear Z b;rintro O a V ⟨k,W,t,rfl,Z,b⟩
 refine Jb Z b ((cB 1∘JQ) (Ji (λC=>?_) λC=>?_))
 ·
  have y:k<abr l:=by omega
  obtain ⟨e,u⟩:∃e,l.getD k Ev.zero=e:=⟨_,rfl⟩
  obtain ⟨q,g⟩:∃q,l.getD (k-1) Ev.zero=q:=⟨_,rfl⟩
  have M:e.Ok:=J e (by rw [<-u];exact qf Ev.zero y)
  have z:=row_step (p:=kP l k) y u
  refine (eP∘aM 1) ?_
  obtain ⟨gA,o,rfl,_⟩:=hr.sat k
  refine (iF k 11∘qM Ev.cells sj hr zd k Ev.zero (hk:=y)∘Jo (.agg e.cells) (by rw [u])∘JA ai7) λX D=>(Jp 1∘JV zd aN (h1:=by exact r9 e)) λP=>(Jj∘JQ∘JP∘eF zd O0∘JI (h:=by exact λb=>q5p e M B _ (Q.mem b N) (b.le N))) λR S=>(Jp 1∘bU∘bg 2∘aL∘Jj) (Jh (λE=>?_) λE=>?_)
  ·
   exact (JT∘bB 4∘bW) λb=>QF (t.trans (z.trans (if_pos om))) rfl b.below
  refine (aP) λa Z b=>?_
  refine qz (λK L=>Fr K 57 [] ((54,.bool (!(kP l k).all λq=>e.after q))::(17,.bool false)::ah8 6 e.check 4 k ((5,vP D 0)::(10,.bool true)::ah8 9 k 8 (abr l) [(7,.slice (some ⟨gA,o,none⟩) (abr l) c),(3,vI 0),(2,vI 0),(0,.slice (some ⟨gA,o,none⟩) (abr l) c)]))/\Mem w L [.blk D e.cells 73]) ?_ ?_
  ·
   refine Jb Z b ((Vs .n []) λT=>(Vp [0,1,2]) λa Z b f=>?_)
   rcases Z.tf 22 rfl with ⟨r,Z⟩|⟨r,Z⟩
   ·
    have F:=of_decide_eq_true r
    refine Vb Z b f ((Vf 3 2∘Vp [5,6]∘Vc 4 O0∘Vp [7]∘Vo (vI (k-1:Nat)) (by exact M7 om om)∘oL 8 (k-1) 11∘Vf 9 2∘GH 10 sj hr 2 (k-1) Ev.zero∘Vo (vB q.cpu) (by rw [g])∘Vp [11,12]) λa Z b f=>?_)
    rcases Z.tf 32 rfl with ⟨s,Z⟩|⟨s,Z⟩
    ·
     have G:=bne_iff_ne.1 s
     refine Vb Z b f ((Vq [13,14,15,16,17,18,19,20,21,22,23,24,25,26,27,28,29,30,31,32,33] [(53,.bool true)]∘Vq [34] [(54,.bool true)]∘Vo (.bool (!(kP l k).all λq=>e.after q)) (by exact M6 g (by first|exact iff_of_true rfl om|exact iff_of_false de om|exact decide_eq_true_iff.trans om))∘Vd∘aI) λa Z b=>?_)
     exact ⟨Z.sub kr,b.pk [0]⟩
    have G:=bne_eq_false_iff_eq.1 s
    refine ap Z (λ_=>f) [13,15,16] (bf 35 [0,1,2,3,4,5,6,7,8,9,10,11,12,13,15,16]) [(36,vI k),(35,.slice (some ⟨gA,o,none⟩) (abr l) c),(33,vP D 0)] λa Z=>?_
    refine dJ Z f 14 0 (v:=vI e.seq) λa Z=>?_
    refine qH Z (λ_=>f) (i:=17) rfl rfl (d:=37) rfl de kr (λ_ _ _ h=>h) (v:=vI (IntKind.i64.wrap ((k:Int)-1))) (λ_=>Yl.pure kr) λa Z=>?_
    replace Z:=Z.sp 37 (vI (k-1:Nat)) rfl (M7 om om)
    refine iN Z f 18 rfl (v:=vP gA (o+(k-1)*11)) (Yl.ix gA o (k-1) 11 rfl rfl rfl) λa Z=>?_
    refine ap Z (λ_=>f) [19] (bt 35 [20,21,22,23,24,25,26,27,28,29,30,31,32,33,34]) [(39,vP gA (o+(k-1)*11))] λa Z=>?_
    refine iN Z f 20 rfl (v:=vI ((l.getD (k-1) Ev.zero).seq)) (Pd rfl rfl kr (λ_ h=>(by have:=(h.old hr).partAt sj (k:=(k-1)) (j:=0) (x:=(l.getD (k-1) Ev.zero)) ((getD_at Ev.zero (k:=k-1) om)) rfl;simpa using this))) λa Z=>?_
    replace Z:=Z.sp 40 (vI q.seq) rfl (by rw [g])
    refine ap Z (λ_=>f) [21,22,23] (bt 35 [24,25,26,27,28,29,30,31,32,33,34]) [(43,.bool (decide ((e.seq:Int)<=(q.seq:Int))))] λa Z=>?_
    refine Jb Z b (Ji (λH=>?_) λH=>?_)
    ·
     intro a Z b
     refine ap Z (λ_=>f) [24,25,26,27,28,29,30,31,32,33] (bt 35 [34]) [(53,.bool true)] λa Z=>?_
     refine qH Z (λ_=>f) (i:=34) rfl rfl (d:=54) rfl de kr (λ_ _ _ h=>h) (v:= .bool true) (λ_=>Yl.pure kr) λa Z=>?_
     replace Z:=Z.sp 54 (.bool (!(kP l k).all λq=>e.after q)) rfl (M6 g (by first|exact iff_of_true rfl om|exact iff_of_false de om|exact decide_eq_true_iff.trans om))
     refine qe kr ?_
     exact ⟨Z.sub kr,b.pk [0]⟩
    intro a Z b
    refine ap Z (λ_=>f) [24,26,27] (bt 35 [25,28,29,30,31,32,33,34]) [(47,vI k),(46,.slice (some ⟨gA,o,none⟩) (abr l) c),(44,vP D 1)] λa Z=>?_
    refine dJ Z f 25 0 (v:=vI e.time) λa Z=>?_
    refine qH Z (λ_=>f) (i:=28) rfl rfl (d:=48) rfl de kr (λ_ _ _ h=>h) (v:=vI (IntKind.i64.wrap ((k:Int)-1))) (λ_=>Yl.pure kr) λa Z=>?_
    replace Z:=Z.sp 48 (vI (k-1:Nat)) rfl (M7 om om)
    refine iN Z f 29 rfl (v:=vP gA (o+(k-1)*11)) (Yl.ix gA o (k-1) 11 rfl rfl rfl) λa Z=>?_
    refine ap Z (λ_=>f) [30] (bt 35 [31,32,33,34]) [(50,vP gA (o+(k-1)*11+1))] λa Z=>?_
    refine iN Z f 31 rfl (v:=vI ((l.getD (k-1) Ev.zero).time)) (Pd rfl rfl kr (λ_ h=>(h.old hr).partAt sj (k:=(k-1)) (j:=1) (x:=(l.getD (k-1) Ev.zero)) ((getD_at Ev.zero (k:=k-1) om)) rfl)) λa Z=>?_
    replace Z:=Z.sp 51 (vI q.time) rfl (by rw [g])
    refine ap Z (λ_=>f) [32,33] (bt 35 [34]) [(53,.bool (decide ((e.time:Int)<(q.time:Int))))] λa Z=>?_
    refine qH Z (λ_=>f) (i:=34) rfl rfl (d:=54) rfl de kr (λ_ _ _ h=>h) (v:= .bool (decide ((e.time:Int)<(q.time:Int)))) (λ_=>Yl.pure kr) λa Z=>?_
    replace Z:=Z.sp 54 (.bool (!(kP l k).all λq=>e.after q)) rfl (M6 g (by first|exact iff_of_true rfl om|exact iff_of_false de om|exact decide_eq_true_iff.trans om))
    refine qe kr ?_
    replace Z:=Z.to ((54,.bool (!(kP l k).all λq=>e.after q))::(17,.bool false)::ah8 6 e.check 4 k ((5,vP D 0)::(10,.bool true)::ah8 9 k 8 (abr l) [(7,.slice (some ⟨gA,o,none⟩) (abr l) c),(3,vI 0),(2,vI 0),(0,.slice (some ⟨gA,o,none⟩) (abr l) c)]))
    exact ⟨Z.sub kr,b.pk [0]⟩
   have F:=of_decide_eq_false r
   refine ap Z (λ_=>f) [3,4,5,6,7,8,9,10,11,12,13,14,15,16,17,18,19,20,21,22,23,24,25,26,27,28,29,30,31,32,33] (bt 35 [34]) [(53,undef)] λa Z=>?_
   refine qH Z (λ_=>f) (i:=34) rfl rfl (d:=54) rfl de kr (λ_ _ _ h=>h) (v:= .bool false) (λ_=>Yl.pure kr) λa Z=>?_
   replace Z:=Z.sp 54 (.bool (!(kP l k).all λq=>e.after q)) rfl (M6 g (by first|exact iff_of_true rfl om|exact iff_of_false de om|exact decide_eq_true_iff.trans om))
   refine qe kr ?_
   exact ⟨Z.sub kr,b.pk [0]⟩
  clear Z b;rintro a Y ⟨Z,b⟩
  refine Jb Z b (Ju (λI=>?_) λI=>?_)
  ·
   exact (JT∘bB 3∘bW) λb=>QF (m:=71) (t.trans (z.trans ((if_neg om).trans (if_pos (by simp_all))))) rfl b.below
  refine (aP∘JR∘dx 1∘Jp 1∘aL∘Jq) λa Z b=>?_
  exact ⟨_,om,k+1,by omega,(t.trans (z.trans ((if_neg om).trans ((if_neg (by simp_all)).trans (by rw [zc1 u]))))),rfl,Z.sub kr,b.pk []⟩
 exact (JF∘JX∘JG∘bB 2∘bW) λb=>QF (m:=0) (t.trans (zkc om)) rfl b.below
def q5s (b:Bs) (e:Ev) (a:e.Ok) {l:List Nat} (h:uh b e=0) (hb:zn b e=l) (B:Nat) (w:ajg) (c:Laid B w) (d:B<=w.heap.size):Calls abt 244 #[.agg b.cells,.agg e.cells] w (mI w 0 l):=by
 have k:=zc3 b e a B w c d
 have f:yt b e=l:=by unfold yt;rw [if_pos h,hb]
 rwa [h,f] at k
def YN (A:ajq) (c:Nat) (l:List Ev) (a:∀e∈l,e.Ok) (B:Nat) (w:ajg) (b:Laid B w) (d:B<=w.heap.size) (hr:Rd w w.heap.size 11 A (abr l) (l.flatMap fD)) (f:abr l<=140737488355328) {v:Int} {m:Nat} (h:jo l=(v,m)):Calls abt 171 #[.slice A (abr l) c] w (Is w (.tuple #[.int .i64 v,.int .i64 (m:Int)])):=by
 have k:=zc4 A c l a B w b d hr f
 rwa [h] at k
theorem qvn (b:Bs) (A:ajq) (c:Nat) (l:List Ev) (I:∀e∈l,e.Ok) (B:Nat) (w:ajg) (hL:Laid B w) (R:B<=w.heap.size) (hr:Rd w w.heap.size 11 A (abr l) (l.flatMap fD)) (hn:abr l<=1000000000000):Calls abt 228 #[.agg b.cells,.slice A (abr l) c] w (mI w (sO b l) (vR b l)):=by
 refine (iQ Tryz.func228 56) ?_
 refine (JP∘JE) λw2 S=>(Jp 2∘Jq) ?_
 obtain ⟨ri,T,q⟩:∃ri T,jo l=(ri,T):=⟨_,_,rfl⟩
 refine (JG∘bM 1∘JI (h:=by exact λg=>YN A c l I B _ (hL.mem g R) (g.le R) (g.old hr) om q)) λCO z=>(Jp 1∘Jx∘Jx∘Jp 2∘aI∘bg 2∘aL∘Jj) (Jh (λJ=>?_) λJ=>?_)
 ·
  exact (JT∘bB 3∘bW) λg=>GK (q1h q om) rfl g.below
 obtain ⟨G,r⟩:∃e,l.getD 0 Ev.zero=e:=⟨_,rfl⟩
 refine (aP∘JQ) λa Z g=>?_
 refine qz (λU V=>Fr U 56 [] [(36,.bool (!(b.right&&l.head?.all b.behind))),(19,.bool false),(7,vI T),(5,vI 0),(4,.slice none 0 0),(2,vP S 0),(1,.slice A (abr l) c)]/\Mem w V [.blk S b.cells 110]) ?_ ?_
 ·
  refine Jb Z g ((Vs .n []) λwd4=>(nR 0 iU O0∘VI 1 .n (h:=by exact λg=>M8 b _)) λQJ z=>(Vp [2,3]) λa Z g o=>?_)
  rcases Z.tf 24 rfl with ⟨K,Z⟩|⟨K,Z⟩
  ·
   refine Vb Z g o ((Vq [4,5,6,7,8,9,10,11,12,13,14] [(35,undef)]∘Vq [15] [(36,.bool true)]∘Vo (.bool (!(b.right&&l.head?.all b.behind))) (by exact CK (by rw [r];first|exact iff_of_true rfl (by simp_all)|exact iff_of_false de (by simp_all;omega)|simp_all))∘Vd∘aI) λa Z g=>?_)
   exact ⟨Z.sub kr,g.pk [0]⟩
  refine ap Z (λ_=>o) [4] (bf 16 [0,1,2,3,4]) [(25,.slice A (abr l) c)] λa Z=>?_
  refine uE Z o 5 λa Z=>?_
  refine ap Z (λ_=>o) [6,7] (bf 16 [0,1,2,3,4,5,6,7]) [(28,.bool (decide ((abr l:Int)>(0:Int))))] λa Z=>?_
  refine Jb Z g (Ji (λM=>?_) λM=>?_)
  ·
   intro a Z g
   refine ap Z (λ_=>o) [9] (bt 16 [8,10,11,12,13,14,15]) [(30,.slice A (abr l) c)] λa Z=>?_
   refine iN Z o 8 rfl (v:= .agg b.cells) (Pe rfl rfl iU rfl (λ_ h=>qj (h.blk (i:=0) rfl))) λa Z=>?_
   revert g;revert a;repeat (first|clear Z|clear g)
   intro a Z g
   obtain ⟨gA,W,rfl,_⟩:=hr.sat 0
   refine iN Z o 10 rfl (v:=vP gA W) (Yl.indexAddr (ad:=⟨gA,W,none⟩) (y:=0) (sz:=11) rfl rfl rfl om kr) λa Z=>?_
   refine iN Z o 11 rfl (v:= .agg ((l.getD 0 Ev.zero).cells)) (Pe rfl rfl zd rfl (λ_ h=>(h.old hr).vX sj ((getD_at Ev.zero (k:=0) om)))) λa Z=>?_
   replace Z:=Z.sp 32 (.agg G.cells) rfl (by rw [r])
   refine s_on Z 12 rfl (jB Z g [.agg b.cells,.agg G.cells] (.bool (b.behind G)) rfl rfl (YL b G _) λGL z g a Z=>?_)
   refine av (g.pk [0]) (λo=>?_)
   refine ap Z (λ_=>o) [13,14] (bt 16 [15]) [(35,.bool (!(b.behind G)))] λa Z=>?_
   refine qH Z (λ_=>o) (i:=15) rfl rfl (d:=36) rfl de kr (λ_ _ _ h=>h) (v:= .bool (!(b.behind G))) (λ_=>Yl.pure kr) λa Z=>?_
   replace Z:=Z.sp 36 (.bool (!(b.right&&l.head?.all b.behind))) rfl (CK (by rw [r];first|exact iff_of_true rfl (by simp_all)|exact iff_of_false de (by simp_all;omega)|simp_all))
   refine qe kr ?_
   exact ⟨Z.sub kr,g.pk [0]⟩
  intro a Z g
  refine ap Z (λ_=>o) [8,9,10,11,12,13,14] (bt 16 [15]) [(35,.bool false)] λa Z=>?_
  refine qH Z (λ_=>o) (i:=15) rfl rfl (d:=36) rfl de kr (λ_ _ _ h=>h) (v:= .bool false) (λ_=>Yl.pure kr) λa Z=>?_
  replace Z:=Z.sp 36 (.bool (!(b.right&&l.head?.all b.behind))) rfl (CK (by rw [r];first|exact iff_of_true rfl (by simp_all)|exact iff_of_false de (by simp_all;omega)|simp_all))
  refine qe kr ?_
  exact ⟨Z.sub kr,g.pk [0]⟩
 clear Z g;rintro a w4 ⟨Z,g⟩
 refine Jb Z g (Ju (λp=>?_) λp=>?_)
 ·
  exact (JT∘bB 2∘bW) λg=>GK (qvm q om (λh=>by rw [h] at p;exact absurd p de)) rfl g.below
 have N:(b.right&&l.head?.all b.behind)=true:=by simpa using p
 refine (aP∘aM 1∘Jq∘JC (h:=by exact λg=>g.nil 5 1)∘JG∘bM 1∘Jl∘bO 1∘JB) λa Z g=>?_
 refine qg (λmS U V=>∃(k:Nat) (pre:List Nat) (H:Bs) (X:ajq) (co:Nat),(k<=abr l)/\(abr pre<=61*k)/\(H=Gd b l k)/\(recs b l=pre++recs H (l.drop k))/\(abr pre<=co)/\mS=abr l-k/\Fr U 56 [] (ah8 39 k 38 (abr l) [(37,.slice A (abr l) c),(8,.slice X (abr pre) co),(36,.bool false),(19,.bool false),(7,vI T),(5,vI 0),(4,.slice none 0 0),(2,vP S 0),(1,.slice A (abr l) c)])/\Mem w V [.row (.slice X (abr pre) co) (abr pre) (pre.map B8) 5 1,.blk S H.cells 110]) (m:=abr l-0) ⟨0,[],b,none,0,abC _,abC _,rfl,rfl,abC _,rfl,Z.sub kr,g.pk [0,1]⟩ ?_
 clear Z g;rintro mS a w_ ⟨k,pre,H,X,co,hk,hpl,Y,O,hco,rfl,Z,g⟩
 refine Jb Z g ((cB 1∘JQ) (Ji (λP=>?_) λP=>?_))
 ·
  have C:k<abr l:=by omega
  obtain ⟨e,D⟩:∃e,l.getD k Ev.zero=e:=⟨_,rfl⟩
  have wz:e.Ok:=I e (by rw [<-D];exact qf Ev.zero C)
  have s:=q5r q om N C Y D
  obtain ⟨u,Q⟩:∃u,zn H e=u:=⟨_,rfl⟩
  rw [Q] at s
  refine (eP∘JP) ?_
  obtain ⟨gA,W,rfl,_⟩:=hr.sat k
  refine (iF k 11∘qM Ev.cells sj hr zd k Ev.zero (hk:=C)∘Jo (.agg e.cells) (by rw [D])∘JA ai7) λsD g10=>(JV zd aN (h1:=by exact r9 e)) λCP=>(bU∘Jr∘eF iU O2∘eF zd O0∘JK (h:=by exact λg=>q5s H e wz s.1 Q B _ (hL.mem g R) (g.le R))) λAr cr GN hcr=>(Jp 1∘Jx∘Jx∘Jp 2∘mW∘Jj∘Vs (.t (.t (.f .n))) [6]) λGQ=>(Vp [0,1]∘nR 3 zd O1) λa Z g o=>?_
  refine s_on Z 2 rfl (su Z g (i:=2) rfl bD rfl rfl rfl (news:=(u.map B8)) (g.rd (i:=0) rfl) (uw _) om om rfl de ?_)
  clear Z g;intro a QK E F Z g x
  refine av (g.pk [0,1,3]) (λo=>?_)
  refine Vb Z g o ((VI 4 (.t (.t (.f .n))) (h:=by exact λg=>YK e _)) λYO z=>(Vp [5]) λa Z g o=>?_)
  refine s_on Z 6 rfl (bV Z g 3 rfl rfl rfl rfl rfl iU rfl rfl (MF e.at) λYP g=>?_)
  refine dR kr ?_
  refine qe kr ?_
  have j:(abr pre+abr u)=abr (pre++u):=by rw [abu]
  rw [j] at x
  replace g:=g.bq (i:=2) (ys:=(pre++u).map B8) rfl j (by rw [abW])
  replace Z:=Z.sp 8 (.slice E (abr (pre++u)) F) rfl (iZ j)
  replace Z:=Z.sp 51 (.slice E (abr (pre++u)) F) rfl (iZ j)
  refine Jb Z g ((JG∘JR∘dx 1∘Jp 1∘aL∘Jq) λa Z g=>?_)
  exact ⟨_,om,k+1,(pre++u),e.at,E,F,by omega,by rw [abu];omega,s.2.2.1,(O.trans (by rw [s.2.1,aby])),x,rfl,Z.sub kr,g.pk [2,3]⟩
 exact (JF∘JX∘JG∘bB 3∘bW) λg=>YH (L:=pre) (q1i q om N O om) (g.own (i:=0) rfl) hco g.below
def zc5 (b:Bs) (A:ajq) (n c:Nat) (l:List Ev) (a:∀e∈l,e.Ok) (B:Nat) (w:ajg) (d:Laid B w) (f:B<=w.heap.size) (hr:Rd w w.heap.size 11 A n (l.flatMap fD)) (g:n<=1000000000000) {er:Nat} {R:List Nat} (h1:sO b l=er) (h:vR b l=R):
  Calls abt 228 #[.agg b.cells,.slice A n c] w (mI w er R):=by
 obtain rfl:abr l=n:=XG hr
 subst h1;subst h
 exact qvn b A c l a B w d f hr g
def zot (A:ajq) (n c:Nat) (l:List Ev) (a:∀e∈l,e.Ok) (B:Nat) (w:ajg) (b:Laid B w) (d:B<=w.heap.size) (hr:Rd w w.heap.size 11 A n (l.flatMap fD)) (f:n<=140737488355328) {i:Int} {er:Nat} (h:jo l=(i,er)):
  Calls abt 171 #[.slice A n c] w (Is w (.tuple #[.int .i64 i,.int .i64 (er:Int)])):=by
 obtain rfl:abr l=n:=XG hr
 exact YN A c l a B w b d hr f h
abbrev ais:=λa=>(.blk a #[vI 0,vI 0,vB 0,vB 0,vI 0,vI 0,vI 0,vI 0,vI 0,vQ 0,vI 0] 73:ajr)
def q5u (e:Ev) (he:e.Ok) (A:ajq) (c:Nat) (vs:List Nat) (B:Nat) (w:ajg) (P:Laid B w) (K:B<=w.heap.size) (hr:Rd w w.heap.size 1 A (abr vs) (vs.map bG)) (Q:∀x∈vs,x<18446744073709551616):
    Calls abt 319 #[.agg e.cells,.slice A (abr vs) c] w (nk w (e.dZ vs) (e.dB vs)):=by
 refine (iQ Tryz.func319 66) ?_
 refine (JP∘JE) λw2 L=>(JA ai7) λw4 M=>(bO 1∘JQ) λa Z b=>?_
 refine qz (λR S=>Fr R 66 [] [(17,.bool (decide (e.kind=0\/10<e.kind))),(5,vI 0),(4,vP M 0),(2,vP L 0),(1,abo A vs c)]/\Mem w S [ais M,.blk L e.cells 73]) ?_ ?_
 ·
  refine sQ ?_
  refine Jb Z b ((Jg 3 O1∘Jp 2) (Je (λu=>?_) λu=>?_))
  ·
   refine (Jp 4∘aI∘Jq) λa Z b=>?_
   have Z:=Z.sp 17 (.bool (decide (e.kind=0\/10<e.kind))) rfl (oM (by simp only [decide_eq_true_eq];first|omega|exact iff_of_true trivial om|exact iff_of_false id om))
   exact ⟨Z.sub kr,b.pk [0,1]⟩
  refine (Jg 3 O1∘Jp 2∘kV∘Jq) λa Z b=>?_
  have Z:=Z.sp 17 (.bool (decide (e.kind=0\/10<e.kind))) rfl (oM (by simp only [decide_eq_true_eq];first|omega|exact iff_of_true trivial om|exact iff_of_false id om))
  exact ⟨Z.sub kr,b.pk [0,1]⟩
 clear Z b;rintro a w1 ⟨Z,b⟩
 refine Jb Z b (Ju (λf=>?_) λf=>?_)
 ·
  have z:=of_decide_eq_true f
  have C:=of_decide_eq_true f
  refine (JT∘JP∘Jy (v:= .agg Ev.zero.cells) (h:=by exact (Yl.build (vs:=[]) rfl kr kr))∘JV zd aN (h1:=by exact r9 Ev.zero)) λCQ=>(Jp 1∘aL∘aQ) λa Z b=>?_
  exact dS rfl Z (.cellS (i:=0) Z b rfl rfl zd rfl) (.tmp Z rfl) (GJ (zcx C) rfl b.below rfl)
 have z:=of_decide_eq_false f
 have d:=of_decide_eq_false f
 obtain ⟨N,cu,T,D⟩:=P.uses e.kind om
 have E:2<w.heap.size:=Nat.lt_of_lt_of_le P.big K
 have hu:w.cell? ⟨2,e.kind*1,none⟩=some (.slice N (abr (aB e.kind)) cu):=by rw [ac5];exact T
 have G:=D.more K
 have hul:=AJ e.kind
 refine (aP∘bM 1∘Jl∘Jg 3 O1∘Jy (v:=vP 2 (e.kind*1)) (h:=by exact (Yl.uy (ad:=⟨2,0,none⟩) (m:=11) (y:=e.kind) (sz:=1) rfl rfl rfl kr om).as (by rw [acL,ab9]))∘Jy (v:= .slice N (abr (aB e.kind)) cu) (h:=by exact Pd rfl rfl kr (λ_ h=>h.A9 hu E))∘Jl∘Jp 1∘aI∘Jj) (Jh (λH=>?_) λH=>?_)
 ·
  refine (JT∘JP∘Jy (v:= .agg Ev.zero.cells) (h:=by exact (Yl.build (vs:=[]) rfl kr kr))∘JV zd aN (h1:=by exact r9 Ev.zero)) λGR=>(Jp 1∘aL∘aQ) λa Z b=>?_
  exact dS rfl Z (.cellS (i:=0) Z b rfl rfl zd rfl) (.tmp Z rfl) (GJ (zj7 d om) rfl b.below rfl)
 have l:abr vs=abr (aB e.kind):=by omega
 refine (aP∘JP∘Jg 0 O1∘Jg 1 O1∘Jg 2 O1∘Jg 3 O1∘Jy (v:= .agg e.base.cells) (h:=by exact (Yl.build (vs:=(ah8 0 e.seq 1 e.time [(2,vB e.cpu),(3,vB e.kind)])) rfl kr kr))∘JA ai7) λw6 g6=>(JV zd aN (h1:=by exact r9 e.base)) λU=>(kV∘bg 1∘Jj∘JQ∘JP∘Jg 3 O2∘Jy (v:=vP 2 (e.kind*1)) (h:=by exact (Yl.uy (ad:=⟨2,0,none⟩) (m:=11) (y:=e.kind) (sz:=1) rfl rfl rfl kr om).as (by rw [acL,ab9]))∘Jy (v:= .slice N (abr (aB e.kind)) cu) (h:=by exact Pd rfl rfl kr (λ_ h=>h.A9 hu E))∘Jl∘bO 1∘JB) λa Z b=>?_
 refine qg (λmS R S=>∃(k:Nat) (o:Ev) (g:Bool),(k<=abr (aB e.kind))/\(o=e.base.fill (((aB e.kind).zip vs).take k))/\(g=(((aB e.kind).zip vs).take k).all λp=>Ev.fits p.1 p.2)/\mS=abr (aB e.kind)-k/\Fr R 66 [] (ah8 42 k 41 (abr (aB e.kind):Nat) [(40,abo N (aB e.kind) cu),(7,.bool g),(6,vP g6 0),(26,.bool false),(17,.bool false),(5,vI 0),(4,vP M 0),(2,vP L 0),(1,abo A vs c)])/\Mem w S [.blk g6 o.cells 73,ais M,.blk L e.cells 73]) (m:=abr (aB e.kind)-0) ⟨0,e.base,true,abC _,rfl,rfl,rfl,Z.sub kr,b.pk [0,1,2]⟩ ?_
 clear Z b;rintro mS a w_ ⟨k,o,g,hk,O,n,rfl,Z,b⟩
 refine Jb Z b ((cB 1∘JQ) (Ji (λI=>?_) λI=>?_))
 ·
  have V:k<abr (aB e.kind):=by omega
  obtain ⟨i,hi⟩:∃i,(aB e.kind)[k]?=some i:=⟨_,abv V⟩
  have W:=Cj _ _ (abK hi)
  obtain ⟨x,hx⟩:∃x,vs[k]?=some x:=⟨_,abv om⟩
  have q:=zcw hi hx
  refine (eP∘aM 1) ?_
  obtain ⟨gAu,oAu,rfl,_⟩:=G.sat k
  refine (iF k 1∘Jy (v:=vI i) (h:=by exact Pd rfl rfl kr (λ_ h=>(h.old G).Ct (k:=k) (vY (F:=bL) (k:=k) (x:=i) (hi))))∘bO 2∘JR∘Jp 3) ?_
  obtain ⟨gA,oA,rfl,_⟩:=hr.sat k
  refine (iF k 1∘Jy (v:=vQ x) (h:=by exact Pd rfl rfl kr (λ_ h=>(h.old hr).Ct (k:=k) (vY (F:=bG) (k:=k) (x:=x) (hx))))∘JO (h:=by exact λb=>zoq (b.pk [0,1,2]) W)) λw52=>(Jp 1) (Ju (λj=>?_) λj=>?_)
  ·
   refine (Jp 3∘aI∘Jq) λa Z b=>?_
   have Z:=Z.sp 7 (.bool (g&&Ev.fits i x)) rfl (by rw [j,Bool.and_true])
   refine Jb Z b ((JG∘JR∘dx 1∘Jp 1∘aL∘Jq) λa Z b=>?_)
   exact ⟨_,om,k+1,(o.put i x),(g&&Ev.fits i x),by omega,by rw [q,Xq,<-O],by rw [q,aha,<-n];simp,rfl,Z.sub kr,b.pk [0,1,2]⟩
  refine (Jp 3∘aI∘Jq) λa Z b=>?_
  have Z:=Z.sp 7 (.bool (g&&Ev.fits i x)) rfl (by rw [j,Bool.and_false])
  refine Jb Z b ((JG∘JR∘dx 1∘Jp 1∘aL∘Jq) λa Z b=>?_)
  exact ⟨_,om,k+1,(o.put i x),(g&&Ev.fits i x),by omega,by rw [q,Xq,<-O],by rw [q,aha,<-n];simp,rfl,Z.sub kr,b.pk [0,1,2]⟩
 have hz:((aB e.kind).zip vs).take k=((aB e.kind).zip vs):=abM (by rw [List.length_zip];omega)
 rw [hz] at O n
 have s:o=e.made vs:=O
 have X:o.Ok:=by rw [s];exact P7 (Xp he) _ (λp hp=>Q p.2 (List.of_mem_zip hp).2)
 refine (JF∘JX∘JG∘bM 3) (Ju (λr=>?_) λr=>?_)
 ·
  refine (Jp 4∘aI∘Jj∘JT∘JP∘Jy (v:= .agg Ev.zero.cells) (h:=by exact (Yl.build (vs:=[]) rfl kr kr))∘JV zd gu (h1:=by exact r9 Ev.zero)) λt=>(Jp 1∘aL∘aQ) λa Z b=>?_
  exact dS rfl Z (.cellS (i:=1) Z b rfl rfl zd rfl) (.tmp Z rfl) (GJ (YE d l (by exact Ck e vs l (by rw [<-n];simpa using r))) rfl b.below rfl)
 refine (eF zd O0∘JL (h:=by exact λb=>P6 o X B _ (P.mem b K) (b.le K))) ?_
 rintro b _ w61 ⟨rfl,Y⟩
 refine ⟨_,rfl,_,b.call Y,?_⟩
 refine (Jp 2∘aI∘Jj) (Jh (λJ=>?_) λJ=>?_)
 ·
  refine (JT∘JP∘Jy (v:= .agg Ev.zero.cells) (h:=by exact (Yl.build (vs:=[]) rfl kr kr))∘JV zd gu (h1:=by exact r9 Ev.zero)) λt=>(Jp 1∘aL∘aQ) λa Z b=>?_
  exact dS rfl Z (.cellS (i:=1) Z b rfl rfl zd rfl) (.tmp Z rfl) (GJ (YE d l (by rw [<-s];omega)) rfl b.below rfl)
 refine (aP∘JP∘eF zd O0∘JV zd gu (h1:=by exact r9 o)) λYQ=>(Jp 1∘aL∘aQ) λa Z b=>?_
 exact dS rfl Z (.cellS (i:=1) Z b rfl rfl zd rfl) (.tmp Z rfl) (GJ (zj8 d l s om) rfl b.below rfl)
def zc6 (e:Ev) (b:e.Ok) (A:ajq) (n c:Nat) (vs:List Nat) (B:Nat) (w:ajg) (d:Laid B w) (f:B<=w.heap.size) (hr:Rd w w.heap.size 1 A n (vs.map bG)) (a:∀x∈vs,x<18446744073709551616):
  Calls abt 319 #[.agg e.cells,.slice A n c] w (nk w (e.dZ vs) (e.dB vs)):=by
 obtain rfl:abr vs=n:=by simpa using hr.len
 exact q5u e b A c vs B w d f hr a
def q5v (A:ajq) (n c:Nat) (l:List Nat) (w:ajg) (hr:Rd w w.heap.size 1 A n (l.map B8)) (d:∀b∈l,b<256) (f:n<=100000000000000) {x m e:Nat} (h:aD l=(x,m,e)):Calls abt 52 #[.slice A n c] w (Is w (.tuple #[.int .u64 (x:Int),.int .i64 (m:Int),.int .i64 (e:Int)])):=by
 have k:=Mx A n c l w hr d om
 rw [h] at k
 exact k.mono λ_ _ ⟨h,a⟩=>⟨h,by first|exact a|(subst a;exact Below.refl _ _)⟩
def kW (xs:List Nat) (q:Nat) (r:List Nat×Nat×Nat):List Nat×Nat×Nat:=if r.2.2≠0 then ([],0,r.2.2) else (xs++r.1,q+r.2.1,0)
section
variable {xs l:List Nat} {q k x m e:Nat}
theorem q5w:∀{k:Nat} {l:List Nat},(aV k l).2.2≠0->aV k l=([],0,(aV k l).2.2):=by intro x;cases x<;>grind [aV]
theorem zou:aV k l=kW [] 0 (aV k l):=by grind [kW,aV,q5w]
def zc7 (h:aD l=(x,m,e)) (a:e≠0):kW xs q (aV (k+1) l)=([],0,e):=by
 rw [aV,h,if_pos a]
 unfold kW
 exact if_pos a
theorem q5x (h:aD l=(x,m,e)) (a:e=0):kW xs q (aV (k+1) l)=kW (xs++[x]) (q+m) (aV k (l.drop m)):=by grind [kW,aV]
def zc8:kW xs q (aV 0 l)=(xs,q,0):=by
 show (xs++[],q+0,0)=_
 rw [abN]
 rfl
end
def CS {R:Ev×Nat×Nat} {ev:Ev} {v u:Int} (h:R=(ev,n,m)) (a:v=(n:Int)) (c:u=(m:Int)) (hb:Below w.heap.size w W) {C:Array ajh} (hc:C=ev.cells):Is w (.tuple #[.agg R.1.cells,.int .i64 (R.2.1:Int),.int .i64 (R.2.2:Int)]) (.returned (.tuple #[.agg C,.int .i64 v,.int .i64 u])) W:=by
 subst h a c hc
 exact ⟨rfl,hb⟩
section
variable {b:Bs} {cpu kd:Nat} {l xs:List Nat} {q e:Nat}
def zkd (h:b.right=false):bF b cpu l=(Ev.zero,0,70):=by unfold bF;exact if_pos h
theorem zke (h:b.right=true) (h1:abr l=0):bF b cpu l=(Ev.zero,0,10):=by grind [bF]
theorem zkf (h:b.right=true) (h1:abr l≠0) (hk:l.getD 0 0=kd) (a:abr (aB kd)=0):bF b cpu l=(Ev.zero,0,60):=by grind [bF]
theorem M9 (h:b.right=true) (h1:abr l≠0) (hk:l.getD 0 0=kd) (a:abr (aB kd)≠0):bF b cpu l=uj b cpu kd (aV (2+abr (aB kd)) (l.drop 1)):=by grind [bF]
def q5y (h:e≠0):uj b cpu kd ([],0,e)=(Ev.zero,0,e):=by unfold uj;exact if_pos h
theorem qvo (a:xs.getD 0 0=c) (h1:xs.getD 1 0=g) (h:281474976710656-b.seq<(c:Int)\/281474976710656-b.time<(g:Int)):uj b cpu kd (xs,q,0)=(Ev.zero,0,61):=by grind [uj]
theorem q1j {E:Ev} (a:xs.getD 0 0=c) (h1:xs.getD 1 0=g) (h:¬(281474976710656-b.seq<(c:Int)\/281474976710656-b.time<(g:Int))) (d:b.ev cpu kd c g=E) (f:E.dB (xs.drop 2)=er) (i:er≠0):uj b cpu kd (xs,q,0)=(Ev.zero,0,61):=by grind [uj]
theorem q1k {E:Ev} (a:xs.getD 0 0=c) (h1:xs.getD 1 0=g) (h:¬(281474976710656-b.seq<(c:Int)\/281474976710656-b.time<(g:Int))) (d:b.ev cpu kd c g=E) (f:E.dB (xs.drop 2)=er) (i:er=0):uj b cpu kd (xs,q,0)=(E.dZ (xs.drop 2),1+q,0):=by grind [Ev.dZ,uj]
end
def zkg {b:Bs} {cpu kd:Nat} (hb:1<=b.seq/\b.seq<=281474976710656/\0<=b.time/\b.time<=281474976710656) (h1:cpu<256) (a:kd<256) (d:(c:Int)<=281474976710656) (f:(g:Int)<=281474976710656):(b.ev cpu kd c g).Ok:=
 ⟨show aX (b.seq+c) by unfold aX;omega,show aX (b.time+g) by unfold aX;omega,h1,a,o8,o8,o8,o8,o8,by show 0<18446744073709551616;decide,o8⟩
def YR (E:Ev) (d:E.Ok) (A:ajq) (n c:Nat) (vs:List Nat) (B:Nat) (w:ajg) (f:Laid B w) (g:B<=w.heap.size) (hr:Rd w w.heap.size 1 A n (vs.map bG)) (a:∀x∈vs,x<18446744073709551616) {er:Nat} (h:E.dB vs=er):Calls abt 319 #[.agg E.cells,.slice A n c] w (Is w (.tuple #[.agg (E.dZ vs).cells,.int .i64 (er:Int)])):=by
 subst h
 exact (zc6 E d A n c vs B w f g hr a).mono λ_ _ h=>⟨h.ret,h.below⟩
def aaO {cap:Nat} (h:Rd w B 1 A n (l.map bG)) (hk:k<=n) (hc:n<=cap):Rd w B 1 (if cap=k then A else A.map (·.add (k*1))) (n-k) ((l.drop k).map bG):=by
 have a:=h.from hk hc
 rw [List.map_drop]
 have e:(l.map bG).drop (k*1)=(l.map bG).drop k:=by rw [ac5]
 rw [<-e]
 exact a
def q1l (kd:Nat) (a:kd<256) (B:Nat) (w:ajg) (d:Laid B w) (f:B<=w.heap.size):Calls abt 317 #[.int .u8 (kd:Int)] w λr g=>∃A c,r= .returned (.slice A (abr (aB kd)) c)/\Below w.heap.size w g:=
 (q08 kd a B w d f).mono λ_ _ ⟨v, xs, h, i, j⟩ => by
  obtain ⟨A,c,rfl,hc⟩:=Cq i
  exact ⟨A,c,h,j⟩
def q5z (W w:ajg) (b d:Nat) (A:ajq) (c:Nat) (l:List Nat) (q:Nat) (fr:List ajr) (k:∀z∈l,z<256) (n:q<=abr l) (y:abr l<=100000000000) (hr:Rd W W.heap.size 1 A (abr l) (l.map B8)) (hc:abr l<=c)
    (f:Mem W w (.blk b #[.slice A (abr l) c] 30:: .blk d #[.int .i64 (q:Int)] 3::fr)) {x m e p:Nat} (g:aD (l.drop q)=(x,m,e)) (o:q+m=p):
    Calls abt 318 #[.pointer (some ⟨b,0,none⟩),.pointer (some ⟨d,0,none⟩)] w λr s=>r= .returned (.tuple #[.int .u64 (x:Int),.int .i64 (e:Int)])/\Mem W s (ah7 b A (abr l) c::.blk d #[.int .i64 (p:Int)] 3::fr):=by
 refine nZ Tryz.func318 [vP b 0,vP d 0] [(0,vP b 0),(1,vP d 0)] λa Z=>?_
 refine Jb Z f ((aM 2∘Jq) ?_)
 have t:m<=abr l-q:=by have h:=yu (l.drop q);rwa [g,abE] at h
 exact (JG∘JP∘Jc O0∘Jc O1∘Jy (h:=by exact aaf bD (j:=q) rfl rfl rfl om)∘JI (h:=by exact λf=>q5v _ _ _ (l.drop q) _ (Rd.Gs (f.old hr) n hc) (λz hz=>k z (abQ hz)) om g)) λu v=>(Jp 1∘Jx∘Jx∘Jx∘Jp 3∘Jr∘Jc O1∘Jp 2∘Jo (vI p) (by exact q7 om om)∘JW gu aN) λi=>(oK∘bg 4∘aQ∘bW) λf=>by exact ⟨rfl,f.pt (fs':=(ah7 b A (abr l) c::ah9 d p::fr)) 2 [0,1]⟩
abbrev aiJ:=λa b c d e f g h i=>((12,.slice a b c)::(11,.func (.func 318) #[] #[vP d 0,vP e 0])::(10,vP e 0)::(31,.bool false)::(9,vI f)::(23,.bool false)::(19,.bool false)::(8,vI 0)::(7,vI 0)::(6,vP g 0)::(5,vP d 0)::(3,vP h 0)::i:List (Nat×ajh))
def q50 (b:Bs) (cpu:Nat) (CU:cpu<256) (A:ajq) (c:Nat) (l:List Nat) (B:Nat) (w:ajg) (hL:Laid B w) (hB:B<=w.heap.size) (hr:Rd w w.heap.size 1 A (abr l) (l.map B8)) (hc:abr l<=c) (hl:∀z∈l,z<256) (hn:abr l<=100000000000):Calls abt 311 #[.agg b.cells,.int .u8 (cpu:Int),.slice A (abr l) c] w (Is w (.tuple #[.agg (bF b cpu l).1.cells,.int .i64 ((bF b cpu l).2.1:Int),.int .i64 ((bF b cpu l).2.2:Int)])):=by
 refine (vC Tryz.func311 101) ?_
 refine (JP∘JE) λw3 U=>(uH) λw5 J=>(JA ai7) λw6 g6=>(bO 2∘JQ∘JP∘eF iU O2∘JI (h:=by exact λg=>M8 b _)) λzJ V=>(Jp 1∘bU∘Jj) (Ju (λP=>?_) λP=>?_)
 ·
  refine (JT∘JP∘fu ai7∘JV zd aN) λCQ=>(bO 2∘JZ) λa Z g=>?_
  exact iy rfl Z (.cellS (i:=0) Z g rfl rfl zd rfl) (.tmp Z rfl) (.tmp Z rfl) (CS (zkd (by simpa using P)) rfl rfl g.below rfl)
 have D:b.right=true:=by simpa using P
 refine (aP∘JQ∘JP∘Jc O1∘Jl∘Jp 1∘bU∘Jj) (Je (λQL=>?_) λQL=>?_)
 ·
  refine (JT∘JP∘fu ai7∘JV zd aN) λGR=>(bO 2∘JZ) λa Z g=>?_
  exact iy rfl Z (.cellS (i:=0) Z g rfl rfl zd rfl) (.tmp Z rfl) (.tmp Z rfl) (CS (zke D om) rfl rfl g.below rfl)
 obtain ⟨s,p⟩:∃z,l.getD 0 0=z:=⟨_,rfl⟩
 have hkd:s<256:=by rw [<-p];exact hl _ (qf 0 om)
 have hul:=AJ s
 refine (aP∘JP∘Jc O1) ?_
 obtain ⟨gA,oA,rfl,_⟩:=hr.sat 0
 refine (Jy (v:=vP gA oA) (h:=by exact Yl.indexAddr (ad:=⟨gA,oA,none⟩) (y:=0) (sz:=1) rfl rfl rfl om kr)∘Jy (v:=vB (l.getD 0 0)) (h:=by exact aad hr 0 0 om rfl rfl)∘Jo (vB s) (by rw [p])∘JL (h:=by exact λg=>q1l s hkd B _ (hL.mem g hB) (g.le hB))) ?_
 rintro g _ EX ⟨Af,cf,rfl,V⟩
 refine ⟨_,rfl,_,g.call V,?_⟩
 refine (Jl∘Jp 1∘kV∘Jj∘bM 2∘aL∘Jj) (Je (λhd31=>?_) λhd31=>?_)
 ·
  refine (JT∘JP∘fu ai7∘JV zd aN) λGU=>(bO 2∘JZ) λa Z g=>?_
  exact iy rfl Z (.cellS (i:=0) Z g rfl rfl zd rfl) (.tmp Z rfl) (.tmp Z rfl) (CS (zkf D om p om) rfl rfl g.below rfl)
 refine (aP∘JP∘JA #[vI 0]) λsD o=>(JW aN aN) λCV=>(Jr∘Jy (h:=by exact Yl.makeFunc (fst:=[]) (caps:=[vP J 0,vP o 0]) rfl rfl rfl)∘Jp 1∘aL∘bg 1∘Jq∘JC (h:=by exact λg=>g.nil 41 1)∘JG∘bM 2∘Jo (vI (2+abr (aB s):Nat)) (by exact q7 om om)∘bO 1∘JB) λa Z g=>?_
 refine qg (λmS aS wS=>∃(k:Nat) (q:Nat) (xs:List Nat) (W:ajq) (K:Nat),(k<=2+abr (aB s))/\(abr xs=k)/\(q+1<=abr l)/\(∀x∈xs,x<18446744073709551616)/\(aV (2+abr (aB s)) (l.drop 1)=kW xs q (aV (2+abr (aB s)-k) (l.drop (q+1))))/\(abr xs<=K)/\mS=2+abr (aB s)-k/\Fr aS 101 [] (ah8 36 k 35 (2+abr (aB s):Nat) (aiJ W (abr xs) K J o (abr (aB s):Nat) g6 U [(1,vB cpu)]))/\Mem w wS [.row (.slice W (abr xs) K) (abr xs) (xs.map bG) 41 1,ah9 o (q+1:Nat),ais g6,ah7 J (some ⟨gA,oA,none⟩) (abr l) c,.blk U b.cells 110]) (m:=2+abr (aB s)-0) ⟨0,0,[],none,0,abC _,rfl,om,(λx hx=>by cases hx),zou,abx _,rfl,Z.sub kr,g.pk [0,1,2,3,4]⟩ ?_
 clear Z g;rintro mS a w_ ⟨k,q,xs,W,K,hk,hxl,hq,Q,G,hcx,rfl,Z,g⟩
 refine Jb Z g ((cB 1∘JQ) (Ji (λQM=>?_) λQM=>?_))
 ·
  have hqq:q+1<=abr l:=by omega
  obtain ⟨⟨x,m,e⟩,R⟩:∃r,aD (l.drop (q+1))=r:=⟨_,rfl⟩
  have hxb:x<18446744073709551616:=by have h:=Ga (l.drop (q+1)) (λz hz=>hl z (abQ hz));rwa [R] at h
  have hml:m<=abr l- (q+1):=by have h:=yu (l.drop (q+1));rwa [R,abE] at h
  obtain ⟨N,hN⟩:∃N,2+abr (aB s)-k=N+1:=⟨2+abr (aB s)-k-1,by omega⟩
  rw [hN] at G
  refine (eP∘aM 1) λa Z g=>?_
  refine fo Z 1 rfl rfl ?_
  replace g:=g.pk (fs':=[ah7 J (some ⟨gA,oA,none⟩) (abr l) c,ah9 o (q+1:Nat),.row (.slice W (abr xs) K) (abr xs) (xs.map bG) 41 1,ais g6,.blk U b.cells 110]) [3,1,0,2,4]
  refine zl Z (f:=318) (vs:=[]) (fst:=[]) (caps:=[vP J 0,vP o 0]) rfl rfl rfl kr rfl de (q5z w _ J o _ c l (q+1) [.row (.slice W (abr xs) K) (abr xs) (xs.map bG) 41 1,ais g6,.blk U b.cells 110] hl hqq om hr hc g R (show q+1+m=q+m+1 by omega)) ?_
  rintro _ w40 ⟨rfl,hm⟩
  refine ⟨_,rfl,?_⟩
  replace g:=hm
  clear Z;intro a Z
  refine Jb Z g ((Jp 1∘Jx∘Jx∘bO 2∘bM 2∘aL∘Jj) (Jh (λQN=>?_) λQN=>?_))
  ·
   refine (JT∘JP∘fu ai7∘Jp 1∘JV zd oI) λGV=>(bO 2∘JZ) λa Z g=>?_
   exact iy rfl Z (.cellS (i:=3) Z g rfl rfl zd rfl) (.tmp Z rfl) (.tmp Z rfl) (CS ((M9 D om p om).trans ((congrArg _ (G.trans (zc7 R om))).trans (q5y om))) rfl rfl g.below rfl)
  refine (aP∘JR∘Jp 2∘JU kT #[vQ x]) λBa YT=>(JD ([x].map bG) 3 (λ_ _=>oI) kT (hr:=by exact λg=>g.bE (i:=0) (n:=1) (size:=1) rfl rfl) (h1:=by exact YI _)) λGX yJ yK GY=>(Jp 1∘fK∘Jq) ?_
  have H:(abr xs+1)=abr (xs++[x]):=by rw [abu];rfl
  rw [H] at GY
  refine (JC (h:=by exact λg=>g.bq (i:=3) (ys:=(xs++[x]).map bG) rfl H (by rw [abW]))∘Jk 12 (.slice yJ (abr (xs++[x])) yK) (h:=by exact iZ H)∘JG∘JR∘dx 1∘Jp 1∘aL∘Jq) λa Z g=>?_
  exact ⟨_,om,k+1,(q+m),(xs++[x]),yJ,yK,by omega,by rw [abu,hxl];rfl,by omega,(λy hy=>by rcases acg.1 hy with h|h;exact Q y h;rw [List.mem_singleton.1 h];exact hxb),(G.trans ((q5x R om).trans (by rw [acH,show 2+abr (aB s)- (k+1)=N by omega,show q+1+m=q+m+1 by omega]))),GY,rfl,Z.sub kr,g.pk [3,2,4,1,5]⟩
 have aic:abr xs=2+abr (aB s):=by omega
 rw [show 2+abr (aB s)-k=0 by omega,zc8] at G
 obtain ⟨S,L⟩:∃z,xs.getD 0 0=z:=⟨_,rfl⟩
 obtain ⟨M,O⟩:∃z,xs.getD 1 0=z:=⟨_,rfl⟩
 have aie:=Q S (by rw [<-L];exact qf 0 om)
 have aif:=Q M (by rw [<-O];exact qf 0 om)
 have hbr:=of_decide_eq_true D
 refine (JF∘JX∘JG∘JQ) λa Z g=>?_
 refine qz (λaS wS=>Fr aS 101 [] ((69,.bool (decide (281474976710656-b.seq<(S:Int)\/281474976710656-b.time<(M:Int))))::(37,.bool false)::ah8 36 k 35 (2+abr (aB s):Nat) (aiJ W (abr xs) K J o (abr (aB s):Nat) g6 U [(1,vB cpu)]))/\Mem w wS [.row (.slice W (abr xs) K) (abr xs) (xs.map bG) 41 1,ah9 o (q+1:Nat),ais g6,ah7 J (some ⟨gA,oA,none⟩) (abr l) c,.blk U b.cells 110]) ?_ ?_
 ·
  refine Jb Z g ((Vs .n []) λGZ=>(Vp [0]∘Vf 3 0) ?_)
  repeat (first|clear Z|clear g|clear u)
  intro a Z g u
  obtain ⟨C,rfl⟩:=g.rat 0 0
  refine Vb Z g u ((Vy 1 (v:=vP C 0) (h:=by exact Yl.indexAddr (ad:=⟨C,0,none⟩) (y:=0) (sz:=1) rfl rfl rfl om kr)∘Vy 2 (v:=vQ (xs.getD 0 0)) (h:=by exact aae 0 0 0 om rfl rfl rfl)∘Vo (vQ S) (by rw [L])∘Vc 4 O4∘Vp [5]∘Vo (vI (281474976710656-b.seq)) (by exact nN ⟨by omega,by omega⟩)∘Vq [6] [(58,vQ (IntKind.u64.wrap (281474976710656-b.seq)))]∘Vo (vQ ((281474976710656-b.seq).toNat)) (by exact M5 ⟨by omega,by omega⟩ rfl)∘Vp [7,8]) λa Z g u=>?_)
  rcases Z.tf 60 rfl with ⟨T,Z⟩|⟨T,Z⟩
  ·
   have QO:=of_decide_eq_true T
   refine Vb Z g u ((Vq [9,10,11,12,13,14,15,16] [(68,undef)]∘Vq [17] [(69,.bool true)]∘Vo (.bool (decide (281474976710656-b.seq<(S:Int)\/281474976710656-b.time<(M:Int)))) (by exact oM (by simp only [decide_eq_true_eq];first|omega|exact iff_of_true trivial om|exact iff_of_false id om))∘Vd∘aI) λa Z g=>?_)
   exact ⟨Z.sub kr,g.pk [0,1,2,3,4]⟩
  have QO:=of_decide_eq_false T
  refine ap Z (λ_=>u) [9,12] (bt 18 [10,11,13,14,15,16,17]) [(64,vP U 1),(61,vS C (abr xs) K)] λa Z=>?_
  refine iN Z u 10 rfl (v:=vP C 1) (Yl.indexAddr (ad:=⟨C,0,none⟩) (y:=1) (sz:=1) rfl rfl rfl om kr) λa Z=>?_
  refine iN Z u 11 rfl (v:=vQ (xs.getD 1 0)) (aae 0 1 0 om rfl rfl rfl) λa Z=>?_
  replace Z:=Z.sp 63 (vQ M) rfl (by rw [O])
  refine dJ Z u 13 4 (v:=vI b.time) λa Z=>?_
  refine qH Z (λ_=>u) (i:=14) rfl rfl (d:=66) rfl de kr (λ_ _ _ h=>h) (v:=vI (IntKind.i64.wrap (281474976710656-b.time))) (λ_=>Yl.pure kr) λa Z=>?_
  replace Z:=Z.sp 66 (vI (281474976710656-b.time)) rfl (nN ⟨by omega,by omega⟩)
  refine qH Z (λ_=>u) (i:=15) rfl rfl (d:=67) rfl de kr (λ_ _ _ h=>h) (v:=vQ (IntKind.u64.wrap (281474976710656-b.time))) (λ_=>Yl.pure kr) λa Z=>?_
  replace Z:=Z.sp 67 (vQ ((281474976710656-b.time).toNat)) rfl (M5 ⟨by omega,by omega⟩ rfl)
  refine ap Z (λ_=>u) [16] (bt 18 [17]) [(68,.bool (decide ((M:Int)>((281474976710656-b.time).toNat:Int))))] λa Z=>?_
  refine qH Z (λ_=>u) (i:=17) rfl rfl (d:=69) rfl de kr (λ_ _ _ h=>h) (v:= .bool (decide ((M:Int)>((281474976710656-b.time).toNat:Int)))) (λ_=>Yl.pure kr) λa Z=>?_
  replace Z:=Z.sp 69 (.bool (decide (281474976710656-b.seq<(S:Int)\/281474976710656-b.time<(M:Int)))) rfl (oM (by simp only [decide_eq_true_eq];first|omega|exact iff_of_true trivial om|exact iff_of_false id om))
  refine qe kr ?_
  exact ⟨Z.sub kr,g.pk [0,1,2,3,4]⟩
 clear Z g;rintro a zJ ⟨Z,g⟩
 refine Jb Z g (Ju (λF=>?_) λF=>?_)
 ·
  have QS:=of_decide_eq_true F
  refine (JT∘JP∘fu ai7∘JV zd iE) λYU=>(bO 2∘JZ) λa Z g=>?_
  exact iy rfl Z (.cellS (i:=2) Z g rfl rfl zd rfl) (.tmp Z rfl) (.tmp Z rfl) (CS ((M9 D om p om).trans ((congrArg _ G).trans (qvo L O (of_decide_eq_true F)))) rfl rfl g.below rfl)
 have QS:=of_decide_eq_false F
 have G5:¬(281474976710656-b.seq<(S:Int)\/281474976710656-b.time<(M:Int)):=of_decide_eq_false F
 obtain ⟨E,hE⟩:∃E,b.ev cpu s S M=E:=⟨_,rfl⟩
 obtain ⟨er,X⟩:∃er,E.dB (xs.drop 2)=er:=⟨_,rfl⟩
 have sZ:E.Ok:=by rw [<-hE];exact zkg hbr CU hkd om om
 refine (aP) λa Z g=>?_
 refine qz (λaS wS=>∃(I:Nat),Fr aS 101 [] ((16,vI er)::(15,vP I 0)::(69,.bool false)::(37,.bool false)::ah8 36 k 35 (2+abr (aB s):Nat) (aiJ W (abr xs) K J o (abr (aB s):Nat) g6 U []))/\Mem w wS [.blk I ((E.dZ (xs.drop 2)).cells) 73,.row (.slice W (abr xs) K) (abr xs) (xs.map bG) 41 1,ah9 o (q+1:Nat),ais g6,ah7 J (some ⟨gA,oA,none⟩) (abr l) c,.blk U b.cells 110]) ?_ ?_
 ·
  refine Jb Z g ((Vs .n [26]) λCW=>(Vf 0 0∘Vp [2]∘Vf 7 1∘Vp [9,14,19]∘Vc 1 O4) ?_)
  repeat (first|clear Z|clear g|clear u)
  intro a Z g u
  obtain ⟨C,rfl⟩:=g.rat 0 0
  refine Vb Z g u ((Vy 3 (v:=vP C 0) (h:=by exact Yl.indexAddr (ad:=⟨C,0,none⟩) (y:=0) (sz:=1) rfl rfl rfl om kr)∘Vy 4 (v:=vQ (xs.getD 0 0)) (h:=by exact aae 0 0 0 om rfl rfl rfl)∘Vo (vQ S) (by rw [L])∘Vw 5 .i64∘Vp [6]∘Vo (vI (b.seq+S)) (by exact nN ⟨by omega,by omega⟩)∘Vc 8 O4∘Vy 10 (v:=vP C 1) (h:=by exact Yl.indexAddr (ad:=⟨C,0,none⟩) (y:=1) (sz:=1) rfl rfl rfl om kr)∘Vy 11 (v:=vQ (xs.getD 1 0)) (h:=by exact aae 0 1 0 om rfl rfl rfl)∘Vo (vQ M) (by rw [O])∘Vw 12 .i64∘Vp [13]∘Vo (vI (b.time+M)) (by exact nN ⟨by omega,by omega⟩)∘Vc 15 O3∘Vy 16 (v:=vP gA oA) (h:=by exact Yl.indexAddr (ad:=⟨gA,oA,none⟩) (y:=0) (sz:=1) rfl rfl rfl om kr)∘Vy 17 (v:=vB (l.getD 0 0)) (h:=by exact aad hr 0 0 om rfl rfl)∘Vo (vB s) (by rw [p])∘Vy 18 (v:= .agg #[vI (b.seq+S),vI (b.time+M),vB cpu,vB s,vI 0,vI 0,vI 0,vI 0,vI 0,vQ 0,vI 0]) (h:=by exact Yl.build (vs:=(ah8 0 (b.seq+S) 1 (b.time+M) [(2,vB cpu),(3,vB s)])) rfl kr kr)∘Vo (.agg E.cells) (by rw [<-hE];try rfl)∘Vy 20 (h:=by exact aaf kT (j:=2) rfl rfl rfl om)) λa Z g u=>?_)
  refine zh [21,25] kr rfl ?_
  refine all_cons ?_ ?_
  ·refine qu Z (i:=21) rfl rfl ?_
   refine jB Z g [.agg E.cells,.slice (if K=2 then some ⟨C,0,none⟩ else (some ⟨C,0,none⟩:ajq).map (·.add (2*1))) (abr xs-2) (K-2)] (.tuple #[.agg ((E.dZ (xs.drop 2)).cells),vI er]) rfl rfl (YR E sZ _ _ _ (xs.drop 2) B _ (hL.mem g hB) (g.le hB) (aaO (g.rd (i:=0) rfl) om om) (λx hx=>Q x (abQ hx)) X) λw93 V g a Z=>?_
   refine av (g.pk [0,1,2,3,4]) (λu=>?_)
   refine Vb Z g u ((Vp [22]∘Vx 23∘Vx 24∘VA 25 .n ai7) λCO I=>λa Z g u=>?_)
   refine s_on Z 26 rfl (bV Z g 0 rfl rfl rfl rfl rfl zd rfl rfl (r9 (E.dZ (xs.drop 2))) λY g=>?_)
   refine dR kr ?_
   refine ap Z (cK kr) [27] (bt 28 []) [(16,vI er)] λa Z=>?_
   refine qe kr ?_
   exact ⟨I,Z.sub kr,g.pk [0,1,2,3,4,5]⟩
  refine all_cons ?_ all_nil
  refine qu Z (i:=25) rfl rfl ?_
  refine iq Z g ai7 ?_
  clear Z g;intro a CO I Z g
  refine av (g.pk [1,2,3,4,5]) (λu=>?_)
  refine Vb Z g u ((VI 21 (.f .n) (h:=by exact λg=>YR E sZ _ _ _ (xs.drop 2) B _ (hL.mem g hB) (g.le hB) (aaO (g.rd (i:=1) rfl) om om) (λx hx=>Q x (abQ hx)) X)) λw93 V=>(Vp [22]∘Vx 23∘Vx 24) λa Z g u=>?_)
  refine s_on Z 26 rfl (bV Z g 0 rfl rfl rfl rfl rfl zd rfl rfl (r9 (E.dZ (xs.drop 2))) λY g=>?_)
  refine dR kr ?_
  refine ap Z (cK kr) [27] (bt 28 []) [(16,vI er)] λa Z=>?_
  refine qe kr ?_
  exact ⟨I,Z.sub kr,g.pk [0,1,2,3,4,5]⟩
 clear Z g;rintro a EY ⟨I,Z,g⟩
 refine Jb Z g ((bM 2∘bU∘Jj) (Jh (λQT=>?_) λQT=>?_))
 ·
  refine (JT∘JP∘fu ai7∘JV zd oI) λYV=>(bO 2∘JZ) λa Z g=>?_
  exact iy rfl Z (.cellS (i:=3) Z g rfl rfl zd rfl) (.tmp Z rfl) (.tmp Z rfl) (CS ((M9 D om p om).trans ((congrArg _ G).trans (q1j L O G5 hE X om))) rfl rfl g.below rfl)
 refine (aP) λa Z g=>?_
 refine wp_seq ?_
 refine Jb Z g ((Vs (.t (.t (.t (.f .n)))) []) λaij=>(nR 0 zd O0∘Vc 1 O2) λa Z g u=>?_)
 refine s_on Z 2 rfl (bV Z g 3 rfl rfl rfl rfl rfl zd rfl rfl (r9 (E.dZ (xs.drop 2))) λYW g=>?_)
 refine av (g.pk [0,1,2,4,5]) (λu=>?_)
 refine Vb Z g u ((Vp [3,4]∘Vd∘JZ) λa Z g=>?_)
 exact iy rfl Z (.cellS (i:=3) Z g rfl rfl zd rfl) (.tmp Z rfl) (.tmp Z rfl) (CS ((M9 D om p om).trans ((congrArg _ G).trans (q1k L O G5 hE X om))) om rfl g.below rfl)
def zkh (b:Bs) (cpu:Nat) (a:cpu<256) (A:ajq) (n c:Nat) (l:List Nat) (B:Nat) (w:ajg) (d:Laid B w) (f:B<=w.heap.size) (hr:Rd w w.heap.size 1 A n (l.map B8)) (hc:n<=c) (g:∀b∈l,b<256) (i:n<=100000000000) {e:Ev} {L er:Nat} (h:bF b cpu l=(e,L,er)):
  Calls abt 311 #[.agg b.cells,.int .u8 (cpu:Int),.slice A n c] w (Is w (.tuple #[.agg e.cells,.int .i64 (L:Int),.int .i64 (er:Int)])):=by
 obtain rfl:abr l=n:=by simpa using hr.len
 have k:=q50 b cpu a A c l B w d f hr hc g i
 rwa [h] at k
def YX (W:ajg) (d cpu:Nat) (Inv:Bs->List Nat->List ajr->Prop) (Stop:List ajr->Prop):Prop:=
 ∀(bk:Bs) (rest:List Nat) (F fr:List ajr) (w:ajg) (e:Ev) (m er:Nat),Inv bk rest F->bF bk cpu rest=(e,m,er)->Mem W w (F++fr)->
  YieldAt acf 0 abt d #[.agg #[.int .i64 e.seq,.int .i64 e.time,.int .u8 (e.cpu:Int),.int .u8 (e.kind:Int),.int .i64 e.task,.int .i64 e.group,.int .i64 e.to,.int .i64 e.weight,.int .i64 e.ticks,.int .u64 (e.mask:Int),.int .i64 e.got,.int .i64 (m:Int)],.int .i64 (er:Int)] w λx f=>∃c,Mem W f (c++fr)/\((er=0/\x= .returned (.bool true)/\Inv e.at (rest.drop m) c)\/(x= .returned (.bool false)/\Stop c))
def zc9 (W:ajg) (Stop:List ajr->Prop) (r:ajk) (d:ajg):Prop:=∃v,r= .returned v/\∃c,Mem W d c/\Stop c
theorem qp2 {W:ajg} {fr:List ajr} {er:Nat} {I S:List ajr->Prop}:∀(e:ajk) (d:ajg),(∃c,Mem W d (c++fr)/\((er=0/\e= .returned (.bool true)/\I c)\/(e= .returned (.bool false)/\S c)))->∃v,e= .returned v:=by intros;grind
section
variable {b bk:Bs} {cpu m a mm er:Nat} {l rest:List Nat} {es:List Ev} {e:Ev}
theorem YZ (c:abr es≠0) {q:Ev} (d:es.getD (abr es-1) Ev.zero=q):es.getLast?=some q:=by grind
def zov (h:q6 cpu m b none l=jf es a (q6 cpu (m-abr es) bk es.getLast? rest)) (hm:abr es<m) (c:bF bk cpu rest=(e,mm,er)) (d:er≠0):q6 cpu m b none l=([],0,er):=by
 rw [h,show m-abr es=m-abr es-1+1 by omega]
 exact q40 c d es a
def zki (h:q6 cpu m b none l=jf es a (q6 cpu (m-abr es) bk es.getLast? rest)) (hm:abr es<m) (c:bF bk cpu rest=(e,mm,0)) {q:Ev} (d:abr es≠0) (f:es.getD (abr es-1) Ev.zero=q) (hs:e.seq=q.seq):q6 cpu m b none l=([],0,71):=by
 rw [h,show m-abr es=m-abr es-1+1 by omega,YZ d f]
 exact q1c c (p:=some q) (decide_eq_true hs) es a
def Y0 (h:q6 cpu m b none l=jf es a (q6 cpu (m-abr es) bk es.getLast? rest)) (hm:abr es<m) (d:bF bk cpu rest=(e,mm,0)) {q:Ev} (f:es.getD (abr es-1) Ev.zero=q) (hs:abr es=0\/e.seq≠q.seq):
  q6 cpu m b none l=jf (es++[e]) (a+mm) (q6 cpu (m- abr (es++[e])) e.at (es++[e]).getLast? (rest.drop mm)):=by
 rw [h,show m-abr es=m- abr (es++[e])+1 by rw [abu];simp only [ae4];omega,List.getLast?_append]
 refine q1d d ?_ es a
 rcases hs with c|c
 ·rw [acz c];rfl
 ·by_cases hz:abr es=0
  ·rw [acz hz];rfl
  ·rw [YZ hz f];exact (decide_eq_false c:)
def zow (h:q6 cpu m b none l=jf es a (q6 cpu (m-abr es) bk es.getLast? rest)) (hm:abr es=m):q6 cpu m b none l=(es,a,0):=by
 rw [h,show m-abr es=0 by omega]
 show (es++[],a+0,0)=_
 rw [abN]
 rfl
end
def QU (w:ajg) (q:List Ev×Nat×Nat) (r:ajk) (d:ajg):Prop:=(∃A c,r= .returned (.tuple #[.slice A (abr q.1) c,.int .i64 (q.2.1:Int),.int .i64 (q.2.2:Int)])/\d.ownsRow w.heap.size 73 11 (.slice A (abr q.1) c) (abr q.1) (q.1.flatMap fD)/\abr q.1<=c)/\Below w.heap.size w d
def Na {q:List Ev×Nat×Nat} (h:q=([],0,er)) (hb:Below w.heap.size w W):QU w q (.returned (.tuple #[.slice none 0 0,.int .i64 0,.int .i64 (er:Int)])) W:=by
 subst h
 exact ⟨⟨none,0,rfl,acK _ _ _ _,abx _⟩,hb⟩
def zda {q:List Ev×Nat×Nat} {es:List Ev} {a:Nat} (h:q=(es,a,0)) (d:W.ownsRow w.heap.size 73 11 (.slice A (abr es) c) (abr es) (es.flatMap fD)) (hc:abr es<=c) (hb:Below w.heap.size w W):QU w q (.returned (.tuple #[.slice A (abr es) c,.int .i64 (a:Int),.int .i64 0])) W:=by
 subst h
 exact ⟨⟨A,c,rfl,d,hc⟩,hb⟩
section
variable {b:Bs} {cpu:Nat} {n:Int} {l:List Nat}
def q1m (h:n<0):gZ b cpu n l=([],0,2):=if_pos h
def qvq (h:¬n<0) (h1:b.right=false):gZ b cpu n l=([],0,70):=by unfold gZ;rw [if_neg h,if_pos h1]
theorem QV {m:Nat} (h1:b.right=true):gZ b cpu (m:Int) l=q6 cpu m b none l:=by grind [gZ]
def qvr (h:m=0) (h1:b.right=true):gZ b cpu (m:Int) l=([],0,0):=by subst h;exact (QV h1).trans rfl
end
def q52 (W w:ajg) (p gc q x B cpu:Nat) (y:cpu<256) (b:Bs) (A:ajq) (c:Nat) (l:List Nat) (Inv:Bs->List Nat->List ajr->Prop) (Stop:List ajr->Prop) (I:List ajr) (Y:Laid B W) (O:B<=W.heap.size) (hr:Rd W W.heap.size 1 A (abr l) (l.map B8)) (hc:abr l<=c) (hl:∀z∈l,z<256) (hn:abr l<=100000000000)
    (hy:YX W x cpu Inv Stop) (J:Inv b l I) (g:Mem W w (.blk p b.cells 110:: .blk gc #[.int .u8 (cpu:Int)] 5:: .blk q #[.slice A (abr l) c] 30::I)):
    Calls abt 310 (.func (.yield x) #[] #[]:: [.pointer (some ⟨p,0,none⟩),.pointer (some ⟨gc,0,none⟩),.pointer (some ⟨q,0,none⟩)]).toArray w (zc9 W Stop):=by
 refine nZ Tryz.func310 [.func (.yield x) #[] #[],vP p 0,vP gc 0,vP q 0] [aik x,(1,vP p 0),(2,vP gc 0),(3,vP q 0)] λa Z=>?_
 refine Jb Z g ((JB) λa Z g=>?_)
 refine qg (λP aS wS=>∃(o:Bs) (d:List Nat) (X:ajq) (k:Nat) (F:List ajr),(Inv o d F)/\(Rd W W.heap.size 1 X (abr d) (d.map B8))/\(abr d<=k)/\(∀z∈d,z<256)/\(abr d<=abr l)/\P=abr d/\Fr aS 32 [] [aik x,(1,vP p 0),(2,vP gc 0),(3,vP q 0)]/\Mem W wS (.blk p o.cells 110::.blk gc #[vB cpu] 5::ah7 q X (abr d) k::F)) (m:=abr l) ⟨b,l,A,c,I,J,hr,hc,hl,abx _,rfl,Z.sub kr,g.pt 3 [0,1,2]⟩ ?_
 clear Z g;rintro P a w_ ⟨o,d,X,k,F,hI,Q,C,D,hrn,rfl,Z,g⟩
 obtain ⟨⟨e,m,R⟩,K⟩:∃r,bF o cpu d=r:=⟨_,rfl⟩
 refine Jb Z g ((JB∘JP∘eF iU O0∘Jc O1∘Jc O2∘JI (h:=by exact λg=>zkh o cpu y X (abr d) k d B _ (Y.mem g O) (g.le O) (g.old Q) C D om K)) λyL L=>(Jp 1∘Jx∘Jx∘Jx∘JA ai7) λw5 u=>(JV zd aN (h1:=by exact r9 e)) λS=>(bO 2∘JQ) λa Z g=>?_)
 refine wp_seq ?_
 refine Gv (i:=5) ?_
 refine Jb Z g ((Jp 1∘eF zd O0∘Jp 1∘fu #[vI e.seq,vI e.time,vB e.cpu,vB e.kind,vI e.task,vI e.group,vI e.to,vI e.weight,vI e.ticks,vQ e.mask,vI e.got,vI m]∘Jp 1∘Jq) λa Z g=>?_)
 refine vv Z (i:=5) (vs:=[.agg #[vI e.seq,vI e.time,vB e.cpu,vB e.kind,vI e.task,vI e.group,vI e.to,vI e.weight,vI e.ticks,vQ e.mask,vI e.got,vI m],vI R]) rfl rfl rfl rfl rfl rfl de (hy o d F _ _ e m R hI K (aag (F:=[.blk u e.cells 73,.blk p o.cells 110,.blk gc #[vB cpu] 5,ah7 q X (abr d) k]) g)) qp2 ?_
 clear Z g;rintro v E a ⟨G,g,(⟨T,H,M⟩|⟨H,N⟩)⟩ Z<;>injection H with H<;>subst H
 ·
  replace g:Mem W E (.blk u e.cells 73::.blk p o.cells 110::.blk gc #[vB cpu] 5::ah7 q X (abr d) k::G):=aag (es:=[.blk u e.cells 73,.blk p o.cells 110,.blk gc #[vB cpu] 5,ah7 q X (abr d) k]) g
  have s:=XF o cpu d;rw [K] at s;replace s:m<=abr d/\0<m:=⟨s.1,s.2 T⟩
  refine Jb Z g ((Jp 4∘Jo (.bool false) (by rw [T];try rfl)∘Jp 1∘aI∘Jq∘aP∘Vs (.t (.f .n)) [6]) λwd2=>(Vp [3]∘nR 0 zd O0∘Vc 2 O2∘Vy 4 (v:= .slice (if k=m then X else X.map (·.add (m*1))) (abr d-m) (k-m)) (h:=by exact aaf bD (j:=m) rfl rfl rfl om)∘Vo (.slice (if k=m then X else X.map (·.add (m*1))) (abr (d.drop m)) (k-m)) (by rw [abE])∘VI 1 (.t (.f .n)) (h:=by exact λg=>YK e _)) λEX L=>λa Z g HS=>?_)
  refine s_on Z 5 rfl (bV Z g 1 rfl rfl rfl rfl rfl iU rfl rfl (MF e.at) λU g=>?_)
  refine av (g.pt 4 [0,2,3]) (λHS=>?_)
  refine s_on Z 6 rfl (eU Z g 3 λV g=>?_)
  refine dR kr ?_
  refine qe kr ?_
  exact ⟨_,(by rw [abE];omega),e.at,(d.drop m),if k=m then X else X.map (·.add (m*1)),k-m,G,M,by rw [abE];exact Q.Gs s.1 C,by rw [abE];omega,λz hz=>D z (abQ hz),by rw [abE];omega,rfl,Z.sub kr,g.pt 4 [1,2,3]⟩
 ·
  replace g:Mem W E (.blk u e.cells 73::.blk p o.cells 110::.blk gc #[vB cpu] 5::ah7 q X (abr d) k::G):=aag (es:=[.blk u e.cells 73,.blk p o.cells 110,.blk gc #[vB cpu] 5,ah7 q X (abr d) k]) g
  refine Jb Z g ((Jp 5∘aI∘Jq∘JT∘JZ) λa Z g=>?_)
  exact zC rfl Z (⟨_,rfl,G,aam [.blk u e.cells 73,.blk p o.cells 110,.blk gc #[vB cpu] 5,ah7 q X (abr d) k] g,N⟩)
def zdb (b:Bs) (cpu:Nat) (A:ajq) (n c:Nat) (w:ajg):
    Calls abt 292 #[.agg b.cells,.int .u8 (cpu:Int),.slice A n c] w λr e=>∃a gc d,r= .returned (.func (.func 310) #[] #[.pointer (some ⟨a,0,none⟩),.pointer (some ⟨gc,0,none⟩),.pointer (some ⟨d,0,none⟩)])/\Mem w e [ah7 d A n c,.blk gc #[.int .u8 (cpu:Int)] 5,.blk a b.cells 110]:=by
 refine (vC Tryz.func292 8) ?_
 exact (JP∘JE) λk f=>(uH) λl g=>(uH) λm i=>(Jp 1∘Jr∘Jy (h:=by exact Yl.makeFunc (fst:=[]) (caps:=[vP f 0,vP g 0,vP i 0]) rfl rfl rfl)∘Jp 1∘aL∘aQ∘aW) λj=>by exact ⟨_,_,_,rfl,j⟩
abbrev ahZ:=λa b c d e f g h i j k l m=>(.row (.slice a b c) b d 73 11::.blk e #[.slice a b c] 83::.blk f #[vI 0] 27::.blk g #[vI 0] 3::.blk h #[.slice none 0 0] 83::.blk i #[vI j] 3::.blk k l 110::m:List ajr)
abbrev air:=λa b c d e f g h i j k l m=>(.blk a #[.int .i64 b,.int .i64 c,.int .u8 (d:Int),.int .u8 (e:Int),.int .i64 f,.int .i64 g,.int .i64 h,.int .i64 i,.int .i64 j,.int .u64 (k:Int),.int .i64 l,.int .i64 (m:Int)] 424:ajr)
abbrev aiQ:=λa b c=>(.blk a #[vI 0] 3::.blk b #[.slice none 0 0] 83::c:List ajr)
def q1n (b:Bs) (cpu:Nat) (CU:cpu<256) (A:ajq) (c:Nat) (n:Int) (hni:aX n) (l:List Nat) (B0:Nat) (w:ajg) (hL:Laid B0 w) (hB:B0<=w.heap.size) (hr:Rd w w.heap.size 1 A (abr l) (l.map B8)) (hc:abr l<=c) (hl:∀z∈l,z<256) (hn:abr l<=100000000000) (hlim:Qc n l):
    Calls abt 250 #[.agg b.cells,.int .u8 (cpu:Int),.int .i64 n,.slice A (abr l) c] w (QU w (gZ b cpu n l)):=by
 refine Cz (vs:=[.agg b.cells,vB cpu,vI n,.slice A (abr l) c]) Tryz.func250 rfl rfl kr (σ0:=[(0,.agg b.cells),(1,vB cpu),(2,vI n),(3,.slice A (abr l) c)]) rfl ?_
 intro a Z
 have g:=Mem.start w
 refine Jb Z g ((JP∘JE) λw4 D=>(uH) λw6 E=>(JA #[.slice none 0 0]) λw8 G=>(JA #[vI 0]) λw9 H=>(JA #[vI 0]) λsD o=>(Jj∘JQ∘JP∘Jc O3∘Jp 1∘aL∘Jj) (Ji (λQW=>?_) λQW=>?_))
 ·
  refine (JT∘JP∘JW iE aN) λQX=>(JW gu aN) λCQ=>(JW aN aN) λaiy=>(aQ) λa Z g=>?_
  refine CB ?_
  exact iy rfl Z (.cell1 (i:=2) Z g rfl rfl kr rfl) (.cell1 (i:=1) Z g rfl rfl kr rfl) (.cell1 (i:=0) Z g rfl rfl kr rfl) (Na (q1m om) g.below)
 obtain ⟨m,rfl⟩:∃k:Nat,n=(k:Int):=⟨n.toNat,by omega⟩
 refine (aP∘JQ∘JP∘eF iU O4∘JI (h:=by exact λg=>M8 b _)) λzJ hbw=>(Jp 1∘bU∘Jj) (Ju (λT=>?_) λT=>?_)
 ·
  refine (JT∘JP∘JW iE aN) λaiz=>(JW gu aN) λGR=>(JW aN aN) λaiA=>(aQ) λa Z g=>?_
  refine CB ?_
  exact iy rfl Z (.cell1 (i:=2) Z g rfl rfl kr rfl) (.cell1 (i:=1) Z g rfl rfl kr rfl) (.cell1 (i:=0) Z g rfl rfl kr rfl) (Na (qvq om (by simpa using T)) g.below)
 have U:b.right=true:=by simpa using T
 refine (aP∘JQ∘JP∘Jc O3∘Jp 1∘aL∘Jj) (Je (λCX=>?_) λCX=>?_)
 ·
  refine (JT∘JP∘JW iE aN) λaiB=>(JW gu aN) λG6=>(JW aN aN) λaiC=>(aQ) λa Z g=>?_
  refine CB ?_
  exact iy rfl Z (.cell1 (i:=2) Z g rfl rfl kr rfl) (.cell1 (i:=1) Z g rfl rfl kr rfl) (.cell1 (i:=0) Z g rfl rfl kr rfl) (Na (qvr om U) g.below)
 refine (aP∘JP∘JA #[.slice none 0 0]) λvD p=>(Jq∘JC (h:=by exact λg=>g.nil 73 11)∘JG∘JP∘JA #[vI 0]) λyL s=>(JW aN aN) λCV=>(Jj∘JQ∘JP∘eF iU O7∘Jp 2∘JL (h:=by exact λg=>zdb b cpu A (abr l) c _)) ?_
 rintro g _ w25 ⟨gb,gc,gy,rfl,hm⟩
 refine ⟨_,rfl,_,g.join hm,?_⟩
 refine (eO∘Jj∘JB) λa Z g=>?_
 refine Cy Z g (λ_=>False) (λc F=>(c= .ret/\∃(K:Nat),(q6 cpu m b none l=([],0,K))/\F=(.blk o #[vI K] 27::aiQ H G [ah9 E m,.blk D b.cells 110]))\/(c=(.exit 0)/\∃(es:List Ev) (j:Nat) (I:ajq) (co:Nat),(q6 cpu m b none l=(es,j,0))/\(abr es<=co)/\F=(ah9 s j::ahZ I (abr es) co (es.flatMap fD) p o H G E m D b.cells []))) rfl kr ?_ ?_ ?_
 ·
  clear Z g;intro L J u w1 hrec g
  have hy:YX w L cpu (λbk M F=>∃(es:List Ev) (j:Nat) (I:ajq) (co:Nat),(q6 cpu m b none l=jf es j (q6 cpu (m-abr es) bk es.getLast? M))/\(abr es<m)/\(j+abr M<=abr l)/\(abr es+abr M<=abr l)/\(abr es<=co)/\F=(.obj L (.loop (u .ready none)):: .obj J (.deferred (some [])):: (ah9 s j::ahZ I (abr es) co (es.flatMap fD) p o H G E m D b.cells []))) (λF=>(∃(K:Nat),(q6 cpu m b none l=([],0,K))/\F=(.obj L (.loop (u .done (some .ret))):: .obj J (.deferred (some [])):: (.blk o #[vI K] 27::aiQ H G [ah9 E m,.blk D b.cells 110])))\/(∃(es:List Ev) (j:Nat) (I:ajq) (co:Nat),(q6 cpu m b none l=(es,j,0))/\(abr es<=co)/\F=(.obj L (.loop (u .done (some (.exit 0)))):: .obj J (.deferred (some [])):: (ah9 s j::ahZ I (abr es) co (es.flatMap fD) p o H G E m D b.cells [])))):=by
   rintro bk M F fr w3 e R K ⟨es,j,I,co,N,hem,hal,hel,hco,rfl⟩ hq g
   have aiE:abr es<=1000000000000:=by unfold Qc at hlim;omega
   have htl:=XF bk cpu M
   rw [hq] at htl
   dsimp only at htl
   obtain ⟨q,G7⟩:∃q,es.getD (abr es-1) Ev.zero=q:=⟨_,rfl⟩
   replace g:Mem w w3 (ah5 L (u .ready none)::ahY J::ah9 s j::ahZ I (abr es) co (es.flatMap fD) p o H G E m D b.cells fr):=g
   refine EO (v1:= .agg #[.int .i64 e.seq,.int .i64 e.time,.int .u8 (e.cpu:Int),.int .u8 (e.kind:Int),.int .i64 e.task,.int .i64 e.group,.int .i64 e.to,.int .i64 e.weight,.int .i64 e.ticks,.int .u64 (e.mask:Int),.int .i64 e.got,.int .i64 (R:Int)]) (v2:=vI K) hrec g de de λa Z=>?_
   refine wpIn_seq ?_
   refine qk ?_
   refine Jb Z g ((JA #[vI 0,vI 0,vB 0,vB 0,vI 0,vI 0,vI 0,vI 0,vI 0,vQ 0,vI 0,vI 0]) λwB S=>(JV zor aN) λBb=>(Jq) λa Z g=>?_)
   refine qk ?_
   refine Jb Z g ((Jp 1∘Jq) λa Z g=>?_)
   refine ⟨(air S e.seq e.time e.cpu e.kind e.task e.group e.to e.weight e.ticks e.mask e.got R::ahY J::ah9 s j::ahZ I (abr es) co (es.flatMap fD) p o H G E m D b.cells fr),g.pt (fs':=(ah5 L (u .ready none)::air S e.seq e.time e.cpu e.kind e.task e.group e.to e.weight e.ticks e.mask e.got R::ahY J::ah9 s j::ahZ I (abr es) co (es.flatMap fD) p o H G E m D b.cells fr)) 11 [1,0,2,3,4,5,6,7,8,9,10],λw4 g=>?_⟩
   refine wpIn_block ?_
   refine wpIn_seq ?_
   refine wpIn_seq ?_
   refine qk ?_
   refine Jb Z g ((Jp 2∘aL∘Jq) (Jh (λhd29=>?_) λhd29=>?_))
   ·
    intro a Z g
    refine Cw Z rfl ?_
    refine wpIn_seq ?_
    refine qk ?_
    refine Jb Z g ((Jp 1∘JW GA aN) λG8=>(JW wo aN) λG9=>(JW vw aN) λHe=>(mW∘Jq) λa Z g=>?_)
    refine wpIn_ret ?_
    refine ⟨(ahY J::.blk o #[vI K] 27::aiQ H G (ah9 E m::.blk D b.cells 110::fr)),g.pt (fs':=(ah5 L (u .busy none)::ahY J::.blk o #[vI K] 27::aiQ H G (ah9 E m::.blk D b.cells 110::fr))) 11 [0,2,6,7,8,9,10],λw5 g=>?_⟩
    exact ⟨(ah5 L (u .done (some .ret))::ahY J::.blk o #[vI K] 27::aiQ H G (ah9 E m::.blk D b.cells 110::[])),g,.inr ⟨rfl,.inl ⟨K,zov N hem hq om,rfl⟩⟩⟩
   intro a Z g
   have he0:K=0:=by omega
   have hq0:=hq
   rw [he0] at hq0
   have hmm:=htl.2 he0
   refine Cx Z rfl ?_
   refine wpIn_skip ?_
   refine wpIn_seq ?_
   refine q5d (λaS wS=>Fr aS 62 [] [(46,.bool (decide (abr es≠0/\e.seq=q.seq))),(29,.bool false),(14,vI K),(13,vP S 0),(27,vI K),(26,.agg #[.int .i64 e.seq,.int .i64 e.time,.int .u8 (e.cpu:Int),.int .u8 (e.kind:Int),.int .i64 e.task,.int .i64 e.group,.int .i64 e.to,.int .i64 e.weight,.int .i64 e.ticks,.int .u64 (e.mask:Int),.int .i64 e.got,.int .i64 (R:Int)]),(25,.func (.func 310) #[] #[vP gb 0,vP gc 0,vP gy 0]),(12,vP s 0),(11,vP p 0),(21,.bool false),(19,.bool false),(16,.bool false),(10,vP o 0),(9,vP H 0),(8,vP G 0),(6,vP E 0),(4,vP D 0)]/\Mem w wS (ah5 L (u .busy none)::air S e.seq e.time e.cpu e.kind e.task e.group e.to e.weight e.ticks e.mask e.got R::ahY J::ah9 s j::ahZ I (abr es) co (es.flatMap fD) p o H G E m D b.cells fr)) ?_ ?_
   ·
    refine Ye g (ah5 L (u .busy none)::air S e.seq e.time e.cpu e.kind e.task e.group e.to e.weight e.ticks e.mask e.got R::ahY J::ah9 s j::ahZ I (abr es) co (es.flatMap fD) p o H G E m D b.cells fr) 11 [0,1,2,3,4,5,6,7,8,9,10] [] λg P=>?_
    refine dJ Z P 0 5 λa Z=>?_
    refine uE Z P 1 λa Z=>?_
    refine ap Z (λ_=>P) [2,3] (bf 16 [0,1,2,3]) [(34,.bool (decide ((abr es:Int)>(0:Int))))] λa Z=>?_
    rcases Z.tf 34 rfl with ⟨V,Z⟩|⟨V,Z⟩
    ·
     have hd34:=of_decide_eq_true V
     refine ap Z (λ_=>P) [4,5] (bf 16 [0,1,2,3,4,5]) [(36,vP S 0)] λa Z=>?_
     refine dJ Z P 6 1 (v:=vI e.seq) λa Z=>?_
     refine dJ Z P 7 5 λa Z=>?_
     refine dJ Z P 8 5 λa Z=>?_
     refine uE Z P 9 λa Z=>?_
     refine qH Z (λ_=>P) (i:=10) rfl rfl (d:=41) rfl de kr (λ_ _ _ h=>h) (v:=vI (IntKind.i64.wrap ((abr es:Int)-1))) (λ_=>Yl.pure kr) λa Z=>?_
     replace Z:=Z.sp 41 (vI (abr es-1:Nat)) rfl (M7 om om)
     revert g;revert a;repeat (first|clear Z|clear g)
     intro a Z g
     obtain ⟨QY,rfl⟩:=g.rat 4 (abr es-1)
     refine iN Z P 11 rfl (v:=vP QY ((abr es-1)*11)) (Yl.iM QY (abr es-1) 11 rfl rfl rfl) λa Z=>?_
     refine ap Z (λ_=>P) [12] (bt 16 [13,14,15]) [(43,vP QY ((abr es-1)*11))] λa Z=>?_
     refine iN Z P 13 rfl (v:=vI ((es.getD (abr es-1) Ev.zero).seq)) (Pd rfl rfl kr (λ_ h=>(by have:=h.qv sj (i:=4) rfl (k:=(abr es-1)) (off:=0) (x:=(es.getD (abr es-1) Ev.zero)) ((getD_at Ev.zero (k:=abr es-1) om)) rfl;simpa using this))) λa Z=>?_
     replace Z:=Z.sp 44 (vI q.seq) rfl (by rw [G7])
     refine ap Z (λ_=>P) [14,15] (bt 16 []) [(46,.bool ((e.seq:Int)==(q.seq:Int)))] λa Z=>?_
     refine qe kr ?_
     have Z:=Z.sp 46 (.bool (decide (abr es≠0/\e.seq=q.seq))) rfl (oM (by simp only [decide_eq_true_eq,beq_iff_eq];first|omega|exact iff_of_true trivial om|exact iff_of_false id om|exact iff_of_false de om))
     exact ⟨Z.sub kr,g.pt 11 [0,1,2,3,4,5,6,7,8,9,10]⟩
    have hd34:=of_decide_eq_false V
    refine ap Z (λ_=>P) [4,5,6,7,8,9,10,11,12,13,14,15] (bt 16 []) [(46,.bool false)] λa Z=>?_
    refine qe kr ?_
    have Z:=Z.sp 46 (.bool (decide (abr es≠0/\e.seq=q.seq))) rfl (oM (by simp only [decide_eq_true_eq,beq_iff_eq];first|omega|exact iff_of_true trivial om|exact iff_of_false id om|exact iff_of_false de om))
    exact ⟨Z.sub kr,g.pt 11 [0,1,2,3,4,5,6,7,8,9,10]⟩
   clear Z g;rintro a Nb ⟨Z,g⟩
   refine Jb Z g (Ju (λO=>?_) λO=>?_)
   ·
    intro a Z g
    have CY:=of_decide_eq_true O
    have W:=of_decide_eq_true O
    refine Cw Z rfl ?_
    refine wpIn_seq ?_
    refine qk ?_
    refine Jb Z g ((JW GA aN) λY1=>(JW wo aN) λY2=>(JW vw aN) λGV=>(Jq) λa Z g=>?_)
    refine wpIn_ret ?_
    refine ⟨(ahY J::.blk o #[vI 71] 27::aiQ H G (ah9 E m::.blk D b.cells 110::fr)),g.pt (fs':=(ah5 L (u .busy none)::ahY J::.blk o #[vI 71] 27::aiQ H G (ah9 E m::.blk D b.cells 110::fr))) 11 [0,2,6,7,8,9,10],λw5 g=>?_⟩
    exact ⟨(ah5 L (u .done (some .ret))::ahY J::.blk o #[vI 71] 27::aiQ H G (ah9 E m::.blk D b.cells 110::[])),g,.inr ⟨rfl,.inl ⟨71,zki N hem hq0 W.1 G7 W.2,rfl⟩⟩⟩
   intro a Z g
   have CY:=of_decide_eq_false O
   have W:abr es=0\/e.seq≠q.seq:=by have h:=of_decide_eq_false O;by_cases h0:abr es=0;exact .inl h0;exact .inr λh1=>h ⟨h0,h1⟩
   refine Cx Z rfl ?_
   refine wpIn_skip ?_
   refine wpIn_seq ?_
   refine qk ?_
   refine Jb Z g ((Jc O5∘Jf 0∘Jy (v:= .agg #[vI e.seq,vI e.time,vB e.cpu,vB e.kind,vI e.task,vI e.group,vI e.to,vI e.weight,vI e.ticks,vQ e.mask,vI e.got]) (h:=by exact Pe rfl rfl zd rfl (λ_ h=>h.sub (i:=1) rfl 0 rfl))∘JU sP #[vI e.seq,vI e.time,vB e.cpu,vB e.kind,vI e.task,vI e.group,vI e.to,vI e.weight,vI e.ticks,vQ e.mask,vI e.got]) λGX g50=>(JD (fD e) 5 (λ_ _=>rR) sP (hr:=by exact λg=>g.bE (i:=0) (n:=1) (size:=11) rfl rfl) (h1:=by exact r9 e)) λQK y C X=>(JW vw aN) λY3=>(qL∘Jq) λa Z g=>?_)
   have Q:(abr es+1)=abr (es++[e]):=by rw [abu];rfl
   rw [Q] at X
   replace g:=g.bq (i:=5) (ys:=(es++[e]).flatMap fD) rfl Q (by rw [abZ,agn])
   replace g:=g.dX (i:=6) (ds:= #[.slice y (abr (es++[e])) C]) rfl (by rw [Q];try rfl)
   refine wpIn_seq ?_
   refine qk ?_
   refine Jb Z g ((Jc O4∘Jg 11 O2∘Ja∘JW qK aN) λY4=>(oK∘Jq) λa Z g=>?_)
   refine wpIn_seq ?_
   refine qk ?_
   refine Jb Z g ((Jc O6∘Jl∘Jc O10∘Jp 1∘eO∘Jq) (Je (λQZ=>?_) λQZ=>?_))
   ·
    intro a Z g
    refine Cw Z rfl ?_
    refine wpIn_exit ?_
    refine ⟨(ahY J::ah9 s (j+R:Nat)::ahZ y (abr (es++[e])) C ((es++[e]).flatMap fD) p o H G E m D b.cells fr),g.pt (fs':=(ah5 L (u .busy none)::ahY J::ah9 s (j+R:Nat)::ahZ y (abr (es++[e])) C ((es++[e]).flatMap fD) p o H G E m D b.cells fr)) 12 [1,3,4,5,6,7,8,9,10,11],λw5 g=>?_⟩
    exact ⟨(ah5 L (u .done (some (.exit 0)))::ahY J::ah9 s (j+R:Nat)::ahZ y (abr (es++[e])) C ((es++[e]).flatMap fD) p o H G E m D b.cells []),g,.inr ⟨rfl,.inr ⟨(es++[e]),(j+R),y,C,zow (Y0 N hem hq0 G7 W) om,X,rfl⟩⟩⟩
   intro a Z g
   refine Cx Z rfl ?_
   refine wpIn_skip ?_
   refine ⟨(ahY J::ah9 s (j+R:Nat)::ahZ y (abr (es++[e])) C ((es++[e]).flatMap fD) p o H G E m D b.cells fr),g.pt (fs':=(ah5 L (u .busy none)::ahY J::ah9 s (j+R:Nat)::ahZ y (abr (es++[e])) C ((es++[e]).flatMap fD) p o H G E m D b.cells fr)) 12 [1,3,4,5,6,7,8,9,10,11],λw5 g=>?_⟩
   exact ⟨(ah5 L (u .ready none)::ahY J::ah9 s (j+R:Nat)::ahZ y (abr (es++[e])) C ((es++[e]).flatMap fD) p o H G E m D b.cells []),g,.inl ⟨by omega,rfl,⟨(es++[e]),(j+R),y,C,Y0 N hem hq0 G7 W,by omega,by rw [abE];omega,by rw [abu,abE];simp only [ae4];omega,X,rfl⟩⟩⟩
  refine (q52 w w1 gb gc gy L B0 cpu CU b A c l _ _ _ hL hB hr hc hl hn hy ⟨[],0,none,0,(q41 cpu m b none l).symm,by show 0<m;omega,by omega,by show 0+_<=_;omega,abx _,rfl⟩ (g.pk [4,3,2,0,1,5,6,7,8,9,10,11,12])).mono ?_
  rintro r w2 ⟨v,rfl,F2,uJ,(⟨K,Y,rfl⟩|⟨es,j,I,co,N,hco,rfl⟩)⟩
  ·exact ⟨v,rfl,.inr ⟨.ret,_,.inl ⟨rfl,K,Y,rfl⟩,uJ⟩⟩
  ·exact ⟨v,rfl,.inr ⟨(.exit 0),_,.inr ⟨rfl,es,j,I,co,N,hco,rfl⟩,uJ⟩⟩
 ·intro _ _ _ _ h;exact h.elim
 ·
  clear Z g;rintro _ B a w6 _ (⟨rfl,K,Y,rfl⟩|⟨rfl,es,j,I,co,N,hco,rfl⟩) Z g
  ·
   refine wp_ret ?_
   refine yH Z g (i:=0) rfl λa w7 Z g=>?_
   exact iy rfl Z (.cell1 (i:=3) Z g rfl rfl kr rfl) (.cell1 (i:=2) Z g rfl rfl kr rfl) (.cell1 (i:=1) Z g rfl rfl kr rfl) (Na ((QV U).trans Y) g.below)
  ·
   refine wp_exit (wp_seq ?_)
   refine Jb Z g ((Vs (.t (.t (.t (.t (.t (.t (.f .n))))))) [3,4]) λQ0=>(Vc 0 O3∘Vc 1 O1) λa Z g P=>?_)
   refine s_on Z 2 rfl (eU Z g 6 λY5 g=>?_)
   refine av (g.pk [0,1,2,3,4,5,7,8]) (λP=>?_)
   refine s_on Z 3 rfl (eU Z g 5 λY6 g=>?_)
   refine dR kr ?_
   refine s_on Z 4 rfl (eU Z g 4 λY7 g=>?_)
   refine dR kr ?_
   refine qe kr ?_
   refine Jb Z g ((JZ) λa Z g=>?_)
   refine yH Z g (i:=0) rfl λa w7 Z g=>?_
   exact iy rfl Z (.cell1 (i:=6) Z g rfl rfl kr rfl) (.cell1 (i:=5) Z g rfl rfl kr rfl) (.cell1 (i:=4) Z g rfl rfl kr rfl) (zda ((QV U).trans N) (g.own (i:=2) rfl) hco g.below)
def zkj (b:Bs) (cpu:Nat) (a:cpu<256) (A:ajq) (n c:Nat) (m:Int) (hm:aX m) (l:List Nat) (B:Nat) (w:ajg) (f:Laid B w) (g:B<=w.heap.size) (hr:Rd w w.heap.size 1 A n (l.map B8)) (hc:n<=c) (i:∀b∈l,b<256) (j:n<=100000000000) (d:Qc m l) {es:List Ev} {L er:Nat} (h:gZ b cpu m l=(es,L,er)):
  Calls abt 250 #[.agg b.cells,.int .u8 (cpu:Int),.int .i64 m,.slice A n c] w λr e=>(∃A c,r= .returned (.tuple #[.slice A (abr es) c,.int .i64 (L:Int),.int .i64 (er:Int)])/\e.ownsRow w.heap.size 73 11 (.slice A (abr es) c) (abr es) (es.flatMap fD)/\abr es<=c)/\Below w.heap.size w e:=by
 obtain rfl:abr l=n:=by simpa using hr.len
 have k:=q1n b cpu a A c m hm l B w f g hr hc i j d
 rwa [h] at k
structure Bk where
 kind:Nat
 cpu:Nat
 lost:Int
 next:Int
 evs:List Ev
structure Bk.Ok (b:Bk):Prop where
 kind:b.kind<256
 cpu:b.cpu<256
 lost:aX b.lost
 next:aX b.next
 evs:∀e∈b.evs,e.Ok
def Bk.zero:Bk:=⟨0,0,0,0,[]⟩
def Bk.EZ (b:Bk):Bool:=match b.evs with
 |[]=>decide (0<b.lost)
 |e::_=>decide (e.cpu=b.cpu)
def Bk.qB (b:Bk):Bool:=decide ((jo b.evs).2=0/\b.cpu<64/\0<=b.lost/\b.lost<=281474976710656/\b.next=0/\b.EZ=true)
def Bk.vE (b:Bk):Bool:=decide (1<=b.next/\b.next<=281474976710657/\b.cpu=0/\b.lost=0/\abr b.evs=0)
def Bk.fits (b:Bk):Bool:=if b.kind=1 then b.qB else if b.kind=2 then b.vE else false
def Bk.base (b:Bk):Bs:=(b.evs.headD Ev.zero).at
def Bk.body (b:Bk):List Nat:=
 if b.kind=2 then ak b.next.toNat
 else ak b.cpu++ak b.lost.toNat++ak (abr b.evs)++(if abr b.evs=0 then [] else ak b.base.seq.toNat++ak b.base.time.toNat++recs b.base b.evs)
def Bk.raw (b:Bk):List Nat:=rQ (12+abr b.body)++[113,116,1,b.kind]++b.body
def Bk.err (b:Bk):Nat:=if b.fits=false then 107 else if 4096<12+abr b.body then 3 else 0
def Bk.out (b:Bk):List Nat:=if b.err=0 then aY b.raw else []
def bC (l:List Nat):Nat×Nat:=if abr l<4 then (0,100) else if jN l<13\/4096<jN l then (0,101) else if abr l<jN l then (0,100) else (jN l,0)
def bA (most:Nat) (l:List Nat):Bool:=decide ((aD l).2.2=0/\(aD l).1<=most)
def qd (l:List Nat):List Nat:=l.drop (aD l).2.1
def aA (most:Nat) (l:List Nat):Nat:=if most<(aD l).1 then most else (aD l).1
def uK (l:List Nat):Option Bk:=
 if bA 281474976710657 l=true/\abr (qd l)=0/\Bk.fits ⟨2,0,0,aA 281474976710657 l,[]⟩=true then some ⟨2,0,0,aA 281474976710657 l,[]⟩ else none
def uL (cpu lost:Nat) (l:List Nat) (q:List Ev×Nat×Nat):Option Bk:=
 if q.2.2=0/\(q.1.headD Ev.zero).seq=aA 281474976710656 l/\(q.1.headD Ev.zero).time=aA 281474976710656 (qd l)/\bA 281474976710656 l=true/\bA 281474976710656 (qd l)=true/\abr ((qd (qd l)).drop q.2.1)=0/\Bk.fits ⟨1,cpu,lost,0,q.1⟩=true then some ⟨1,cpu,lost,0,q.1⟩ else none
def vF (l:List Nat):Bool:=bA 63 l&&bA 281474976710656 (qd l)&&bA 4096 (qd (qd l))
def zg (l:List Nat):Option Bk:=
 if vF l=true/\0<aA 4096 (qd (qd l)) then
  uL (aA 63 l) (aA 281474976710656 (qd l)) (qd (qd (qd l)))
   (gZ ⟨aA 281474976710656 (qd (qd (qd l))),aA 281474976710656 (qd (qd (qd (qd l))))⟩ (aA 63 l) (aA 4096 (qd (qd l))) (qd (qd (qd (qd (qd l))))))
 else if vF l=true/\abr (qd (qd (qd l)))=0/\Bk.fits ⟨1,aA 63 l,aA 281474976710656 (qd l),0,[]⟩=true then some ⟨1,aA 63 l,aA 281474976710656 (qd l),0,[]⟩ else none
def vG (kind:Nat) (l:List Nat):Option Bk:=if kind=2 then uK l else zg l
def gB (l:List Nat):Option Bk×Nat:=
 if q5 l=false then (none,102)
 else if ¬(l.getD 4 0=113/\l.getD 5 0=116) then (none,103)
 else if l.getD 6 0≠1 then (none,104)
 else if l.getD 7 0≠1/\l.getD 7 0≠2 then (none,105)
 else match vG (l.getD 7 0) ((l.take (abr l-4)).drop 8) with
  |none=>(none,106)
  |some b=>(some b,0)
def dK (l:List Nat):Bk×Nat×Nat:=
 if (bC l).2≠0 then (Bk.zero,0,(bC l).2)
 else match (gB (l.take (bC l).1)).1 with
  |some b=>(b,(bC l).1,0)
  |none=>(Bk.zero,0,(gB (l.take (bC l).1)).2)
def wC (a:∀x∈l,x<256):∀x∈qd l,x<256:=λx b=>a x (abQ b)
theorem oN {most:Nat} (rest:List Nat) (h:x<=most) (a:x<18446744073709551616):bA most (ak x++rest)=true/\aA most (ak x++rest)=x/\qd (ak x++rest)=rest:=by grind [bA,qd,aA,Nc]
variable {b:Bk}
def Zi (h:b.fits=true) (hk:b.kind=2):b.vE=true:=by unfold Bk.fits at h;rwa [if_neg om,if_pos hk] at h
theorem Nh (h:b.fits=true) (hk:b.kind≠2):b.kind=1/\b.qB=true:=by grind [Bk.fits]
theorem qso (b:Bs) (e:Ev):1<=abr (zn b e):=by unfold zn;simp
theorem q59 (b:Bs) (e:Ev):abr (zn b e)<=61:=by grind [Ev.vals,vg,zn,y8,AJ,Ci]
theorem Zj:∀(l:List Ev) (b:Bs),abr (recs b l)<=61*abr l:=by intro x;induction x<;>grind [q59,recs]
theorem zkk:∀(l:List Ev) (b:Bs),abr l<=abr (recs b l):=by intro x;induction x<;>grind [qso,recs]
theorem zoz (hk:b.kind≠2):abr b.evs<=abr b.body:=by grind [Bk.body,zkk]
theorem Zk {cpu:Nat}:∀(es:List Ev) (p:Option Ev) (b:Bs) (i:Nat),(∀e∈es,e.Ok)->b.right=true->(∀e∈es.head?,b.behind e=true/\e.cpu=cpu)->(∀q,p=some q->b=q.at/\q.cpu=cpu)->(iT p i es).2=0->Chain cpu p b es
 |[],_,_,_,_,_,_,_,_=>trivial
 | e :: r, p, b, i, a, j, k, l, h => by
  rw [iT] at h
  split at h
  ·rename_i f;exact absurd h f
  ·rename_i f
   split at h
   ·cases h
   ·rename_i m
    have hc:e.check=0:=by omega
    obtain ⟨g1,g⟩:=k e (by simp)
    refine ⟨⟨j,hc,a e (by simp),g1⟩,g,?_,?_⟩
    ·grind [Ev.after]
    ·refine Zk r (some e) e.at (i+1) (λx c=>a x (by simp [c])) (Ng hc) ?_ (λq d=>by injection d with d;subst d;exact ⟨rfl,g⟩) h
     intro x c
     cases r with
     |nil=>cases c
     |cons y r=>
      grind [Bs.behind,Ev.after,Ev.at,iT]
theorem zdi {l:List Ev} (h:(jo l).2=0) (a:l.head?=some e):e.check=0:=by
 cases l with
 |nil=>cases a
 |cons x r=>
  grind [iT,jo]
theorem qvu (e:Ev):e.at.behind e=true:=by grind [Bs.behind,Ev.at]
structure CZ (b:Bk) (e:Ev) (r:List Ev):Prop where
 evs:b.evs=e::r
 cpu:e.cpu=b.cpu
 base:b.base=e.at
 check:e.check=0
 right:e.at.right=true
 chain:Chain b.cpu none e.at b.evs
theorem Q7 (c:b.Ok) (h:b.qB=true) (f:abr b.evs≠0):∃e r,CZ b e r:=by
 unfold Bk.qB at h
 rw [decide_eq_true_eq] at h
 obtain ⟨g,j,k,l,m,d⟩:=h
 cases hev:b.evs with
 |nil=>rw [hev] at f;simp at f
 |cons e r=>
  have hc:e.check=0:=zdi g (by rw [hev];rfl)
  have a:e.cpu=b.cpu:=by unfold Bk.EZ at d;rw [hev] at d;simpa using d
  refine ⟨e,r,hev,a,by unfold Bk.base;rw [hev];rfl,hc,Ng hc,?_⟩
  refine Zk b.evs none e.at 0 c.evs (Ng hc) ?_ (λq i=>by cases i) g
  grind [qvu]
def q1p (a:b.Ok) (h:b.qB=true) (c:abr b.evs≠0):sO b.base b.evs=0/\vR b.base b.evs=recs b.base b.evs:=by
 obtain ⟨e,r,g⟩:=Q7 a h c
 rw [g.base]
 obtain ⟨_,d,f⟩:=Zh g.right g.chain
 exact ⟨d,f⟩
theorem zo0 (h:e.at.right=true):((e.seq.toNat:Nat):Int)=e.seq/\((e.time.toNat:Nat):Int)=e.time/\e.seq.toNat<=281474976710656/\e.time.toNat<=281474976710656:=by grind [Bs.right,Ev.at]
def zkl (h1:b.kind=1) (a:b.next=0) (l:Nat) (c:(l:Int)=b.lost):(⟨1,b.cpu,(l:Int),0,b.evs⟩:Bk)=b:=by
 cases b
 simp only at h1 a c
 subst h1;subst a;rw [c]
theorem q1q (i:b.Ok) (h:b.fits=true) (u:abr b.evs<=4096):vG b.kind b.body=some b:=by
 unfold vG
 split
 ·rename_i f
  have O:=h
  have h:=Zi h f
  unfold Bk.vE at h
  rw [decide_eq_true_eq] at h
  obtain ⟨v,w,y,z,l⟩:=h
  have A:((b.next.toNat:Nat):Int)=b.next:=by omega
  have P:(⟨2,0,0,((b.next.toNat:Nat):Int),[]⟩:Bk)=b:=by
   rw [A]
   cases b
   grind
  unfold Bk.body uK
  rw [if_pos f]
  obtain ⟨Q,S,T⟩:=oN (most:=281474976710657) (x:=b.next.toNat) [] om om
  grind
 ·rename_i f
  obtain ⟨j,m⟩:=Nh h f
  have c:=m
  unfold Bk.qB at c
  rw [decide_eq_true_eq] at c
  obtain ⟨v,w,y,z,l,U⟩:=c
  have d:((b.lost.toNat:Nat):Int)=b.lost:=by omega
  have a:=zkl j l b.lost.toNat d
  unfold Bk.body zg
  rw [if_neg f]
  simp only [aby]
  generalize k:(if abr b.evs=0 then [] else ak b.base.seq.toNat++(ak b.base.time.toNat++recs b.base b.evs))=R
  obtain ⟨B,C,D⟩:=oN (most:=63) (x:=b.cpu) (ak b.lost.toNat++(ak (abr b.evs)++R)) om om
  obtain ⟨E,F,G⟩:=oN (most:=281474976710656) (x:=b.lost.toNat) (ak (abr b.evs)++R) om om
  obtain ⟨H,I,J⟩:=oN (most:=4096) (x:=abr b.evs) R u om
  unfold vF
  rw [D,G,J,B,C,E,F,H,I]
  by_cases n:abr b.evs=0
  ·grind
  ·rw [if_neg n] at k
   obtain ⟨e,r,g⟩:=Q7 i m n
   obtain ⟨o,p,q,s⟩:=zo0 g.right
   rw [g.base] at k
   subst k
   obtain ⟨K,L,M⟩:=oN (most:=281474976710656) (x:=e.at.seq.toNat) (ak e.at.time.toNat++recs e.at b.evs) q (by have:=q;show e.seq.toNat<_;omega)
   obtain ⟨e1,e2,e3⟩:=oN (most:=281474976710656) (x:=e.at.time.toNat) (recs e.at b.evs) s (by have:=s;show e.time.toNat<_;omega)
   have N:(⟨((e.at.seq.toNat:Nat):Int),((e.at.time.toNat:Nat):Int)⟩:Bs)=e.at:=by
    show (⟨((e.seq.toNat:Nat):Int),((e.time.toNat:Nat):Int)⟩:Bs)=⟨e.seq,e.time⟩
    rw [o,p]
   have t:=q58 g.right g.chain []
   rw [abN] at t
   rw [if_pos ⟨rfl,by omega⟩]
   unfold uL
   rw [M,L,e2,e3,K,e1,N,t,if_pos]
   ·rw [a]
   ·refine ⟨rfl,?_,?_,rfl,rfl,by simp,by rw [a];exact h⟩
    ·rw [g.evs];exact o.symm
    ·rw [g.evs];exact p.symm
theorem Ni (h:x<=281474976710657):aX (x:Int):=by unfold aX;omega
def zdt (b:Bk):b.raw.drop 8=b.body:=by unfold Bk.raw;rfl
def ZI (h:(bC l).2=0):jN l=(bC l).1/\13<=(bC l).1/\(bC l).1<=4096/\(bC l).1<=abr l:=by
 unfold bC at h⊢
 split at h
 ·cases h
 ·split at h
  ·cases h
  ·split at h
   ·cases h
   ·rename_i a b c
    rw [if_neg a,if_neg b,if_neg c]
    omega
def Nw {α:Type} (f:α->List ajh) (sz:Nat) (a:∀x,abr (f x)=sz):∀(l:List α) (k:Nat),(l.flatMap f).take (k*sz)=(l.take k).flatMap f
 |[],_=>by simp
 |_::_,0=>by simp
 |x::l,k+1=>by
  rw [abO,List.take_succ_cons,abO,List.take_append,abM (by rw [a,adK];omega),a,<-Nw f sz a l k]
  congr 2
  rw [adK];omega
def tu (x:Sm):List ajh:=x.cells.toList
def Fe (x:Sm):abr (tu x)=11:=rfl
def wG:SI abt 280 11:=⟨by kernel_rfl,by kernel_rfl⟩
def Bh:EI abt 111 280 (.agg (Sm.cells ⟨0,0,0,0,0,0,0,0,0,0,0⟩)) 11 48:=⟨by kernel_rfl,by kernel_rfl,rfl,by omega⟩
structure qO (w:ajg) (es:List Ev) (r:ajk) (w':ajg):Prop where
 ret:∃v,r= .returned v/\w'.ownsRow w.heap.size 73 11 v (abr es) (es.flatMap fD)
 below:Below w.heap.size w w'
def zo5 (n:Nat) (l:List Sm) (h:abr l=n):abT .i64 (if ((200:Int)<(n:Int)) then 200 else (n:Int))= .int .i64 ((abr (l.take 200):Nat):Int):=by
 congr 1
 rw [abA]
 split<;>omega
def ZY {a b d:Nat} (h:w.heap[g]?=some (.cells #[.int .i64 (a:Int),.int .i64 (b:Int),.int .i64 (c:Int),.int .i64 (d:Int)] t (0,0))) {k r:Nat} (hk:k<4) (hr:(if k=0 then a else if k=1 then b else if k=2 then c else d)=r):w.cell? ⟨g,k*1,none⟩=some (.int .i64 (r:Int)):=by
 subst hr
 unfold aep
 rw [h]
 obtain rfl|rfl|rfl|rfl:k=0\/k=1\/k=2\/k=3:=by omega
 all_goals rfl
def q1y (k:Nat):0<tq k/\tq k<=4294967296:=by unfold tq;split<;>(try split)<;>(try split)<;>omega
def q6u (k:Nat):0<stepT k/\stepT k<=4294967296:=by unfold stepT;split<;>(try split)<;>(try split)<;>omega
def go_step {cpu:Nat} {a:Bs} {L:List Sm} {x y:Sm} {z:Ev} (b:L[k]?=some x) (hy:({x with cpu:=cpu}:Sm)=y) (hz:y.ev.moved (a.step x).seq (a.step x).time=z):wF cpu a (L.drop k)=z::wF cpu (a.step x) (L.drop (k+1)):=by
 obtain ⟨c,d⟩:=List.getElem?_eq_some_iff.1 b
 rw [acv c,d,wF,hy,hz]
def q1z (cpu:Nat) (D:cpu<256) (b:Bs) (hb:b.Ok) (A:ajq) (c:Nat) (l:List Sm) (hl:∀x∈l,x.Ok) (w:ajg) (hr:Rd w w.heap.size 11 A (abr l) (l.flatMap tu)) (hc:abr l<=c) (hn:abr l<=9223372036854775807):
    Calls abt 104 #[.int .u8 (cpu:Int),.agg b.cells,.slice A (abr l) c] w (qO w (mg cpu b l)):=by
 refine (vC Tryz.func104 74) ?_
 refine (JP∘JE) λw4 g4=>(Jp 1∘Jq) ?_
 obtain ⟨_,hb1,hb2,hb3,hb4⟩:=RH b
 obtain ⟨L,r⟩:∃L,l.take 200=L:=⟨_,rfl⟩
 have O:abr L<=abr l/\abr L<=200:=by rw [<-r,abA];omega
 have P:∀x∈L,x.Ok:=λx E=>hl x (List.mem_of_mem_take (by rw [r];exact E))
 have F:Rd w w.heap.size 11 A (abr L) (L.flatMap tu):=by have h:=hr.upto (k:=abr L) O.1;rwa [Nw tu 11 Fe,show l.take (abr L)=L by rw [<-r,abA];rcases Nat.le_total 200 (abr l) with h|h;rw [Nat.min_eq_left h];rw [Nat.min_eq_right h,abM (abx _),abM h]] at h
 refine (JG∘JP∘eF iU O0∘JL (h:=by exact λe=>q6r b hb _)) ?_
 rintro e _ wB ⟨rfl,B⟩
 refine ⟨_,rfl,_,e.call B,?_⟩
 refine (JA #[vI 0,vI 0]) λw7 g7=>(JV iU aN (h1:=by exact MF b.based)) λRI=>(bU∘Jr∘Jg 0 O0∘Jp 1∘Jo (vI (b.based.seq-1)) (by exact nN ⟨by omega,by omega⟩)∘Jf 0) λa Z e=>?_
 refine fo Z 4 rfl rfl ?_
 refine rP Z e (i:=0) rfl rfl rfl rfl kr rfl rfl (by simp [Bs.cells]) λakq e=>?_
 refine Jb Z e ((oK∘bg 1∘Jq∘JC (h:=by exact λe=>e.nil 73 11)∘JG∘bM 2∘Jl∘Jy (v:=vI (if (200:Int)<(abr l:Int) then 200 else (abr l:Int))) (h:=by exact Yl.min rfl rfl rfl)∘Jo (vI (abr L)) (by rw [<-r];exact zo5 _ _ rfl)∘Jy (h:=by exact aah Bh (j:=abr L) rfl rfl rfl om)∘Jl∘bO 1∘JB) λa Z e=>?_)
 refine qg (λmS aS G=>∃(k:Nat) (pre:List Ev) (g:Bs) (Q:ajq) (co:Nat),(k<=abr L)/\(wF cpu b.start L=pre++wF cpu g (L.drop k))/\(abr pre=k)/\(abr pre<=co)/\(0<=g.seq/\g.seq<=1099511627776+4294967296*(k:Int)/\0<=g.time/\g.time<=1099511627776+4294967296*(k:Int))/\mS=abr L-k/\Fr aS 74 [] (ah8 24 k 23 (abr L) [(22,.slice A (abr L) c),(8,.slice Q (abr pre) co),(7,vP g7 0),(6,.slice none 0 0),(0,vB cpu)])/\Mem w G [.row (.slice Q (abr pre) co) (abr pre) (pre.flatMap fD) 73 11,.blk g7 g.cells 110]) (m:=abr L-0) ⟨0,[],b.start,none,0,abC _,rfl,rfl,abx _,by show 0<=b.based.seq-1/\b.based.seq-1<=_/\0<=b.based.time/\b.based.time<=_;omega,rfl,Z.sub kr,e.pk [0,1]⟩ ?_
 clear Z e;rintro mS a w_ ⟨k,pre,g,Q,co,hk,H,R,hco,ha,rfl,Z,e⟩
 refine Jb Z e ((cB 1∘JQ) (Ji (λI=>?_) λI=>?_))
 ·
  have C:k<abr L:=by omega
  obtain ⟨x,E⟩:∃x,L[k]?=some x:=⟨_,abv C⟩
  have s:=P x (abK E)
  obtain ⟨y,T⟩:∃y,({x with cpu:=cpu}:Sm)=y:=⟨_,rfl⟩
  have U:y.Ok:=by rw [<-T];exact {s with cpu:=D}
  have V:=q1y x.kind
  have W:=q6u x.kind
  have hm1:=adJ x.seq V.1
  have hm2:=adJ x.time W.1
  obtain ⟨z,hz⟩:∃z,y.ev.moved (g.step x).seq (g.step x).time=z:=⟨_,rfl⟩
  intro a Z e
  have X:=go_step (a:=g) E T hz
  have hxk:=s.kind
  have hxs:=s.seq
  have hxt:=s.time
  refine Jb Z e ((eP∘JP) ?_)
  obtain ⟨gA,oA,rfl,_⟩:=F.sat k (hk:=C)
  refine (iF k 11 (hy:=C)∘Jy (v:= .agg x.cells) (h:=by exact Pe rfl rfl wG rfl (λ_ h=>(h.old F).vX Fe (E)))∘JA #[vB 0,vB 0,vW 0,vW 0,vW 0,vW 0,vW 0,vW 0,vW 0,vW 0,vQ 0]) λsD g10=>(JV wG aN (h1:=by exact zks x)) λRJ=>(bU∘bg 1∘Jf 1) λa Z e=>?_
  refine fo Z 2 rfl rfl ?_
  refine rP Z e (i:=0) rfl rfl rfl rfl kr rfl rfl (by simp [Sm.cells]) λRL e=>?_
  refine Jb Z e ((nO∘Jr∘Jy (v:= .agg #[vB x.kind,vB cpu,vW x.seq,vW x.time,vW x.task,vW x.group,vW x.to,vW x.weight,vW x.ticks,vW x.got,vQ x.mask]) (h:=by exact Pe rfl rfl wG rfl (λ_ h=>qj (h.blk (i:=0) rfl)))∘Jo (.agg y.cells) (by rw [<-T];try rfl)∘JL (h:=by exact λe=>q6s y U _)) ?_)
  rintro e _ Fa ⟨rfl,B⟩
  refine ⟨_,rfl,_,e.call B,?_⟩
  refine (JA ai7) λvD g11=>(JV ⟨kr,kr⟩ aN (h1:=by exact r9 y.ev)) λakr=>(bU∘Jj) λa Z e=>?_
  refine wp_seq ?_
  refine Jb Z e ((Vs .n [16]) λRN=>(Vf 0 0∘Vf 2 2∘Vf 6 0∘Vc 1 O3∘Vc 3 O1∘Vw 4 .i64∘Vc 7 O1∘Vp [8]∘Vo (vB (x.kind/16:Nat)) (by exact vo .u8 x.kind (j:=4) (q:=16) rfl rfl)∘Vp [9]∘Vo (vB ((x.kind/16)%4:Nat)) (by exact zi .u8 _ 4)) λa Z e o=>?_)
  refine s_on Z 5 rfl (jG Z e kD [(0,vI 1),(1,vI 3),(2,vI 200),(3,vI 4294967296)] #[vI 1,vI 3,vI 200,vI 4294967296] ?_)
  clear Z e;intro a Di Y Z e
  refine av (e.pk [1,2,3,4]) (λo=>?_)
  refine Vb Z e o ((Vy 10 (h:=by exact Yl.iM Y (x.kind/2^4%4) 1 rfl rfl rfl)) λa Z e o=>?_)
  refine s_on Z 11 rfl ?_
  refine Yl.wp (S:=λG=>Mem w G _) (v:=vI (tq x.kind)) (Pd rfl rfl kr (λ_ h=>ZY (a:=1) (b:=3) (c:=200) (d:=4294967296) (h.blk (i:=0) rfl) om rfl)) Z e rfl de λa Z=>?_
  refine av o (λo=>?_)
  refine Vb Z e o ((Vy 12 (v:=vI (x.seq% (tq x.kind):Nat)) (h:=by exact aap (m:=x.seq) (n:=(tq x.kind)) rfl rfl rfl om)∘Vp [13]∘Vo (vI (1+(x.seq% (tq x.kind)):Nat)) (by exact q7 om om)∘Vp [14]∘Vo (vI ((g.step x).seq)) (by exact nN (x:=g.seq+((1+x.seq%tq x.kind:Nat):Int)) ⟨by omega,by omega⟩)∘Vf 15 0) λa Z e o=>?_)
  refine s_on Z 16 rfl ?_
  refine rP Z e (i:=4) rfl rfl rfl rfl kr rfl rfl (by simp [Bs.cells]) λZ0 e=>?_
  refine dR kr ?_
  refine qe kr ?_
  refine wp_seq ?_
  refine Jb Z e ((Vs .n [14]) λsH=>(Vf 0 1∘Vf 2 3∘Vf 6 0∘Vc 1 O4∘Vc 3 O2∘Vw 4 .i64∘Vc 7 O2∘Vp [8]∘Vo (vB (x.kind/64:Nat)) (by exact vo .u8 x.kind (j:=6) (q:=64) rfl rfl)) λa Z e o=>?_)
  refine s_on Z 5 rfl (jG Z e kD [(0,vI 1),(1,vI 300),(2,vI 100000),(3,vI 4294967296)] #[vI 1,vI 300,vI 100000,vI 4294967296] ?_)
  clear Z e;intro a YO g53 Z e
  refine av (e.pk [1,2,3,4,5]) (λo=>?_)
  refine Vb Z e o ((Vy 9 (h:=by exact Yl.iM g53 (x.kind/2^6) 1 rfl rfl rfl)) λa Z e o=>?_)
  refine s_on Z 10 rfl ?_
  refine Yl.wp (S:=λG=>Mem w G _) (v:=vI (stepT x.kind)) (Pd rfl rfl kr (λ_ h=>ZY (a:=1) (b:=300) (c:=100000) (d:=4294967296) (h.blk (i:=0) rfl) om rfl)) Z e rfl de λa Z=>?_
  refine av o (λo=>?_)
  refine Vb Z e o ((Vy 11 (v:=vI (x.time% (stepT x.kind):Nat)) (h:=by exact aap (m:=x.time) (n:=(stepT x.kind)) rfl rfl rfl om)∘Vp [12]∘Vo (vI ((g.step x).time)) (by exact nN (x:=g.time+((x.time%stepT x.kind:Nat):Int)) ⟨by omega,by omega⟩)∘Vf 13 1) λa Z e o=>?_)
  refine s_on Z 14 rfl ?_
  refine rP Z e (i:=5) rfl rfl rfl rfl kr rfl rfl (by simp [Bs.cells]) λN e=>?_
  refine dR kr ?_
  refine qe kr ?_
  refine wp_seq ?_
  refine Jb Z e ((Vs (.t (.t (.f .n))) [7]) λGQ=>(Vf 0 0∘Vf 2 1∘Vc 1 O4∘Vf 4 0∘Vc 3 O4) λa Z e o=>?_)
  refine s_on Z 5 rfl ?_
  refine rP Z e (i:=2) rfl rfl rfl rfl kr rfl rfl (by simp [Ev.cells]) λZ4 e=>?_
  refine av (e.pk [0,1,3,4,5]) (λo=>?_)
  refine Vb Z e o ((Vf 6 1) λa Z e o=>?_)
  refine s_on Z 7 rfl ?_
  refine rP Z e (i:=2) rfl rfl rfl rfl kr rfl rfl (by simp [Ev.cells]) λZ5 e=>?_
  refine dR kr ?_
  refine qe kr ?_
  refine Jb Z e ((JR∘Jp 1∘Jy (v:= .agg #[vI ((g.step x).seq),vI ((g.step x).time),vB y.ev.cpu,vB y.ev.kind,vI y.ev.task,vI y.ev.group,vI y.ev.to,vI y.ev.weight,vI y.ev.ticks,vQ y.ev.mask,vI y.ev.got]) (h:=by exact Pe rfl rfl ⟨kr,kr⟩ rfl (λ_ h=>qj (h.blk (i:=2) rfl)))∘Jo (.agg z.cells) (by rw [<-hz];try rfl)∘JU sP z.cells) λw70 g70=>(JD (fD z) 5 (λ_ _=>rR) sP (hr:=by exact λe=>e.bE (i:=0) (n:=1) (size:=11) rfl rfl) (h1:=by exact r9 z)) λw71 J K u=>(Jp 1∘aI∘Jq) ?_)
  have p:(abr pre+1)=abr (pre++[z]):=by rw [abu];rfl
  rw [p] at u
  refine (JC (h:=by exact λe=>e.bq (i:=5) (ys:=(pre++[z]).flatMap fD) rfl p (by rw [abZ,agn]))∘Jk 8 (.slice J (abr (pre++[z])) K) (h:=by exact iZ p)∘JG∘JR∘dx 1∘Jp 1∘aL∘Jq) λa Z e=>?_
  exact ⟨_,om,k+1,(pre++[z]),(g.step x),J,K,by omega,by rw [H,X,aby];rfl,by rw [abu,R];rfl,u,by show 0<=g.seq+((1+x.seq%tq x.kind:Nat):Int)/\g.seq+((1+x.seq%tq x.kind:Nat):Int)<=_/\0<=g.time+((x.time%stepT x.kind:Nat):Int)/\g.time+((x.time%stepT x.kind:Nat):Int)<=_;omega,rfl,Z.sub kr,e.pk [5,6]⟩
 have M:wF cpu b.start L=pre:=by rw [H,adG om];exact abN _
 exact (JF∘JX∘JG∘aM 2∘aL∘aQ∘aW) λe=>by exact ⟨⟨_,rfl,by unfold mg;rw [r,M];exact e.own (i:=0) rfl⟩,e.below⟩
def Z6 (cpu:Nat) (a:cpu<256) (b:Bs) (hb:b.Ok) (A:ajq) (n c:Nat) (l:List Sm) (d:∀x∈l,x.Ok) (w:ajg) (hr:Rd w w.heap.size 11 A n (l.flatMap tu)) (hc:n<=c) (e:n<=9223372036854775807):
  Calls abt 104 #[.int .u8 (cpu:Int),.agg b.cells,.slice A n c] w (qO w (mg cpu b l)):=by
 obtain rfl:abr l=n:=by have:=hr.len;rw [rZ tu 11 Fe] at this;omega
 exact q1z cpu a b hb A c l d w hr hc e
def iG (xs:Array ajh) (i:Nat):Int:=match xs[i]? with
 |some (.int _ n)=>n
 |_=>0
def Q5 (P : aji) (f : Field) (i : Nat) : Bool := f.name != "_" && (f.offset == i && (gP P f.type && match P.underlying f.type with
 |some (.int _)=>true
 |_=>false))
def Y8 {P:aji} (d:Nat) (xs ys:Array ajh):∀(c:List Field) (i:Nat) (w:ajg),(∀j,j<abr c->∃f k a b,c[j]?=some f/\Q5 P f (i+j)=true/\xs[i+j]?=some (.int k a)/\ys[i+j]?=some (.int k b))->
  (Op.eqFields (d+1) xs ys c).run P w= .ok ((acw (abr c)).all λj=>iG xs (i+j)==iG ys (i+j)) w
 |[],i,w,_=>rfl
 | f :: c, i, w, h => by
  obtain ⟨B,k,a,b,n,p,g,l⟩:=h 0 (by simp)
  simp only [agf,Option.some.injEq] at n
  subst n
  simp only [Q5,abH,bne_iff_ne,beq_iff_eq,acN] at p
  obtain ⟨u,v,x,t⟩:=p
  rw [acN] at g l
  have y:=Y8 d xs ys c (i+1) w (λj z=>by
   obtain ⟨f,k,a,b,n,p,g,l⟩:=h (j+1) (by simpa using z)
   refine ⟨f,k,a,b,by simpa using n,?_,?_,?_⟩
   ·rw [show i+1+j=i+(j+1) by omega];exact p
   ·rw [show i+1+j=i+(j+1) by omega];exact g
   ·rw [show i+1+j=i+(j+1) by omega];exact l)
  have q:∃m,P.underlying f.type=some (.int m):=by
   split at t
   ·rename_i m A;exact ⟨m,A⟩
   ·cases t
  obtain ⟨m,q⟩:=q
  have r:iG xs i=a:=by simp [iG,g]
  have s:iG ys i=b:=by simp [iG,l]
  have e:(acw (abr (f::c))).all (λj=>iG xs (i+j)==iG ys (i+j))=((a==b)&& (acw (abr c)).all λj=>iG xs (i+1+j)==iG ys (i+1+j)):=by
   rw [abS,List.range_succ_eq_map,List.all_cons,acN,r,s,List.all_map]
   congr 2
   funext j
   simp only [Function.comp_apply,Nat.succ_eq_add_one]
   rw [show i+(j+1)=i+1+j by omega]
  rw [e]
  unfold Op.eqFields
  rw [if_pos u]
  simp only [abJ,part,Gn x,abD,Bool.false_eq_true,if_false,v,g,l,abR,run_equalIn_int w d f.type k m a b q]
  cases hab:(a==b)
  ·simp
  ·simp [y]
def Hf (P:aji) (t:ajj):Bool:= !P.stoodInHeld t&& (!P.eqGuardType P.depth t&& ((P.fieldsOf t).size==11&& ((acw 11).all λi=>match (P.fieldsOf t).toList[i]? with
 |some f=>Q5 P f i
 |none=>false)))
def qvs (h:(P.fieldsOf t).size=11):P.underlying t=some (.struct (P.fieldsOf t)):=by
 unfold Program.fieldsOf at h⊢
 split at h
 ·rename_i b a;rw [a]
 ·cases h
def q53 (e:Ev):∀i,i<11->∃k,e.cells[i]?=some (.int k (iG e.cells i))/\∀a:Ev,a.cells[i]?=some (.int k (iG a.cells i)):=by
 intro i hi
 have h:i=0\/i=1\/i=2\/i=3\/i=4\/i=5\/i=6\/i=7\/i=8\/i=9\/i=10:=by omega
 rcases h with rfl|rfl|rfl|rfl|rfl|rfl|rfl|rfl|rfl|rfl|rfl<;>exact ⟨_,rfl,λ_=>rfl⟩
instance Y9:DecidableEq Ev:=λ⟨c,d,e,f,g,h,i,j,k,l,a⟩ ⟨m,n,p,q,r,s,t,u,v,w,b⟩=>
 decidable_of_iff (c=m/\d=n/\e=p/\f=q/\g=r/\h=s/\i=t/\j=u/\k=v/\l=w/\a=b) (by rw [Ev.mk.injEq])
def zox (x y:Ev):((acw 11).all λj=>iG x.cells (0+j)==iG y.cells (0+j))=decide (x=y):=by
 rw [ab3,decide_eq_true_eq]
 constructor
 ·intro h
  have g:∀j,j<11->iG x.cells j=iG y.cells j:=λj q=>by
   have:=ace.1 h j (aei.2 q)
   simpa using this
  obtain ⟨r,s,i,k,t,u,v,w,z,l,a⟩:=x
  obtain ⟨A,B,m,n,C,D,E,F,G,p,b⟩:=y
  have g0:r=A:=g 0 de
  have g1:s=B:=g 1 de
  have M:(i:Int)=m:=g 2 de
  have N:(k:Int)=n:=g 3 de
  have H:t=C:=g 4 de
  have I:u=D:=g 5 de
  have J:v=E:=g 6 de
  have K:w=F:=g 7 de
  have L:z=G:=g 8 de
  have O:(l:Int)=p:=g 9 de
  have c:a=b:=g 10 de
  have d:i=m:=by omega
  have e:k=n:=by omega
  have f:l=p:=by omega
  subst g0 g1 d e H I J K L f c
  rfl
 ·rintro rfl
  simp
def zdc (ht:Hf P t=true) (x y:Ev) (w:ajg):(adl t (.agg x.cells) (.agg y.cells)).run P w= .ok (decide (x=y)) w:=by
 simp only [Hf,abH,acP,beq_iff_eq] at ht
 obtain ⟨d,_,a,e⟩:=ht
 unfold adl
 rw [show Op.maxDepth=9998+1+1 from rfl,run_equalIn_struct w 9999 t _ _ (qvs a) d,Y8 9998 _ _ _ 0 w]
 ·rw [acD,a,zox]
 ·intro j b
  rw [acD,a] at b
  have:=ace.1 e j (aei.2 b)
  split at this
  ·rename_i f g
   obtain ⟨k,h,c⟩:=q53 x j b
   rw [ab9]
   exact ⟨f,k,_,_,g,this,h,c y⟩
  ·cases this
def q1o (ht:Hf P t=true) (op:BinOp) (x y:ajl) (a b:Array ajh) (w:ajg):(eqGuard op t x y (.agg a) (.agg b)).run P w= .ok () w:=by
 simp only [Hf,abH,acP,beq_iff_eq] at ht
 obtain ⟨_,c,_⟩:=ht
 unfold eqGuard
 cases op<;>simp<;>simp [c]
section
variable {P:aji} {S:ajg->Prop} {σ:List (Nat×ajh)} {o:ajm}
def abh {u:ajj} {p q:ajl} {x y:Ev} (b:o.op= .binOp .neq t p q u) (c:look σ p=some (.agg x.cells)) (hy:look σ q=some (.agg y.cells)) (ht:Hf P t=true):Yl P S σ o (.bool (!decide (x=y))):=λa n D Z w d=>by
 unfold execOp
 have e:(binOp .neq t (.agg x.cells) (.agg y.cells)).run P w= .ok (.bool (!decide (x=y))) w:=by
  show ((do Pure.pure (.bool (!(<-adl t (.agg x.cells) (.agg y.cells)))):Sem ajh)).run P w=_
  simp [zdc ht]
 simp only [b,Z.eval c,Z.eval hy,abJ,q1o ht,abD,e,abR]
end
def Bk.cells (b:Bk) (A:ajq) (c:Nat):Array ajh:= #[.int .u8 (b.kind:Int),.int .u8 (b.cpu:Int),.int .i64 b.lost,.int .i64 b.next,.slice A (abr b.evs) c]
def uM (b:Bk) (A:ajq) (c:Nat):∀v∈(b.cells A c).toList,v.oneCell'=true:=by intro v a;simp [Bk.cells] at a;rcases a with rfl|rfl|rfl|rfl|rfl<;>rfl
def aG:SI abt 85 5:=⟨by kernel_rfl,by kernel_rfl⟩
def Hg:EI abt 402 30 (.slice none 0 0) 1 24:=⟨by kernel_rfl,by kernel_rfl,rfl,by omega⟩
def Bc:SI abt 287 2:=⟨by kernel_rfl,by kernel_rfl⟩
structure aR (B:Nat) (w:ajg):Prop where
 laid:Laid B w
 halves:∀k,k<16->w.cell? ⟨1,k,none⟩=some (.int .u32 ((uD.getD k 0:Nat):Int))
 Hl:1<B
 sF:w.cell? ⟨0,0,none⟩=some (.int .u8 113)
 sG:w.cell? ⟨0,1,none⟩=some (.int .u8 116)
 C8:0<B
def aR.y7 (h:aR B w) (hk:∀p:Addr,p.block<B->W.cell? p=w.cell? p):aR B W:=
 ⟨h.laid.y7 hk,λk a=>(hk _ h.Hl).trans (h.halves k a),h.Hl,(hk _ h.C8).trans h.sF,(hk _ h.C8).trans h.sG,h.C8⟩
theorem aR.mem (h:aR B W) (a:Mem W w fs) (b:B<=W.heap.size):aR B w:=h.y7 λ_ c=>a.below.cell om
def Zl (h:aR B W) (a:Mem W w fs) (b:B<=W.heap.size) {k:Nat} (hk:k<16):w.cell? ⟨1,k*1,none⟩=some (.int .u32 ((uD.getD k 0:Nat):Int)):=by
 rw [ac5];exact (h.mem a b).halves k hk
def zdj (h:aR B W) (b:Mem W w fs) (c:B<=W.heap.size):w.rangeAt 0 0 (#[abT .u8 113,.int .u8 116]:Array ajh).toList:=λj v a=>by
 have d:=(h.mem b c).sF
 have e:=(h.mem b c).sG
 rcases j with _|_|j
 ·simp at a;subst a;exact d
 ·simp at a;subst a;exact e
 ·simp at a
theorem Zm (h:abr b.evs≠0):b.EZ=decide ((b.evs.getD 0 Ev.zero).cpu=b.cpu):=by grind [Bk.EZ]
theorem Zn (h:abr b.evs=0):b.EZ=decide (0<b.lost):=by
 unfold Bk.EZ
 rw [List.length_eq_zero_iff] at h
 rw [h]
def q6a (b:Bk):b.base=⟨(b.evs.getD 0 Ev.zero).seq,(b.evs.getD 0 Ev.zero).time⟩:=by
 unfold Bk.base Ev.at
 cases b.evs<;>rfl
def zo1 (k:Nat):k=1\/k=2\/(k≠1/\k≠2):=by omega
def zdk (a:b.Ok) (h:b.fits=true) (hk:b.kind≠2) (c:abr b.evs≠0):0<=b.base.seq/\b.base.seq<=281474976710656/\0<=b.base.time/\b.base.time<=281474976710656:=by
 obtain ⟨e,r,g⟩:=Q7 a (Nh h hk).2 c
 have:=g.right
 rw [<-g.base] at this
 have d:1<=b.base.seq/\b.base.seq<=281474976710656/\0<=b.base.time/\b.base.time<=281474976710656:=by simpa [Bs.right] using this
 omega
theorem q6b (h:b.fits=true) (hk:b.kind≠2):b.kind=1/\0<=b.lost/\b.lost<=281474976710656/\b.cpu<64/\b.next=0:=by grind [Bk.qB,Nh]
def Zo (h:b.fits=true) (hk:b.kind=2):1<=b.next/\b.next<=281474976710657/\b.cpu=0/\b.lost=0/\abr b.evs=0:=by
 have a:=Zi h hk
 unfold Bk.vE at a
 rw [decide_eq_true_eq] at a
 exact a
section
open Go.ChangeShapes Go.WideShapes
def zdl {r:List ajh} {p:List MemPlace}
  (h:DataW.trod (λ_=>()) abt W 0 (λ_=>true) false m 38 r=some (.slice (l.map λz:Nat=> .lit (.int .i64 (z:Int))) [],p)):
  ∃A c,r=[.slice A (abr l) c]/\Rd W W.heap.size 1 A (abr l) (l.map bL):=by
 obtain ⟨a,cap,g,s,d⟩:=open_row (e:=3) kr kr h
 have b:∀i z,l[i]?=some z->W.cell? (a.add i)=some (bL z):=by
  intro i z hz
  obtain ⟨v,n,q,hc,ht⟩:=d i (.lit (.int .i64 (z:Int))) (by rw [acQ,hz];rfl)
  obtain ⟨t,e1,e2,_⟩:=DataW.trod_int (k:= .i64) kr ht
  injection e1 with e1
  injection e2 with e2
  subst e1
  simp only [DataW.lit.injEq,Lit.int.injEq,true_and] at e2
  rw [hc,<-e2]
  rfl
 refine ⟨some a,cap,by rw [g,abz],by simp,λo=>⟨a,rfl,?_,?_⟩⟩
 ·cases l with
  |nil=>simp at o
  |cons z l=>
   have:=aeE W _ (b 0 z rfl)
   simpa [Addr.add] using this
 ·intro j u f
  rw [acQ] at f
  cases hz:l[j]? with
  |none=>simp [hz] at f
  |some z=>rw [hz] at f;cases f;exact b j z hz
def qvv (h:laidMetH abt Rows.archiveOneRow.laid W):Laid W.heap.size W:=by
 rw [MakeChecks.laidMetH_plain _ _ _ kr] at h
 obtain ⟨g1, T, m, U, V, o, p, r, t⟩ := Lib.laidMet.reads h (n := "quantum/event.fields") (d := Rows.laid_quantum_event_fields) (aci ..)
 obtain ⟨X, Y, u, Z, p2, w, x, y, B⟩ := Lib.laidMet.reads h (n := "quantum/event.uses") (d := Rows.laid_quantum_event_uses) (List.mem_cons_of_mem _ (aci ..))
 have f : Tryz.prog.globalNamed "quantum/event.fields" = some 3 := by kernel_rfl
 have g : Tryz.prog.globalNamed "quantum/event.uses" = some 2 := by kernel_rfl
 obtain rfl:=Option.some.inj (f.symm.trans o)
 obtain rfl:=Option.some.inj (g.symm.trans w)
 have C:(Tryz.prog.globals[3]?).map (·.type)=some 459:=by kernel_rfl
 have D:(Tryz.prog.globals[2]?).map (·.type)=some 410:=by kernel_rfl
 obtain rfl:=Option.some.inj (C.symm.trans p)
 obtain rfl:=Option.some.inj (D.symm.trans x)
 have j:Tryz.prog.cellsOf 9=1:=by kernel_rfl
 have l:Tryz.prog.cellsOf 38=1:=by kernel_rfl
 have N:∀i v,m.toList[i]?=some v->W.cell? ⟨3,i,none⟩=some v:=λi v E=>by
  rw [agZ f r i];simpa using E
 have L:∀i v,u.toList[i]?=some v->W.cell? ⟨2,i,none⟩=some v:=λi v E=>by
  rw [agZ g y i];simpa using E
 have b:∀(F:List ajh) (i:Nat) (v:ajh),(F.drop (i*1)).take 1=[v]->F[i]?=some v:=by
  intro F i v h
  have:=congrArg (·[0]?) h
  simpa [List.getElem?_take,adn] using this
 have str:∀i,i<7->∃s:ByteArray,W.cell? ⟨3,i,none⟩=some (.string s):=by
  intro i hi
  obtain ⟨O,d,q,_,ht⟩:=ahv (n:=7) (e:=9) kr t i hi
  rw [j] at ht
  obtain ⟨s,hs,_⟩:=DataW.trod_string kr ht
  exact ⟨s,N i _ (b _ _ _ hs)⟩
 have row:∀k,k<11->∃A c,W.cell? ⟨2,k,none⟩=some (.slice A (aB k).length c)/\Rd W W.heap.size 1 A (aB k).length ((aB k).map bL):=by
  intro k P
  obtain ⟨O,d,q,G,ht⟩:=ahv (n:=11) (e:=38) kr B k P
  rw [l] at ht
  by_cases Q:k=0
  ·subst Q
   simp only [agf,Option.some.injEq] at G
   subst G
   rcases DataW.trod_slice (e:=3) kr ht with ⟨hc,_⟩|⟨a,len,cap,H,M,n,_,_,R,_⟩
   ·exact ⟨none,0,L 0 _ (b _ _ _ hc),Rd.nil⟩
   ·simp at R
  ·have I:d= .slice ((aB k).map λz:Nat=> .lit (.int .i64 (z:Int))) []:=by
    have J:k=1\/k=2\/k=3\/k=4\/k=5\/k=6\/k=7\/k=8\/k=9\/k=10:=by omega
    rcases J with rfl|rfl|rfl|rfl|rfl|rfl|rfl|rfl|rfl|rfl<;>exact (Option.some.inj G).symm
   subst I
   obtain ⟨A,c,hc,S⟩:=zdl ht
   exact ⟨A,c,L k _ (b _ _ _ hc),S⟩
 refine ⟨row,?_,str,?_⟩
 ·obtain ⟨A,c,K,_⟩:=row 0 om
  exact aeE W _ K
 ·obtain ⟨s,K⟩:=str 0 om
  exact aeE W _ K
def Zp:Tryz.prog.underlying 61=some (.int .u32):=by kernel_rfl
set_option maxRecDepth 100000 in
theorem qsq (h:laidMetH Tryz.prog Rows.archiveOneRow.laid W):aR W.heap.size W:=by
 have I:=qvv h
 rw [MakeChecks.laidMetH_plain _ _ _ kr] at h
 obtain ⟨g1, M, p, N, O, r, s, t, u⟩ := Lib.laidMet.reads h (n := "quantum/crc.halves") (d := Rows.laid_quantum_crc_halves) (List.mem_cons_of_mem _ (List.mem_cons_of_mem _ (List.mem_cons_self ..)))
 obtain ⟨P, Q, w, R, S, x, y, A, B⟩ := Lib.laidMet.reads h (n := "quantum/block.magic") (d := Rows.laid_quantum_block_magic) (List.mem_cons_of_mem _ (List.mem_cons_of_mem _ (List.mem_cons_of_mem _ (List.mem_cons_self ..))))
 have f : Tryz.prog.globalNamed "quantum/crc.halves" = some 1 := by kernel_rfl
 have g : Tryz.prog.globalNamed "quantum/block.magic" = some 0 := by kernel_rfl
 obtain rfl:=Option.some.inj (f.symm.trans r)
 obtain rfl:=Option.some.inj (g.symm.trans x)
 have C:(Tryz.prog.globals[1]?).map (·.type)=some 405:=by kernel_rfl
 have D:(Tryz.prog.globals[0]?).map (·.type)=some 287:=by kernel_rfl
 obtain rfl:=Option.some.inj (C.symm.trans s)
 obtain rfl:=Option.some.inj (D.symm.trans y)
 have j:Tryz.prog.cellsOf 61=1:=by kernel_rfl
 have l:Tryz.prog.cellsOf 5=1:=by kernel_rfl
 have J:∀i v,p.toList[i]?=some v->W.cell? ⟨1,i,none⟩=some v:=λi v E=>by
  rw [World.var?_cell f t i];simpa using E
 have K:∀i v,w.toList[i]?=some v->W.cell? ⟨0,i,none⟩=some v:=λi v E=>by
  rw [World.var?_cell g A i];simpa using E
 have m:∀(F:List ajh) (i:Nat) (v:ajh),(F.drop (i*1)).take 1=[v]->F[i]?=some v:=by
  intro F i v h
  have:=congrArg (·[0]?) h
  simpa [List.getElem?_take,List.getElem?_drop] using this
 have o:∀k,k<16->W.cell? ⟨1,k,none⟩=some (.int .u32 ((uD.getD k 0:Nat):Int)):=by
  intro k G
  obtain ⟨L,d,q,H,ht⟩:=Lib.array_elem (n:=16) (e:=61) kr u k G
  rw [j] at ht
  have a:d= .lit (.int .u32 ((uD.getD k 0:Nat):Int)):=by
   have b:k=0\/k=1\/k=2\/k=3\/k=4\/k=5\/k=6\/k=7\/k=8\/k=9\/k=10\/k=11\/k=12\/k=13\/k=14\/k=15:=by omega
   rcases b with rfl|rfl|rfl|rfl|rfl|rfl|rfl|rfl|rfl|rfl|rfl|rfl|rfl|rfl|rfl|rfl<;>exact (Option.some.inj H).symm
  subst a
  obtain ⟨z,e1,e2,_⟩:=DataW.trod_int Zp ht
  have e2:=congrArg Prod.fst e2
  simp only [DataW.lit.injEq,Lit.int.injEq,true_and] at e2
  exact J k _ (by rw [m _ _ _ e1,<-e2])
 have c:∀k,k<2->W.cell? ⟨0,k,none⟩=some (.int .u8 (([113,116].getD k 0:Nat):Int)):=by
  intro k G
  obtain ⟨L,d,q,H,ht⟩:=Lib.array_elem (n:=2) (e:=5) kr B k G
  rw [l] at ht
  have a:d= .lit (.int .u8 (([113,116].getD k 0:Nat):Int)):=by
   have b:k=0\/k=1:=by omega
   rcases b with rfl|rfl<;>exact (Option.some.inj H).symm
  subst a
  obtain ⟨z,e1,e2,_⟩:=DataW.trod_int EF ht
  have e2:=congrArg Prod.fst e2
  simp only [DataW.lit.injEq,Lit.int.injEq,true_and] at e2
  exact K k _ (by rw [m _ _ _ e1,<-e2])
 exact ⟨I,o,World.block_lt_of_cell? W _ (o 0 om),c 0 om,c 1 om,World.block_lt_of_cell? W _ (c 0 om)⟩
end
def zdm (n:Nat) (q:n<=1000000000000) (w:ajg):
    Calls abt 276 #[vN,vI n] w λr f=>(∃A c,r= .returned (.slice A 0 c)/\f.ownsRow w.heap.size 5 1 (.slice A 0 c) 0 [])/\Below w.heap.size w f:=by
 refine (iQ Tryz.func276 27) ?_
 refine (cB 1∘bM 2∘aL∘Jj) (Ji (λe=>?_) λe=>?_)
 ·
  intro a Z b
  omega
 refine (aP∘bM 2∘Jy (h:=by exact Yl.cap rfl rfl kr)∘Jp 1∘Jl∘Jv 2 [(14,vI (IntKind.i64.wrap ((n:Int)-0)))]∘Jo (vI n) (by exact q7 om om)∘Jp 1∘aI∘bg 2∘aL∘Jj) (Ji (λd=>?_) λd=>?_)
 ·
  refine (JT∘JR∘Jp 2∘Jy (h:=by exact Yl.cap rfl rfl kr)∘Jy (h:=by exact aah bD (j:=0) rfl rfl rfl om)∘Jp 1) λa Z b=>?_
  refine fo Z 5 rfl rfl ?_
  refine qps Z b (kn:= .i64) (m:=n) rfl bD kr rfl rfl om om om rfl de ?_
  clear Z b;intro a l o p Z b g
  exact Jb Z b ((Jp 1∘Jl∘Jy (h:=by exact aah bD (j:=0) rfl rfl rfl om)∘Jp 1∘aI∘Jq∘JC (h:=by exact λb=>(b.shrink (i:=0) (k:=0) rfl (abC _) (λh=>by cases h)).dw (i:=0) (ys:=[]) rfl (by simp))∘JG∘aM 2∘aL∘aQ∘aW) λb=>by exact ⟨⟨_,_,rfl,b.own (i:=0) rfl⟩,b.below⟩)
 exact (aP∘aM 2∘aL∘aQ∘aW) λb=>by exact ⟨⟨_,_,rfl,acK _ _ _ _⟩,b.below⟩
abbrev aje:Part:=⟨none,0,[]⟩
def q1r (A:ajq) (n c:Nat) (ps:List Part) (w:ajg) (hr:Rd w w.heap.size 1 A n (ps.map aaH)) (L:abr ps=n) (T:n<=1000000) (u:∀p∈ps,Rd w w.heap.size 1 p.A (abr p.l) (p.l.map B8)) (H:abr (ps.flatMap (·.l))<=1000000000000):
    Calls abt 229 #[.slice A n c] w (sU w (ps.flatMap (·.l))):=by
 refine (fE Tryz.func229 36) ?_
 refine (aM 1∘bg 1∘Jj∘bM 1∘Jl∘bO 1∘JB) λa Z b=>?_
 refine qg (λg y z=>∃(k:Nat),(k<=n)/\g=n-k/\Fr y 36 [] (ah8 11 k 10 n [(9,.slice A n c),(3,vI (abr ((ps.take k).flatMap (·.l)))),(2,vN),(0,.slice A n c)])/\Mem w z []) (m:=n-0) ⟨0,abC _,rfl,Z.sub kr,b.pk []⟩ ?_
 clear Z b;rintro g a M ⟨k,N,rfl,Z,b⟩
 have O:=Gu (l:=ps) k
 have I:=Gu (l:=ps) (k+1)
 refine Jb Z b ((cB 1∘JQ) (Ji (λj=>?_) λj=>?_))
 ·
  have J:k<n:=by omega
  refine (eP∘JP) ?_
  obtain ⟨gA,P,rfl,_⟩:=hr.sat k
  refine (iF k 1∘Jy (v:= .slice ((ps.getD k aje).A) ((ps.getD k aje).l.length) ((ps.getD k aje).c)) (h:=by exact Pd rfl rfl kr (λ_ h=>(h.old hr).Ct (k:=k) (vY (F:=aaH) (k:=k) (x:=(ps.getD k aje)) ((getD_at aje (k:=k) (by first|omega|(simp;omega)))))))∘Jp 1∘bU∘bg 2∘Jl∘Jp 1∘Jo (vI (abr ((ps.take (k+1)).flatMap (·.l)))) (by exact q7 (by rw [Gt (d:=aje) om,abu];omega) (by have:=Gu (l:=ps) (k+1);omega))∘Jp 1∘fK∘bg 2∘aL∘Jj) (Ji (λo=>?_) λo=>?_)
  ·
   intro a Z b
   omega
  refine (aP∘JR∘dx 1∘Jp 1∘aL∘Jq) λa Z b=>?_
  exact ⟨_,om,k+1,by omega,rfl,Z.sub kr,b.pk []⟩
 obtain rfl:n=k:=by omega
 refine (JF∘JX∘JG∘aM 1∘JL (h:=by exact λb=>zdm _ om _)) ?_
 rintro b _ Q ⟨⟨B,C,rfl,R⟩,D⟩
 refine ⟨_,rfl,_,b.dh D R,?_⟩
 refine (Jp 1∘bU∘Jj∘bM 1∘Jl∘bO 1∘JB) λa Z b=>?_
 refine qg (λg y z=>∃(k:Nat) (E:ajq) (t:Nat),(k<=n)/\(abr ((ps.take k).flatMap (·.l))<=t)/\g=n-k/\Fr y 36 [] (ah8 27 k 26 n [(25,.slice A n c),(6,abo E ((ps.take k).flatMap (·.l)) t),(12,.bool false),(11,vI n),(10,vI n),(9,.slice A n c),(3,vI (abr ((ps.take n).flatMap (·.l)))),(2,vN),(0,.slice A n c)])/\Mem w z [abp E ((ps.take k).flatMap (·.l)) t B8 5 1]) (m:=n-0) ⟨0,B,C,abC _,abC _,rfl,Z.sub kr,b.pk [0]⟩ ?_
 clear Z b;rintro g a M ⟨k,E,t,N,G,rfl,Z,b⟩
 refine Jb Z b ((cB 1∘JQ) (Ji (λq=>?_) λq=>?_))
 ·
  have K:k<n:=by omega
  refine (eP∘JP) ?_
  obtain ⟨gA,P,rfl,_⟩:=hr.sat k
  refine (iF k 1∘Jy (v:= .slice ((ps.getD k aje).A) ((ps.getD k aje).l.length) ((ps.getD k aje).c)) (h:=by exact Pd rfl rfl kr (λ_ h=>(h.old hr).Ct (k:=k) (vY (F:=aaH) (k:=k) (x:=(ps.getD k aje)) ((getD_at aje (k:=k) (by first|omega|(simp;omega)))))))∘Jp 1∘bU∘Jj∘JR∘Jp 2∘JD ((ps.getD k aje).l.map B8) 0 (λ_ _=>aN) bD (hr:=by exact λb=>b.old (u _ (qf _ om))) (h1:=by exact uw _) (hb:=by have:=Gu (l:=ps) (k+1);rw [Gt (d:=aje) om,abu] at this;omega) (h63:=by have:=Gu (l:=ps) (k+1);rw [Gt (d:=aje) om,abu] at this;omega)) λS r s f=>(Jp 1∘eO∘Jq) ?_
  have e:abr ((ps.take k).flatMap (·.l))+(ps.getD k aje).l.length=abr ((ps.take (k+1)).flatMap (·.l)):=by rw [Gt (d:=aje) om,abu]
  rw [e] at f
  refine (JC (h:=by exact λb=>b.bq (i:=0) (ys:=((ps.take (k+1)).flatMap (·.l)).map B8) rfl e (by rw [Gt (d:=aje) om,abW]))∘Jk 6 (.slice r (abr ((ps.take (k+1)).flatMap (·.l))) s) (h:=by exact iZ e)∘JG∘JR∘dx 1∘Jp 1∘aL∘Jq) λa Z b=>?_
  exact ⟨_,om,k+1,r,s,by omega,f,rfl,Z.sub kr,b.pk [0]⟩
 obtain rfl:n=k:=by omega
 exact (JF∘JX∘JG∘aM 2∘aL∘aQ∘aW) λb=>qsg (b.own (i:=0) rfl) G (by rw [abM om]) (by rw [abM om]) b.below
def qsr {a b:List Ev} (h:a.take k=b.take k) (c:k<abr a) (hb:k<abr b) (d:a.getD k Ev.zero=b.getD k Ev.zero):a.take (k+1)=b.take (k+1):=by
 rw [adx,adx,getD_at Ev.zero c,getD_at Ev.zero hb,h,d]
def qvw {a b:List Ev} (h:a.take k=b.take k) (c:abr a<=k) (hb:abr b<=k):a=b:=by
 rwa [abM c,abM hb] at h
def q6d (A j:ajq) (n m c o:Nat) (es gs:List Ev) (w:ajg) (hr:Rd w w.heap.size 11 A n (es.flatMap fD)) (e:Rd w w.heap.size 11 j m (gs.flatMap fD)) (l:abr es=n) (r:abr gs=m) (D:n<=1000000000000):
    Calls abt 98 #[.slice A n c,.slice j m o] w (Is w (.bool (decide (es=gs)))):=by
 refine (iQ Tryz.func98 26) ?_
 refine (cB 1∘bM 1∘Jl∘Jp 1∘Jl∘Jp 1∘fK∘Jj) (Jh (λf=>?_) λf=>?_)
 ·
  exact (JT∘bB 1∘aW) λd=>by exact ⟨by rw [decide_eq_false (λh=>by rw [h] at l;omega)],d.below⟩
 refine (aP∘bM 1∘Jl∘bO 1∘JB) λa Z d=>?_
 refine qg (λp s t=>∃(k:Nat),(k<=n)/\(es.take k=gs.take k)/\p=n-k/\Fr s 26 [] (ah8 13 k 12 n [(10,.bool false),aiH,(0,.slice A n c),(1,.slice j m o)])/\Mem w t []) (m:=n-0) ⟨0,abC _,rfl,rfl,Z.sub kr,d.pk []⟩ ?_
 clear Z d;rintro p a E ⟨k,F,heq,rfl,Z,d⟩
 refine Jb Z d ((cB 1∘JQ) (Ji (λg=>?_) λg=>?_))
 ·
  have q:k<n:=by omega
  refine (eP∘aM 2∘aL∘Jj) λa Z d=>?_
  refine wp_seq ?_
  refine Jb Z d ((Vs .n []) λu=>(Vp [0,1,4,5]) ?_)
  obtain ⟨gA,G,rfl,_⟩:=hr.sat k
  refine (oL 2 k 11∘Vy 3 (v:= .agg ((es.getD k Ev.zero).cells)) (h:=by exact Pe rfl rfl ⟨kr,kr⟩ rfl (λ_ h=>(h.old hr).vX sj ((getD_at Ev.zero (k:=k) (by first|omega|(simp;omega))))))) ?_
  obtain ⟨z,B,rfl,_⟩:=e.sat k
  refine (oL 6 k 11∘Vy 7 (v:= .agg ((gs.getD k Ev.zero).cells)) (h:=by exact Pe rfl rfl ⟨kr,kr⟩ rfl (λ_ h=>(h.old e).vX sj ((getD_at Ev.zero (k:=k) (by first|omega|(simp;omega))))))∘Vy 8 (v:= .bool (!(decide ((es.getD k Ev.zero)=(gs.getD k Ev.zero))))) (h:=by exact abh (x:=(es.getD k Ev.zero)) (y:=(gs.getD k Ev.zero)) rfl rfl rfl kr)∘Vd∘aI) (Ju (λb=>?_) λb=>?_)
  ·
   have i:=of_decide_eq_false ((acP _).mp b)
   exact (JT∘bB 1∘aW) λd=>by exact ⟨by rw [decide_eq_false (λh=>by rw [h] at b;simp at b)],d.below⟩
  have i:=of_decide_eq_true ((aem _).mp b)
  refine (aP∘JR∘dx 1∘Jp 1∘aL∘Jq) λa Z d=>?_
  exact ⟨_,om,k+1,by omega,qsr heq om om (by simpa using b),rfl,Z.sub kr,d.pk []⟩
 have C:k=n:=by omega
 exact (JF∘JX∘JG∘bB 1∘aW) λd=>by exact ⟨by rw [decide_eq_true (qvw heq om om)],d.below⟩
def q1s (c:Nat) (hc:c<4294967296) (A:ajq) (n cp:Nat) (l:List Nat) (B:Nat) (w:ajg) (g:aR B w) (i:B<=w.heap.size) (hr:Rd w w.heap.size 1 A n (l.map B8)) (r:abr l=n) (z:n<=140737488355328) (o:∀b∈l,b<256):
    Calls abt 238 #[vW c,.slice A n cp] w (Is w (vW (zc c l:Int))):=by
 refine (iQ Tryz.func238 33) ?_
 refine (cB 1∘bM 1∘Jl∘bO 1∘JB) λa Z d=>?_
 refine qg (λp s t=>∃(k:Nat),(k<=n)/\p=n-k/\Fr s 33 [] (ah8 9 k 8 n [(7,.slice A n cp),(4,vW 0),(0,vW (zc c (l.take k)))])/\Mem w t []) (m:=n-0) ⟨0,abC _,rfl,Z.sub kr,d.pk []⟩ ?_
 clear Z d;rintro p a C ⟨k,D,rfl,Z,d⟩
 have f:=Gx (l.take k) hc (wm o k)
 refine Jb Z d ((cB 1∘JQ) (Ji (λe=>?_) λe=>?_))
 ·
  refine (eP∘JP) ?_
  obtain ⟨gA,E,rfl,_⟩:=hr.sat k
  refine (iF k 1∘JH (getD_lt o (k:=k) (by first|omega|(simp;omega)))) λu=>(Jy (h:=by exact aad hr k 0 (by first|omega|(simp;omega)) rfl rfl)∘Jp 1∘bU∘bg 2∘Jw .u32∘Jp 1∘Jo (vW ((zc c (l.take k))^^^ (l.getD k 0):Nat)) (by exact MS (m:=zc c (l.take k)) (n:=(l.getD k 0)) om om)∘Jp 1∘fK∘Jq) ?_
  have x:=Gw f (show l.getD k 0<4294967296 by omega)
  refine (JG∘aM 2∘Jo (vW (((zc c (l.take k))^^^ (l.getD k 0))/16:Nat)) (by exact vo .u32 ((zc c (l.take k))^^^ (l.getD k 0)) (j:=4) (q:=16) rfl rfl)∘Jp 2∘Jo (vW (((zc c (l.take k))^^^ (l.getD k 0))%16:Nat)) (by exact Qp (n:=15) (j:=4) rfl de om)∘Jy (v:=vP 1 ((((zc c (l.take k))^^^ (l.getD k 0))%16)*1)) (h:=by exact (Yl.uy (ad:=⟨1,0,none⟩) (m:=16) (y:=((zc c (l.take k))^^^ (l.getD k 0))%16) (sz:=1) rfl rfl rfl kr om).as (by rw [acL,ab9]))∘Jy (v:=vW (uD.getD (((zc c (l.take k))^^^ (l.getD k 0))%16) 0)) (h:=by exact Pd rfl rfl kr (λ_ h=>Zl g h i (k:=(((zc c (l.take k))^^^ (l.getD k 0))%16)) om))∘Jp 1∘Jo (vW (sw (zc c (l.take k)^^^l.getD k 0))) (by have h:=MS (m:=(zc c (l.take k)^^^l.getD k 0)/16) (n:=uD.getD ((zc c (l.take k)^^^l.getD k 0)%16) 0) om (Qx _ om);exact h)∘Jp 1∘aI∘Jq) ?_
  have hz:=zop x
  refine (JG∘JR∘Jp 2∘Jo (vW ((sw (zc c (l.take k)^^^l.getD k 0))/16:Nat)) (by exact vo .u32 (sw (zc c (l.take k)^^^l.getD k 0)) (j:=4) (q:=16) rfl rfl)∘Jp 2∘Jo (vW ((sw (zc c (l.take k)^^^l.getD k 0))%16:Nat)) (by exact Qp (n:=15) (j:=4) rfl de om)∘Jy (v:=vP 1 (((sw (zc c (l.take k)^^^l.getD k 0))%16)*1)) (h:=by exact (Yl.uy (ad:=⟨1,0,none⟩) (m:=16) (y:=(sw (zc c (l.take k)^^^l.getD k 0))%16) (sz:=1) rfl rfl rfl kr om).as (by rw [acL,ab9]))∘Jy (v:=vW (uD.getD ((sw (zc c (l.take k)^^^l.getD k 0))%16) 0)) (h:=by exact Pd rfl rfl kr (λ_ h=>Zl g h i (k:=((sw (zc c (l.take k)^^^l.getD k 0))%16)) om))∘Jp 1∘Jo (vW (zc c (l.take (k+1)))) (by have h:=MS (m:=sw (zc c (l.take k)^^^l.getD k 0)/16) (n:=uD.getD (sw (zc c (l.take k)^^^l.getD k 0)%16) 0) om (Qx _ om);rw [qvg om];exact h)∘Jp 1∘aI∘Jj∘JR∘dx 1∘Jp 1∘aL∘Jq) λa Z d=>?_
  exact ⟨_,om,k+1,by omega,rfl,Z.sub kr,d.pk []⟩
 obtain rfl:n=k:=by omega
 exact (JF∘JX∘JG∘aM 2∘aL∘aQ∘aW) λd=>by exact ⟨by rw [abM om],d.below⟩
def q1t (c:Nat) (a:c<4294967296) (A:ajq) (n cp:Nat) (l:List Nat) (B:Nat) (w:ajg) (i:aR B w) (f:B<=w.heap.size) (hr:Rd w w.heap.size 1 A n (l.map B8)) (d:abr l=n) (j:n<=140737488355328) (g:∀b∈l,b<256):
    Calls abt 167 #[vW c,.slice A n cp] w (Is w (vW ((zc (c^^^4294967295) l^^^4294967295:Nat):Int))):=by
 refine (iQ Tryz.func167 10) ?_
 refine (aM 1∘Jq) ?_
 have hc:=Gw a (show 4294967295<4294967296 by decide)
 have k:=Gx l hc g
 exact (JG∘aM 1∘Jy (v:=vW (c^^^4294967295:Nat)) (h:=by exact aaR (m:=c) rfl rfl om)∘Jp 1∘JI (h:=by exact λe=>q1s _ hc _ _ _ l B _ (i.mem e f) (e.le f) (e.old hr) d j g)) λp o=>(Jy (v:=vW ((zc (c^^^4294967295) l)^^^4294967295:Nat)) (h:=by exact aaR (m:=zc (c^^^4294967295) l) rfl rfl om)∘Jp 1∘kV∘aQ) sW
def Zq (A:ajq) (n cp:Nat) (l:List Nat) (B:Nat) (w:ajg) (g:aR B w) (e:B<=w.heap.size) (hr:Rd w w.heap.size 1 A n (l.map B8)) (c:abr l=n) (i:n<=140737488355328) (f:∀b∈l,b<256):
    Calls abt 108 #[.slice A n cp] w (Is w (vW (zq l:Int))):=by
 refine (fE Tryz.func108 5) ?_
 refine (aM 1∘bg 1∘JL (h:=by exact λa=>q1t 0 de _ _ _ l B _ (g.mem a e) (a.le e) (a.old hr) c i f)) ?_
 rintro a _ j ⟨rfl,d⟩
 rw [show (zc (0^^^4294967295) l^^^4294967295:Nat)=zq l from Ym (Gx l de f)]
 refine ⟨_,rfl,_,a.call d,?_⟩
 exact (Jp 1∘bU∘aQ) sW
def zkm (b:abr l=n) (a:W.ownsRow w.heap.size 5 1 (.slice A (0+n+4) c) (0+n+4) ([]++l.map B8++(rQ (zq l)).map B8)) (hc:0+n+4<=c) (hb:Below w.heap.size w W):mI w 0 (aY l) (.returned (.tuple #[.slice A (0+n+4) c,vI 0])) W:=by
 have e:0+n+4=abr (aY l):=by rw [qI];omega
 rw [e] at a hc⊢
 refine ⟨⟨A,c,rfl,?_,hc⟩,hb⟩
 have e2:([]++l.map B8++(rQ (zq l)).map B8)=(aY l).map B8:=by simp [aY]
 rw [e2] at a
 exact a
def Q8 (A:ajq) (n cp:Nat) (l:List Nat) (B:Nat) (w:ajg) (p:aR B w) (k:B<=w.heap.size) (hr:Rd w w.heap.size 1 A n (l.map B8)) (d:abr l=n) (I:n<=16777216) (r:∀b∈l,b<256):
    Calls abt 48 #[.slice A n cp] w (mI w 0 (aY l)):=by
 refine (fE Tryz.func48 31) ?_
 refine (cB 2∘bM 1∘Jl∘Jp 1∘bU∘Jj) (Ji (λg=>?_) λg=>?_)
 ·
  intro a Z c
  omega
 refine (aP∘aM 1∘JI (h:=by exact λc=>Zq _ _ _ l B _ (p.mem c k) (c.le k) (c.old hr) (d) om (r))) λs t=>(Jp 1∘bU∘Jq) ?_
 have u:=Yn l
 refine (JG∘aM 1∘Jl∘dx 4) λa Z c=>?_
 refine fo Z 3 rfl rfl ?_
 refine zj2 Z c (m:=(n+4)) rfl bD rfl rfl om om rfl de ?_
 clear Z c;intro a v x Z c
 exact Jb Z c ((Jp 1∘JD (l.map B8) 0 (λ_ _=>aN) bD (hr:=by exact λc=>c.old hr) (h1:=by exact uw _)) λy z C o=>(Jp 1∘aI∘bg 2∘Jv 1 [(19,vB (IntKind.u8.wrap (zq l:Int)))]∘Jo (vB ((zq l)%256:Nat)) (by exact EM (zq l))∘Jp 2∘Jo (vW ((zq l)/256:Nat)) (by exact vo .u32 (zq l) (j:=8) (q:=256) rfl rfl)∘Jv 1 [(22,vB (IntKind.u8.wrap (((zq l)/256:Nat):Int)))]∘Jo (vB (((zq l)/256)%256:Nat)) (by exact EM ((zq l)/256))∘Jp 2∘Jo (vW ((zq l)/65536:Nat)) (by exact vo .u32 (zq l) (j:=16) (q:=65536) rfl rfl)∘Jv 1 [(25,vB (IntKind.u8.wrap (((zq l)/65536:Nat):Int)))]∘Jo (vB (((zq l)/65536)%256:Nat)) (by exact EM ((zq l)/65536))∘Jp 2∘Jo (vW ((zq l)/16777216:Nat)) (by exact vo .u32 (zq l) (j:=24) (q:=16777216) rfl rfl)∘Jv 1 [(28,vB (IntKind.u8.wrap (((zq l)/16777216:Nat):Int)))]∘Jo (vB (((zq l)/16777216)%256:Nat)) (by exact EM ((zq l)/16777216))∘JU bD #[vB ((zq l)%256:Nat),vB (((zq l)/256)%256:Nat),vB (((zq l)/65536)%256:Nat),vB (((zq l)/16777216)%256:Nat)]) λD E=>(JD ((rQ (zq l)).map B8) 1 (λ_ _=>gu) bD (hr:=by exact λc=>c.bE (i:=0) (n:=4) (size:=1) rfl rfl) (h1:=by exact uw _)) λF G H e=>(bO 2∘JZ∘JM (.f .n)∘bW) λc=>zkm d (c.own (i:=0) rfl) e c.below)
def q1u (b:abr l=n) (h:4<=n):(((zq (l.take (n-4)):Nat):Int)==((l.getD (n-4) 0+l.getD (n-4+1) 0*256+l.getD (n-4+2) 0*65536+l.getD (n-4+3) 0*16777216:Nat):Int))=q5 l:=by
 subst b
 have a:∀i,(l.drop (abr l-4)).getD i 0=l.getD (abr l-4+i) 0:=λi=>by rw [abw,adn,<-abw]
 unfold q5 jN
 rw [a,a,a,a,ab3,beq_iff_eq,decide_eq_true_eq]
 simp only [acN]
 constructor
 ·intro c;exact ⟨h,by omega⟩
 ·intro c;have:=c.2;omega
def qss (a:abr l=n) (h:n<4):q5 l=false:=by unfold q5;rw [decide_eq_false];omega
def kG (l:List Nat):Nat->Nat
 |0=>0
 |k+1=>kG l k*256+l.getD (3-k) 0
def Zr (l:List Nat):kG l 4=jN l:=by simp [kG,jN];omega
def Zt {l:List Nat} (a:∀b∈l,b<256) (c:4<=abr l):∀k,k<=4->kG l k<256^k
 |0,_=>by show 0<1;decide
 |k+1,h=>by
  have d:=Zt a c k om
  have e:=getD_lt a (k:=3-k) om
  rw [kG,afH]
  omega
def qvx (a:∀b∈l,b<256) (c:4<=abr l) {k:Nat} (h:k<=4):kG l k<4294967296:=by
 have d:=Zt a c k h
 have e:(256:Nat)^k<=256^4:=Nat.pow_le_pow_right de h
 omega
def Q9 (A:ajq) (n cp:Nat) (l:List Nat) (B:Nat) (w:ajg) (s:aR B w) (g:B<=w.heap.size) (hr:Rd w w.heap.size 1 A n (l.map B8)) (hc:n<=cp) (d:abr l=n) (x:n<=140737488355328) (e:∀b∈l,b<256):
    Calls abt 53 #[.slice A n cp] w (Is w (.bool (q5 l))):=by
 refine (fE Tryz.func53 43) ?_
 refine (aM 1∘bg 1∘Jl∘Jp 1∘Jo (vI ((n:Int)-4)) (by exact nN ⟨by omega,by omega⟩)∘Jp 1∘eO∘Jj∘bM 2∘aL∘Jj) (Ji (λf=>?_) λf=>?_)
 ·
  exact (JT∘bB 1∘aW) λc=>by exact ⟨by rw [qss d om],c.below⟩
 refine (Jk 3 (vI ((n-4:Nat):Int)) (h:=by congr 1;omega)∘aP) λa Z c=>?_
 refine wp_seq ?_
 refine Jb Z c ((Vs .n []) λt=>(Vp [0,1,4,5,9,10,17,18,25,26]∘Vy 2 (h:=by exact aah bD (j:=n-4) rfl rfl rfl om)) ?_)
 obtain ⟨gA,y,rfl,_⟩:=hr.sat (n-4)
 exact (oL 6 (n-4) 1∘VH (getD_lt e (k:=(n-4)) (by first|omega|(simp;omega)))) λi=>(Vy 7 (h:=by exact aad hr (n-4) 0 (by first|omega|(simp;omega)) rfl rfl)∘Vw 8 .u32∘zI 11 1∘oL 12 ((n-4)+1) 1∘VH (getD_lt e (k:=((n-4)+1)) (by first|omega|(simp;omega)))) λo=>(Vy 13 (h:=by exact aad hr ((n-4)+1) 0 (by first|omega|(simp;omega)) rfl rfl)∘Vw 14 .u32∘Vp [15]∘Vo (vW ((l.getD ((n-4)+1) 0)*256:Nat)) (by exact Cv (by rw [show (2:Int)^ (min (8:Int).toNat (agi).bits)=256 from rfl];omega) om)∘Vp [16]∘Vo (vW (l.getD (n-4) 0+l.getD (n-4+1) 0*256:Nat)) (by exact Qr (m:=l.getD (n-4) 0) (n:=l.getD (n-4+1) 0) (j:=8) (p:=256) rfl om om)∘zI 19 2∘oL 20 ((n-4)+2) 1∘VH (getD_lt e (k:=((n-4)+2)) (by first|omega|(simp;omega)))) λq=>(Vy 21 (h:=by exact aad hr ((n-4)+2) 0 (by first|omega|(simp;omega)) rfl rfl)∘Vw 22 .u32∘Vp [23]∘Vo (vW ((l.getD ((n-4)+2) 0)*65536:Nat)) (by exact Cv (by rw [show (2:Int)^ (min (16:Int).toNat (agi).bits)=65536 from rfl];omega) om)∘Vp [24]∘Vo (vW (l.getD (n-4) 0+l.getD (n-4+1) 0*256+l.getD (n-4+2) 0*65536:Nat)) (by exact Qr (m:=l.getD (n-4) 0+l.getD (n-4+1) 0*256) (n:=l.getD (n-4+2) 0) (j:=16) (p:=65536) rfl om om)∘zI 27 3∘oL 28 ((n-4)+3) 1∘VH (getD_lt e (k:=((n-4)+3)) (by first|omega|(simp;omega)))) λr=>(Vy 29 (h:=by exact aad hr ((n-4)+3) 0 (by first|omega|(simp;omega)) rfl rfl)∘Vw 30 .u32∘Vp [31]∘Vo (vW ((l.getD ((n-4)+3) 0)*16777216:Nat)) (by exact Cv (by rw [show (2:Int)^ (min (24:Int).toNat (agi).bits)=16777216 from rfl];omega) om)∘Vp [32]∘Vo (vW (l.getD (n-4) 0+l.getD (n-4+1) 0*256+l.getD (n-4+2) 0*65536+l.getD (n-4+3) 0*16777216:Nat)) (by exact Qr (m:=l.getD (n-4) 0+l.getD (n-4+1) 0*256+l.getD (n-4+2) 0*65536) (n:=l.getD (n-4+3) 0) (j:=24) (p:=16777216) rfl om om)∘VI 3 .n (h:=by exact λc=>Zq _ _ _ (l.take (n-4)) B _ (s.mem c g) (c.le g) ((c.old hr).Cu om) (by rw [abA];omega) om (wm e _))) λu v=>(Vp [33,34]∘Vd∘aI∘JZ∘aW) λc=>by exact ⟨by rw [q1u d om],c.below⟩
def Ho {e:Nat} (h:bC l=(n,e)) (hb:Below w.heap.size w W):Is w (.tuple #[vI ((bC l).1:Int),vI ((bC l).2:Int)]) (.returned (.tuple #[vI n,vI e])) W:=by rw [h];exact ⟨rfl,hb⟩
def q1v (A:ajq) (n cp:Nat) (l:List Nat) (w:ajg) (hr:Rd w w.heap.size 1 A n (l.map B8)) (r:abr l=n) (z:n<=9223372036854775807) (o:∀b∈l,b<256):
    Calls abt 181 #[.slice A n cp] w (Is w (.tuple #[vI ((bC l).1:Int),vI ((bC l).2:Int)])):=by
 refine (fE Tryz.func181 34) ?_
 refine (cB 2∘bM 1∘Jl∘Jp 1∘bU∘Jj) (Ji (λi=>?_) λi=>?_)
 ·
  exact (JT∘bB 2∘bW) λc=>Ho (by unfold bC;rw [if_pos om]) c.below
 refine (aP∘cB 1∘JQ∘cB 1∘JB) λa Z c=>?_
 refine qg (λq s t=>∃(k:Nat),(k<=4)/\q=4-k/\Fr s 34 [] (ah8 5 (3- (k:Int)) 4 (kG l k) [(8,.bool false),(3,vI 0),(2,vI 0),(0,.slice A n cp)])/\Mem w t []) (m:=4-0) ⟨0,abC _,rfl,Z.sub kr,c.pk []⟩ ?_
 clear Z c;rintro q a B ⟨k,u,rfl,Z,c⟩
 have v:=qvx o om u
 refine Jb Z c ((bM 2∘aL∘Jj) (Ji (λd=>?_) λd=>?_))
 ·
  have x:k<=3:=by omega
  refine (eP∘JR∘Jp 2∘Jo (vI ((kG l k)*256:Nat)) (by exact q7 (by rw [show (2:Int)^ (min (8:Int).toNat (IntKind.i64).bits)=256 from rfl];omega) om)∘Jp 2∘Jo (vI (3-k:Nat)) (by congr 1;omega)) ?_
  obtain ⟨gA,C,rfl,_⟩:=hr.sat (3-k)
  refine (iF (3-k) 1∘JH (getD_lt o (k:=(3-k)) (by first|omega|(simp;omega)))) λy=>(Jy (h:=by exact aad hr (3-k) 0 (by first|omega|(simp;omega)) rfl rfl)∘Jw .i64∘Jp 1∘Jo (vI (kG l (k+1))) (by have h:=zcl (m:=kG l k) (n:=l.getD (3-k) 0) (j:=8) (p:=256) rfl om om;exact h)∘Jp 1∘aI∘Jj∘JR∘Jp 2∘Jo (vI (3- ((k+1:Nat):Int))) (by rw [IntWalk.i64_in _ om];congr 1;omega)∘Jp 1∘bU∘Jq) λa Z c=>?_
  exact ⟨_,om,k+1,by omega,rfl,Z.sub kr,c.pk []⟩
 obtain rfl:k=4:=by omega
 refine (Jk 4 (vI (jN l:Int)) (h:=by rw [Zr])) ?_
 rw [Zr] at v
 refine (JF∘JX∘JG∘JQ∘JB∘aM 3) (Ji (λe=>?_) λe=>?_)
 ·
  exact (Jp 4∘aI∘Jj∘JT∘bB 2∘bW) λc=>Ho (by unfold bC;rw [if_neg om,if_pos om]) c.below
 refine (Jp 4∘aI∘Jj) (Ji (λf=>?_) λf=>?_)
 ·
  exact (JT∘bB 2∘bW) λc=>Ho (by unfold bC;rw [if_neg om,if_pos om]) c.below
 refine (JF∘aM 2∘Jl∘Jp 2∘fK∘Jj) (Ji (λg=>?_) λg=>?_)
 ·
  exact (JT∘bB 2∘bW) λc=>Ho (by unfold bC;rw [if_neg om,if_neg om,if_pos om]) c.below
 exact (aP∘bB 3∘bW) λc=>Ho (by unfold bC;rw [if_neg om,if_neg om,if_neg om]) c.below
end Go.Proofs.YtekiimhdnigmcaaGreatDoor
