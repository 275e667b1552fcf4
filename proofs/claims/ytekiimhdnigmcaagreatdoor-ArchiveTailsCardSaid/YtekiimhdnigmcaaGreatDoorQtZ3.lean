/- Parts. -/
import Derived.Laws.StructEq
import Derived.Test.YtekiimhdnigmcaaGreatDoorRows
import Derived.Test.YtekiimhdnigmcaaGreatDoorQtZ2
set_option linter.all false
set_option maxRecDepth 100000
set_option maxHeartbeats 1000000
namespace Go.Proofs.YtekiimhdnigmcaaGreatDoor
open Go.RowKit
open List renaming length→abn
open _root_.Go.Proofs.Tryz renaming prog→abo
open _root_.List renaming length_append→abp,getElem?_eq_getElem→abq,getD_eq_getElem?_getD→abt,append_assoc→abu,length_take→abv,length_map→abx,length_drop→abC,replicate→abD,mem_of_getElem?→abH,take_of_length_le→abI,flatMap_cons→abK,mem_of_mem_drop→abL,append_nil→abP,mem_cons→abS,length_cons→abT,map_append→abU,flatMap_append→abX,mem_map→ab0,all_eq_true→ab3,mem_append→ab6,drop_eq_getElem_cons→ace,eq_nil_of_length_eq_zero→ach,range→acp,mem_cons_self→acB,drop_drop→acQ,getElem?_map→ac0,getElem?_drop→ade,nil_append→adg,take_add_one→ado,map_nil→adw,drop_eq_nil_of_le→adx,length_nil→aec,mem_range→aeA,cons_append→aeD,length_singleton→aeP,getElem?_cons_zero→afI,flatMap_singleton→afO,all_append→agL
open Nat renaming le_refl→abr,zero_le→abA,lt_or_ge→ab5,zero_add→ab7,add_zero→acE,mul_one→acX,succ_mul→adD,mod_lt→adW,add_sub_cancel→aeI,add_comm→aeQ,mul_succ→afy,pow_succ→agG
open _root_.ByteArray renaming mk→aby
open Result renaming andThen_ok→abz
open Sem renaming run_bind→abF,run_pure→abN
open Bool renaming and_eq_true→abG,eq_iff_iff→abY,true_and→ab8,not_eq_true'→acF,not_eq_false'→ad7,not_eq_true→agw
open Value renaming bool→abM,int→abO
open Fence renaming wide→ab4
open _root_.Array renaming length_toList→acs
open World renaming ownsRow_nil→acA,cell?→aea,block_lt_of_cell?→aem,var?_cell→agx
open Addr renaming add_mid→acC
open Op renaming equal→adb
open IntKind renaming wrap_u64→adS,u32→afK
open Lib renaming array_elem→ag8
variable {l R:List Nat} {m i x k c n g er B:Nat} {w W w':World} {A:Option Addr} {t:TypeId} {f:Int} {fs:List Fact} {e:Ev} {P:Program}
abbrev aic:=λa b=>((43,.bool false)::(40,.bool false)::(2,.bool false)::(1,vP a 0)::b:List (Nat×Go.Value))
abbrev aiA:Array Go.Value:=#[vI 0,vI 0,vI 0,vI 0,vQ 0,.bool false,vQ 0,vW 0]
def q0r (x:aF) (V:x.av.Ok) (K:bY x) (w:World) (M:eU w x):
    Calls abo 160 #[.agg x.cells] w (Is w (.bool (nI x.av))):=by
 have hfs:=K.s;have hft:=K.t;have hfg:=K.g;have hfl:=K.l;have hfu:=K.u
 refine (eF Tryz.func160 123) ?_
 refine (JP∘JE) λw1 L=>(bM 1∘JQ∘JP∘Jf 0∘Jy (v:= .agg #[vI x.au,vQ x.aj,abk x.gA x.gs x.gc]) (h:=by exact Pe rfl rfl yJ rfl (λ_ h=>h.sub (i:=0) rfl 0 rfl))∘JI (h:=by exact λb=>Zx x V K _ (M.old b))) λuV B=>(Jp 2) (Ju (λC=>?_) λC=>?_)
 ·
  exact (Jv 27 [(40,.bool true)]∘kW∘Jj∘JT∘bF 1∘bC) λb=>cB (zl0 (by simpa using C)).symm b.below
 have hcf:fU x.av=true:=by simpa using C
 obtain ⟨hc1,hc2,hc3,hgs⟩:=mI hcf
 have hcp:1<=x.au/\x.au<=64:=⟨hc1,hc2⟩
 refine (Jg 3 O0∘Jl∘Jf 0∘Jg 0 O0∘Jp 3) (Jh (λQE=>?_) λQE=>?_)
 ·
  exact (Jv 18 [(40,.bool true)]∘aH∘Jj∘JT∘bF 1∘bC) λb=>cB (Qw om).symm b.below
 refine (Jg 4 O0∘Jl∘Jf 0∘Jg 0 O0∘Jp 3) (Jh (λhd31=>?_) λhd31=>?_)
 ·
  exact (Jv 9 [(40,.bool true)]∘aH∘Jj∘JT∘bF 1∘bC) λb=>cB (Qw om).symm b.below
 refine (Jg 6 O0∘Jl∘Jf 0∘Jg 2 O0∘Jl∘Jp 2∘aH∘Jj) (Jh (λCt=>?_) λCt=>?_)
 ·
  exact (JT∘bF 1∘bC) λb=>cB (Qw om).symm b.below
 refine (aU∘JQ∘JP∘Jg 3 O0∘JI (h:=by exact λb=>qmo x.lA x.lc x.cl _ (b.old M.l) K.l)) λQF B=>(aK∘Jj) (Ju (λD=>?_) λD=>?_)
 ·
  exact (JT∘bF 1∘bC) λb=>cB (Gv (by simpa using D)).symm b.below
 have hcl:iw (abn x.cl) (λc=>iG (x.cl.getD c 0))=true:=by simpa using D
 refine (aU∘JQ∘JP∘Jg 6 O0∘Jl∘bM 1∘JB) λa Z b=>?_
 refine qg (λR N O=>∃(g:Nat),(g<=abn x.rs)/\(fQ g (rowOk x.av))/\R=abn x.rs-g/\Fr N 123 [] (ahK 47 g 46 (abn x.rs) ((45,abk x.sA x.rs x.sc)::aic L []))/\Mem w O [.blk L x.cells 48]) (m:=abn x.rs-0) ⟨0,abA _,fQ.zero,rfl,Z.sub kr,b.pk [0]⟩ ?_
 clear Z b;rintro R a w_ ⟨g,hg,hu,rfl,Z,b⟩
 refine Jb Z b ((cO 1∘JQ) (Ji (λQG=>?_) λQG=>?_))
 ·
  have d:g<abn x.rs:=by omega
  obtain ⟨y,P⟩:∃z,x.rs.getD g Rw.zero=z:=⟨_,rfl⟩
  have qL:Rd w w.heap.size 3 y.A (abn y.l) (y.l.flatMap jk):=by rw [<-P];exact M.row d
  have hyl:abn y.l<=1000000:=by rw [<-P];exact K.r _ (qf Rw.zero d)
  have nC:∀z∈y.l,z.Ok:=by rw [<-P,<-jW d];exact V.sp _ (qf [] (by rw [lG];exact d))
  obtain ⟨wt,E⟩:∃z,(x.gs.getD g Gr.zero).weight=z:=⟨_,rfl⟩
  have hw1:=pQ hgs (show g<abn x.gs by omega)
  rw [E] at hw1
  obtain ⟨GQ,GR,hq1,_⟩:=Rd.sat M.g g
  have S:=M.g;rw [hq1] at S
  refine (eO∘aJ 1) ?_
  obtain ⟨W,X,Y,_⟩:=Rd.sat M.s g
  have T:=M.s;rw [Y] at T
  refine (Jk 45 (.slice (some ⟨W,X,none⟩) (abn x.rs) x.sc) (h:=by rw [Y];try rfl)∘iC g 1∘Jy (v:= .slice ((x.rs.getD g Rw.zero).A) ((x.rs.getD g Rw.zero).l.length) ((x.rs.getD g Rw.zero).c)) (h:=by exact aad T g Rw.zero (by first|omega|(simp;omega)) rfl rfl)∘Jo (.slice y.A (abn y.l) y.c) (by rw [P])∘bM 2∘bN 1∘Jl∘Jf 0∘Jg 0 O0∘Jp 1∘gq∘Jj) (Jh (λCu=>?_) λCu=>?_)
  ·
   exact (JT∘bF 1∘bC) λb=>cB (Zb d (zhx d (by rw [P];omega))).symm b.below
  refine (aU∘aJ 1∘Jl∘bM 1∘JB) λa Z b=>?_
  refine qg (λR N O=>∃(c:Nat),(c<=abn y.l)/\(fQ c (λc=>eu x.av g (y.l.getD c Sp.zero)))/\R=abn y.l-c/\Fr N 123 [] (ahK 60 c 59 (abn y.l) ((58,abk y.A y.l y.c)::(57,.bool false)::(4,abk y.A y.l y.c)::(3,vI g)::(45,abk (some ⟨W,X,none⟩) x.rs x.sc)::(48,.bool true)::ahK 47 g 46 (abn x.rs) (aic L [])))/\Mem w O [.blk L x.cells 48]) (m:=abn y.l-0) ⟨0,abA _,fQ.zero,rfl,Z.sub kr,b.pk [0]⟩ ?_
  clear Z b;rintro R a w_ ⟨c,hc,hu2,rfl,Z,b⟩
  refine Jb Z b ((cO 1∘JQ) (Ji (λCv=>?_) λCv=>?_))
  ·
   have F:c<abn y.l:=by omega
   obtain ⟨z,hz⟩:∃q,y.l.getD c Sp.zero=q:=⟨_,rfl⟩
   have QI:=nC _ (qf Sp.zero F)
   rw [hz] at QI
   have hzv:=QI.v;have hzr:=QI.r
   refine (eO∘JP) ?_
   obtain ⟨Cw,Cx,hq3,_⟩:=Rd.sat qL c
   have U:=qL;rw [hq3] at U
   refine (Jk 58 (.slice (some ⟨Cw,Cx,none⟩) (abn y.l) y.c) (h:=by rw [hq3];try rfl)∘iC c 3∘pG Sp.cells Ck U nX c Sp.zero (hk:=F)∘Jo (.agg z.cells) (by rw [hz])∘JA #[vQ 0,vW 0,vQ 0]) λw6 g6=>(JV nX aO (h1:=by exact Y7 z)) λGU=>(bQ∘Jj) λa Z b=>?_
   refine qz (λN O=>Fr N 123 [] ((91,.bool (!eu x.av g z))::(6,vP g6 0)::(58,abk (some ⟨Cw,Cx,none⟩) y.l y.c)::(61,.bool true)::ahK 60 c 59 (abn y.l) ((57,.bool false)::(4,abk y.A y.l y.c)::(3,vI g)::(45,abk (some ⟨W,X,none⟩) x.rs x.sc)::(48,.bool true)::ahK 47 g 46 (abn x.rs) (aic L [])))/\Mem w O [.blk g6 z.cells 200,.blk L x.cells 48]) ?_ ?_
   ·
    refine Jb Z b ((Vs .n []) λGV=>(Vf 0 0∘Vf 2 1∘Vf 4 0∘Vf 5 2∘Vp [7]∘Vc 1 O0∘Vc 3 O0∘Vc 6 O1) λa Z b e=>?_)
    replace Z:=Z.sp 70 (abk (some ⟨GQ,GR,none⟩) x.gs x.gc) rfl (by rw [hq1];try rfl)
    refine Vb Z b e ((xG 8 g 2∘Vf 9 1∘Fx 10 qK S 1 g Gr.zero∘Vo (vI wt) (by rw [E])∘VI 11 .n (h:=by exact λb=>zc z.v z.r wt om _)) λw75 B=>(VI 12 .n (h:=by exact λb=>QD z.v z.r wt om om om _)) λw76 B=>(Vp [13,14]) λa Z b e=>?_)
    rcases Z.tf 78 rfl with ⟨p,Z⟩|⟨p,Z⟩
    ·
     refine Vb Z b e ((Vq [15,16,17,18,19,20,21,22,23,24,25,26,27] [(91,.bool true)]∘Vd∘aH) λa Z b=>?_)
     have Z:=Z.sp 91 (.bool (!eu x.av g z)) rfl (congrArg abM (by rw [zl2 (by rw [E];simpa using p)];rfl))
     exact ⟨Z.sub kr,b.pk [0,1]⟩
    refine ap Z (λ_=>e) [15,16,17] (bt 28 [18,19,20,21,22,23,24,25,26,27]) [(81,.bool ((g:Int)==(0:Int)))] λa Z=>?_
    refine Jb Z b (Je (λCg=>?_) λCg=>?_)
    ·
     intro a Z b
     refine ap Z (λ_=>e) [18] (bt 28 [19,20,21,22,23,24,25,26,27]) [(82,vP g6 0)] λa Z=>?_
     refine dD Z e 19 0 (v:=vQ z.v) λa Z=>?_
     refine ap Z (λ_=>e) [20,21] (bt 28 [22,23,24,25,26,27]) [(85,.bool ((z.v:Int) !=(0:Int)))] λa Z=>?_
     refine Jb Z b (Jh (λQJ=>?_) λQJ=>?_)
     ·
      intro a Z b
      refine ap Z (λ_=>e) [22,23,24,25,26,27] (bt 28 []) [(91,.bool true)] λa Z=>?_
      refine qe kr ?_
      have Z:=Z.sp 91 (.bool (!eu x.av g z)) rfl (congrArg abM (by rw [zl3 om om];rfl))
      exact ⟨Z.sub kr,b.pk [0,1]⟩
     intro a Z b
     refine ap Z (λ_=>e) [22] (bt 28 [23,24,25,26,27]) [(86,vP g6 1)] λa Z=>?_
     refine dD Z e 23 0 (v:=vW z.r) λa Z=>?_
     refine ap Z (λ_=>e) [24,25,26,27] (bt 28 []) [(91,.bool ((z.r:Int) !=(0:Int)))] λa Z=>?_
     refine qe kr ?_
     have Z:=Z.sp 91 (.bool (!eu x.av g z)) rfl (congrArg abM (zh0 (by rw [E];simpa using p) om om))
     exact ⟨Z.sub kr,b.pk [0,1]⟩
    intro a Z b
    refine ap Z (λ_=>e) [18,19,20,21,22,23,24,25,26,27] (bt 28 []) [(91,.bool false)] λa Z=>?_
    refine qe kr ?_
    have Z:=Z.sp 91 (.bool (!eu x.av g z)) rfl (congrArg abM (by rw [zhz (by rw [E];simpa using p) om];rfl))
    exact ⟨Z.sub kr,b.pk [0,1]⟩
   clear Z b;rintro a uY ⟨Z,b⟩
   refine Jb Z b (Ju (λG=>?_) λG=>?_)
   ·
    exact (JT∘bF 1∘bC) λb=>cB (Zb d (zhy d (by rw [P];exact F) (by rw [P,hz];simpa using G))).symm b.below
   refine (aU∘JR∘dx 1∘Jp 1∘aK∘Jq) λa Z b=>?_
   replace Z:=Z.sp 58 (abk y.A y.l y.c) rfl (by rw [hq3])
   exact ⟨_,om,c+1,by omega,hu2.succ (by rw [hz];simpa using G),rfl,Z.sub kr,b.pk [1]⟩
  refine (JF∘JX∘JG∘JR∘dx 1∘Jp 1∘aK∘Jq) λa Z b=>?_
  replace Z:=Z.sp 45 (abk x.sA x.rs x.sc) rfl (by rw [Y])
  exact ⟨_,om,g+1,by omega,hu.succ (Zc d (by rw [P];omega) (by rw [P];exact λi hi=>hu2 i om)),rfl,Z.sub kr,b.pk [0]⟩
 refine (JF∘JX∘JG∘JQ∘JP∘Jg 5 O0∘Jl∘bM 1∘JB) λa Z b=>?_
 refine qg (λR N O=>∃(i:Nat),(i<=abn x.ts)/\(fQ i (jg x.av))/\R=abn x.ts-i/\Fr N 123 [] (ahK 97 i 96 (abn x.ts) ((95,abk x.tA x.ts x.tc)::(48,.bool false)::ahK 47 g 46 (abn x.rs) ((45,abk x.sA x.rs x.sc)::aic L [])))/\Mem w O [.blk L x.cells 48]) (m:=abn x.ts-0) ⟨0,abA _,fQ.zero,rfl,Z.sub kr,b.pk [0]⟩ ?_
 clear Z b;rintro R a w_ ⟨i,hi,hu3,rfl,Z,b⟩
 refine Jb Z b ((cO 1∘JQ) (Ji (λhd98=>?_) λhd98=>?_))
 ·
  have H:i<abn x.ts:=by omega
  obtain ⟨t,ht⟩:∃q,x.ts.getD i Tk.zero=q:=⟨_,rfl⟩
  have I:t.Ok:=by rw [<-ht];exact V.ts _ (qf Tk.zero H)
  have hti:=I.id
  intro a Z b
  unfold aW at hti
  refine Jb Z b ((eO∘aJ 1) ?_)
  obtain ⟨Am,Ao,Q,_⟩:=Rd.sat M.t i
  have J:=M.t;rw [Q] at J
  refine (Jk 95 (.slice (some ⟨Am,Ao,none⟩) (abn x.ts) x.tc) (h:=by rw [Q];try rfl)∘iC i 8∘pG Tk.cells ql J fE i Tk.zero (hk:=H)∘Jo (.agg t.cells) (by rw [ht])∘JA aiA) λw8 g8=>(Jp 1∘JV fE aO (h1:=by exact Gu t)) λZy=>(Jj) λa Z b=>?_
  refine qz (λN O=>Fr N 123 [] ((121,.bool (!jg x.av i))::(7,vI i)::(8,vP g8 0)::(95,abk (some ⟨Am,Ao,none⟩) x.ts x.tc)::(98,.bool true)::ahK 97 i 96 (abn x.ts) ((48,.bool false)::ahK 47 g 46 (abn x.rs) ((45,abk x.sA x.rs x.sc)::aic L [])))/\Mem w O [.blk g8 t.cells 232,.blk L x.cells 48]) ?_ ?_
  ·
   refine Jb Z b ((Vs .n []) λFM=>(Vp [0,1,2]) λa Z b e=>?_)
   rcases Z.tf 104 rfl with ⟨f,Z⟩|⟨f,Z⟩
   ·
    have hd104:=of_decide_eq_true f
    refine Vb Z b e ((Vf 3 5∘Vp [5]∘Vf 10 0∘Vc 4 O1∘Fy 6 1) λa Z b e=>?_)
    replace Z:=Z.sp 106 (abk (some ⟨Am,Ao,none⟩) x.ts x.tc) rfl (by rw [Q];try rfl)
    refine Vb Z b e ((xG 7 (i-1) 8∘Vf 8 0∘Xb 9 ql J (i-1) Tk.zero (hk:=by first|omega|(simp;omega))∘Vc 11 O0∘Vp [12,13,14]) λa Z b e=>?_)
    rcases Z.tf 116 rfl with ⟨k,Z⟩|⟨k,Z⟩
    ·
     have GX:=of_decide_eq_true k
     refine Vb Z b e ((Vp [15,16,17,18,19]∘Vd∘aH) λa Z b=>?_)
     have Z:=Z.sp 121 (.bool (!jg x.av i)) rfl (congrArg abM (by rw [zbw om (by rw [ht];omega)];rfl))
     exact ⟨Z.sub kr,b.pk [0,1]⟩
    have GX:=of_decide_eq_false k
    refine gX Z e 15 rfl (v:= .agg x.cells) (Pe rfl rfl gG rfl (λ_ h=>qj (h.blk (i:=1) rfl))) λa Z=>?_
    refine gX Z e 16 rfl (v:= .agg t.cells) (Pe rfl rfl fE rfl (λ_ h=>qj (h.blk (i:=0) rfl))) λa Z=>?_
    refine s_on Z 17 rfl (jd Z b [.agg x.cells,.agg t.cells] (.bool (dX x.av t)) rfl rfl (Zw x t I hcp K.s _) λQK B b a Z=>?_)
    refine ay (b.pk [0,1]) (λe=>?_)
    refine ap Z (λ_=>e) [18,19] (bt 20 []) [(121,.bool (!(dX x.av t)))] λa Z=>?_
    refine qe kr ?_
    have Z:=Z.sp 121 (.bool (!jg x.av i)) rfl (congrArg abM (by rw [Zd (by rw [ht];omega),ht]))
    exact ⟨Z.sub kr,b.pk [0,1]⟩
   have hd104:=of_decide_eq_false f
   refine ap Z (λ_=>e) [3,4,5,6,7,8,9,10,11,12,13,14] (bt 20 [15,16,17,18,19]) [(116,.bool false)] λa Z=>?_
   refine gX Z e 15 rfl (v:= .agg x.cells) (Pe rfl rfl gG rfl (λ_ h=>qj (h.blk (i:=1) rfl))) λa Z=>?_
   refine gX Z e 16 rfl (v:= .agg t.cells) (Pe rfl rfl fE rfl (λ_ h=>qj (h.blk (i:=0) rfl))) λa Z=>?_
   refine s_on Z 17 rfl (jd Z b [.agg x.cells,.agg t.cells] (.bool (dX x.av t)) rfl rfl (Zw x t I hcp K.s _) λQK B b a Z=>?_)
   refine ay (b.pk [0,1]) (λe=>?_)
   refine ap Z (λ_=>e) [18,19] (bt 20 []) [(121,.bool (!(dX x.av t)))] λa Z=>?_
   refine qe kr ?_
   have Z:=Z.sp 121 (.bool (!jg x.av i)) rfl (congrArg abM (by rw [Zd (by rw [ht];omega),ht]))
   exact ⟨Z.sub kr,b.pk [0,1]⟩
  clear Z b;rintro a FN ⟨Z,b⟩
  refine Jb Z b (Ju (λo=>?_) λo=>?_)
  ·
   exact (JT∘bF 1∘bC) λb=>cB (Gw H (by simpa using o)).symm b.below
  refine (aU∘JR∘dx 1∘Jp 1∘aK∘Jq) λa Z b=>?_
  replace Z:=Z.sp 95 (abk x.tA x.ts x.tc) rfl (by rw [Q])
  exact ⟨_,om,i+1,by omega,hu3.succ (by simpa using o),rfl,Z.sub kr,b.pk [1]⟩
 exact (JF∘JX∘JG∘bF 1∘bC) λb=>cB (zl1 hcf om hcl (λi hi=>hu i om) (λj hj=>hu3 j om)).symm b.below
def zl6 {l:List Tk} {id:Int} (hs:eY l) (hm:m<abn l) (h:(l.getD m Tk.zero).id<id):∀k,k<m+1->(l.getD k Tk.zero).id<id:=λk b=>by
 rcases ab5 k m with a|a
 ·have:=hs k m a hm;omega
 ·obtain rfl:k=m:=by omega
  exact h
def zh7 {l:List Tk} {id:Int} (hs:eY l) (hm:m<abn l) (h:id<=(l.getD m Tk.zero).id):∀k,m<=k->k<abn l->id<=(l.getD k Tk.zero).id:=λk c b=>by
 rcases ab5 m k with a|a
 ·have:=hs m k a b;omega
 ·obtain rfl:k=m:=by omega
  exact h
def quz {l:List Tk} {id:Int} (hi:i=abn l) (h1:∀k,k<i->(l.getD k Tk.zero).id<id) (hb:Below w.heap.size w W):Mw w l id (.returned (.tuple #[vI i,.bool false])) W:=by
 subst hi
 exact search_end h1 hb
def tK:SI abo 283 3:=⟨by kernel_rfl,by kernel_rfl⟩
def Au (p:Int) (w:World):Calls abo 271 #[vI p] w (Is w (.bool false)):=by
 refine (eF Tryz.func271 6) ?_
 exact (aJ 1∘bA 3∘Jo (.bool false) (by simp)∘Jp 1∘dY∘aP) uj
def GY (p q:Int) (w:World):Calls abo 222 #[vI p,vI q] w (Is w (vI (jP p q))):=by
 refine (jf Tryz.func222 20) ?_
 refine (aJ 1∘bA 1∘JL (h:=by exact λa=>Au _ _)) ?_
 rintro a _ f ⟨rfl,b⟩
 refine ⟨_,rfl,_,a.call b,?_⟩
 refine (Jp 1∘bQ∘bA 1∘JL (h:=by exact λa=>Au _ _)) ?_
 rintro a _ e ⟨rfl,b⟩
 refine ⟨_,rfl,_,a.call b,?_⟩
 refine (Jp 1∘bQ∘Jj∘JQ∘cO 1∘aU∘JQ∘cO 1∘aU∘bN 3∘bQ∘Jj) (Ji (λc=>?_) λc=>?_)
 ·
  exact (JT∘bF 1∘bC) λa=>by exact ⟨by rw [show jP p q= -1 from if_pos om],a.below⟩
 refine (aU∘bN 3∘bQ∘Jj) (Ji (λd=>?_) λd=>?_)
 ·
  exact (JT∘bF 1∘bC) λa=>by exact ⟨by rw [show jP p q=1 from (if_neg om).trans (if_pos om)],a.below⟩
 exact (aU∘bF 1∘bC) λa=>by exact ⟨by rw [show jP p q=0 from (if_neg om).trans (if_neg om)],a.below⟩
def Av (p:Nat) (w:World):Calls abo 305 #[vQ p] w (Is w (.bool false)):=by
 refine (eF Tryz.func305 6) ?_
 exact (aJ 1∘bA 3∘Jo (.bool false) (by simp)∘Jp 1∘dY∘aP) uj
def GZ (p q:Nat) (w:World):Calls abo 272 #[vQ p,vQ q] w (Is w (vI (jP (p:Int) (q:Int)))):=by
 refine (jf Tryz.func272 20) ?_
 refine (aJ 1∘bA 1∘JL (h:=by exact λa=>Av _ _)) ?_
 rintro a _ f ⟨rfl,b⟩
 refine ⟨_,rfl,_,a.call b,?_⟩
 refine (Jp 1∘bQ∘bA 1∘JL (h:=by exact λa=>Av _ _)) ?_
 rintro a _ e ⟨rfl,b⟩
 refine ⟨_,rfl,_,a.call b,?_⟩
 refine (Jp 1∘bQ∘Jj∘JQ∘cO 1∘aU∘JQ∘cO 1∘aU∘bN 3∘bQ∘Jj) (Ji (λc=>?_) λc=>?_)
 ·
  exact (JT∘bF 1∘bC) λa=>by exact ⟨by rw [show jP (p:Int) (q:Int)= -1 from if_pos om],a.below⟩
 refine (aU∘bN 3∘bQ∘Jj) (Ji (λd=>?_) λd=>?_)
 ·
  exact (JT∘bF 1∘bC) λa=>by exact ⟨by rw [show jP (p:Int) (q:Int)=1 from (if_neg om).trans (if_pos om)],a.below⟩
 exact (aU∘bF 1∘bC) λa=>by exact ⟨by rw [show jP (p:Int) (q:Int)=0 from (if_neg om).trans (if_neg om)],a.below⟩
def Zz (t:Tk) (id:Int) (w:World):Calls abo 221 #[.agg t.cells,vI id] w (Is w (vI (jP t.id id))):=by
 refine (jf Tryz.func221 9) ?_
 refine (JP∘JE) λc d=>(Jp 1∘Jr∘Jg 0 O0∘Jp 1∘JL (h:=by exact λb=>GY t.id id _)) ?_
 rintro b _ e ⟨rfl,a⟩
 refine ⟨_,rfl,_,b.call a,?_⟩
 exact (Jp 1∘dY∘aP) uj
def q0s (A:Option Addr) (c:Nat) (l:List Tk) (id:Int) (hs:eY l) (w:World) (hr:Rd w w.heap.size 8 A (abn l) (l.flatMap bS)) (F:abn l<=1000000):
    Calls abo 220 #[abk A l c,vI id,.func (.func 221) #[] #[]] w (Mw w l id):=by
 refine (uU Tryz.func220 49) ?_
 refine (aJ 2∘bA 1∘Jl∘Jp 1∘bQ∘bA 3∘Jj∘JQ∘JB) λa Z b=>?_
 refine qg (λt v x=>∃(i:Nat) (j:Nat),(i<=j)/\(j<=abn l)/\(∀k,k<i->(l.getD k Tk.zero).id<id)/\(∀k,j<=k->k<abn l->id<=(l.getD k Tk.zero).id)/\t=j-i/\Fr v 49 [] (ahK 10 j 9 i [(8,vI (abn l)),(7,.bool false),(6,vI 0),(0,abk A l c),(1,vI id),(2,.func (.func 221) #[] #[])])/\Mem w x []) (m:=abn l-0) ⟨0,abn l,abA _,abr _,λk h=>by omega,λk p r=>by omega,rfl,Z.sub kr,b.pk []⟩ ?_
 clear Z b;rintro t a G ⟨i,j,y,z,p,r,rfl,Z,b⟩
 refine Jb Z b ((bN 3∘bQ∘Jj) (Ji (λg=>?_) λg=>?_))
 ·
  have u:i<=((i+j)/2)/\((i+j)/2)<j:=by omega
  refine (JT∘DU∘JB∘aJ 2∘Ja∘Jw .u64∘Jp 1∘Jo (vQ ((i+j)/2:Nat)) (by exact uf .u64 (i+j) (j:=1) (q:=2) rfl rfl)∘Jw .i64∘Jp 1∘aH∘bA 3) ?_
  obtain ⟨gA,B,rfl,_⟩:=hr.sat ((i+j)/2)
  refine (iC ((i+j)/2) 8∘pG Tk.cells ql hr fE ((i+j)/2) Tk.zero∘Jp 1) λa Z b=>?_
  refine fo Z 6 rfl rfl ?_
  refine zg Z (f:=221) (vs:=[.agg ((l.getD ((i+j)/2) Tk.zero).cells),vI id]) (fst:=[]) (caps:=[]) rfl rfl rfl kr rfl de (Zz (l.getD ((i+j)/2) Tk.zero) id _) ?_
  rintro _ C ⟨rfl,e⟩
  refine ⟨_,rfl,?_⟩
  replace b:=b.call e
  clear Z;intro a Z
  refine Jb Z b ((Jp 1∘Jo (.bool (decide ((l.getD ((i+j)/2) Tk.zero).id<id))) (by exact congrArg abM Zh)∘aH∘Jj) (Ju (λd=>?_) λd=>?_))
  ·
   have n:=of_decide_eq_true d
   have s:(l.getD ((i+j)/2) Tk.zero).id<id:=by simpa using d
   refine (JT∘JR∘Jp 1∘dx 1∘Jp 1∘bQ∘Jq) λa Z b=>?_
   exact ⟨_,om,(((i+j)/2)+1),j,by omega,z,zl6 hs om s,r,rfl,Z.sub kr,b.pk []⟩
  have n:=of_decide_eq_false d
  have D:¬(l.getD ((i+j)/2) Tk.zero).id<id:=by simpa using d
  refine (JF∘JR∘Jp 2∘aK∘Jq) λa Z b=>?_
  exact ⟨_,om,i,((i+j)/2),by omega,by omega,p,zh7 hs om om,rfl,Z.sub kr,b.pk []⟩
 obtain rfl:i=j:=by omega
 refine (JF∘JX∘JG∘aJ 5) (Ji (λo=>?_) λo=>?_)
 ·
  refine (Jp 3) ?_
  obtain ⟨gA,B,rfl,_⟩:=hr.sat i
  refine (iC i 8∘pG Tk.cells ql hr fE i Tk.zero∘Jp 1) λa Z b=>?_
  refine fo Z 11 rfl rfl ?_
  refine zg Z (f:=221) (vs:=[.agg ((l.getD i Tk.zero).cells),vI id]) (fst:=[]) (caps:=[]) rfl rfl rfl kr rfl de (Zz (l.getD i Tk.zero) id _) ?_
  rintro _ E ⟨rfl,e⟩
  refine ⟨_,rfl,?_⟩
  replace b:=b.call e
  clear Z;intro a Z
  exact Jb Z b ((Jp 1∘Jo (.bool (decide ((l.getD i Tk.zero).id=id))) (by exact congrArg abM Zi)∘bM 3∘JZ∘bO) λb=>q5p hs om p r b.below)
 exact (Jv 11 [(7,.bool false),(6,vI i)]∘aP∘bO) λb=>quz om p b.below
def ZA (x:aF) (f:Nat) (id:Int) (hs:eY x.ts) (w:World) (hm:w.heap[f]?=some (.cells #[vI x.au,vQ x.aj,abk x.gA x.gs x.gc,abk x.lA x.cl x.lc,abk x.uA x.cu x.uc,abk x.tA x.ts x.tc,abk x.sA x.rs x.sc,.bool true] 273 (0,0))) (ht:Rd w w.heap.size 8 x.tA (abn x.ts) (x.ts.flatMap bS)) (g:abn x.ts<=1000000):
    Calls abo 161 #[vP f 0,vI id] w (Is w (vI (fidx x.ts id))):=by
 refine (jf Tryz.func161 20) ?_
 refine (aJ 1∘bA 1∘Jn∘Jf 0∘Jf 5∘Jy (v:= .slice x.tA (abn x.ts) x.tc) (h:=by exact Pd rfl rfl kr (λ_ h=>h.mG hm rfl))∘Jp 1∘JL (h:=by exact λc=>q0s x.tA x.tc x.ts id hs _ (c.old ht) g)) ?_
 rintro c _ j ⟨⟨i,b,rfl,k,d⟩,e⟩
 refine ⟨_,rfl,_,c.call e,?_⟩
 refine (Jp 1∘Jx∘Jx∘bM 2∘bN 2∘bQ∘Jj) (Ju (λa=>?_) λa=>?_)
 ·
  exact (JT∘bF 1∘bC) λc=>by exact ⟨by rw [<-d,if_neg (by simpa using a)],c.below⟩
 exact (aU∘aJ 2∘aK∘aP∘bC) λc=>by exact ⟨by rw [<-d,if_pos (by simpa using a)],c.below⟩
def QL (x:aF) (a c g:Nat):Prop:=∀w:World,eU w x->w.heap[a]?=some (.cells #[vI x.au,vQ x.aj,.slice x.gA (abn x.gs) x.gc,.slice x.lA (abn x.cl) x.lc,.slice x.uA (abn x.cu) x.uc,.slice x.tA (abn x.ts) x.tc,.slice x.sA (abn x.rs) x.sc,.bool true] 273 (0,0))->Calls abo 162 #[vP a 0,vI g,vI c] w (Is w (.tuple #[.agg (aM bJ (aR x.av g c)).cells,.bool (!(aR x.av g c).isEmpty)]))
def pV {x:aF} (h:jg x.av i=true):1<=(x.ts.getD i Tk.zero).id/\(x.ts.getD i Tk.zero).id<=65535:=by
 have a:=(D8 h).2
 unfold dX at a
 rw [abG,decide_eq_true_eq] at a
 exact ⟨a.1.1,a.1.2.1⟩
def q0t {p:Nat->Prop} (h:∀i,i<k->p i) (hk:p k):∀i,i<k+1->p i:=λi hi=>by
 rcases ab5 i k with a|a
 ·exact h i a
 ·obtain rfl:i=k:=by omega
  exact hk
def qr2 (m n:Mb) (A j:Option Addr) (c p:Nat) (w:World) (hr:Rd w w.heap.size 1 A 3 (m.nums.map bD)) (d:Rd w w.heap.size 1 j 3 (n.nums.map bD)):
    Calls abo 224 #[.slice A 3 c,.slice j 3 p] w (vH w m n):=by
 refine (jf Tryz.func224 36) ?_
 refine (cO 1∘bN 1∘Jl∘bM 1∘JB) λa Z b=>?_
 refine qg (λq r s=>∃(k:Nat),(k<=3)/\(∀i,i<k->m.nums.getD i 0=n.nums.getD i 0)/\q=3-k/\Fr r 36 [] [(11,vI k),(10,vI 3),(9,.slice A 3 c),(4,vI 0),(0,.slice A 3 c),(1,.slice j 3 p)]/\Mem w s []) (m:=3-0) ⟨0,by decide,λi h=>by omega,rfl,Z.sub kr,b.pk []⟩ ?_
 clear Z b;rintro q a x ⟨k,y,l,rfl,Z,b⟩
 refine Jb Z b ((cO 1∘JQ) (Ji (λe=>?_) λe=>?_))
 ·
  have f:k<3:=by omega
  refine (eO∘aJ 1) ?_
  obtain ⟨gA,z,rfl,_⟩:=hr.sat k
  refine (iC k 1∘Jy (h:=by exact aad hr k 0 (show k<3 by omega) rfl rfl)∘bM 2∘bN 2∘Jl∘Jp 1∘Jo (.bool false) (by exact congrArg abM (decide_eq_false om))∘dY∘Jj∘aU∘aJ 2) ?_
  obtain ⟨t,u,rfl,_⟩:=d.sat k
  refine (iC k 1∘Jy (h:=by exact aad d k 0 (show k<3 by omega) rfl rfl)∘Jp 1∘gq∘bA 2∘JL (h:=by exact λb=>GZ (m.nums.getD k 0) (n.nums.getD k 0) _)) ?_
  rintro b _ v ⟨rfl,o⟩
  refine ⟨_,rfl,_,b.call o,?_⟩
  refine (Jp 1∘dY∘bA 2∘Jo (.bool (decide (((m.nums.getD k 0):Int)≠((n.nums.getD k 0):Int)))) (by exact congrArg abM zh1)∘aK∘Jj) (Ji (λg=>?_) λg=>?_)
  ·
   exact (JT∘aJ 2∘aK∘aP∘bC) λb=>zbz f l om b.below
  refine (aU∘JR∘dx 1∘Jp 1∘aK∘Jq) λa Z b=>?_
  exact ⟨_,om,k+1,by omega,q0t l om,rfl,Z.sub kr,b.pk []⟩
 exact (JF∘JX∘JG∘bN 1∘Jl∘Jp 1∘Jl∘Jv 1 [(35,.bool false)]∘gq∘Jj∘aU∘bF 1∘bC) λb=>zb0 (λi hi=>l i om) b.below
def ZB (m:Mb) (w:World):Calls abo 163 #[.agg m.cells] w (Is w (vQ (m.v:Int))):=by
 refine (eF Tryz.func163 5) ?_
 exact (JP∘JE) λb a=>(Jp 1∘Jr∘Jy (v:=vP a 0) (h:=by exact Yl.sP (ad:=⟨a,0,none⟩) (m:=3) (y:=0) (sz:=1) rfl rfl rfl kr de)∘Jc O0∘Jp 1∘bQ∘aP) uj
def zh8 (W w:World) (gs c:Nat) (o:Bool) (m n:Mb) (fs:List Fact) (b:Mem W w (.blk gs #[.bool o] 4:: .blk c n.cells 283::fs)):
    Calls abo 223 ([.agg m.cells,vP gs 0,vP c 0]:List Value).toArray w λr p=>r= .returned (.tuple #[])/\Mem W p (.blk gs #[.bool true] 4:: .blk c (if m.lt n then m else n).cells 283::fs):=by
 refine oD Tryz.func223 [.agg m.cells,vP gs 0,vP c 0] [(0,.agg m.cells),(1,vP gs 0),(2,vP c 0)] λa Z=>?_
 refine Jb Z b ((JP∘JE) λt e=>(aK∘Jr∘JW fJ aO) λj=>(aK∘Jj) λa Z b=>?_)
 refine wp_seq ?_
 refine Jb Z b ((Vs .n []) λq=>(Vy 0 (v:=vS e 3 3) (h:=by exact aaH (n:=3) (sz:=1) rfl rfl kr)∘Vy 1 (v:=vS c 3 3) (h:=by exact aaH (n:=3) (sz:=1) rfl rfl kr)) λa Z b k=>?_)
 refine s_on Z 2 rfl ?_
 refine lq Z [vS e 3 3,vS c 3 3] rfl rfl (qr2 m n (some ⟨e,0,none⟩) (some ⟨c,0,none⟩) 3 3 _ (b.bB (i:=0) (n:=3) (size:=1) rfl rfl) (b.bB (i:=2) (n:=3) (size:=1) rfl rfl)) ?_
 rintro _ u ⟨⟨s,rfl,f⟩,g⟩
 refine ⟨_,rfl,?_⟩
 replace b:=b.call g
 clear Z;intro a Z
 refine ay (b.pt 3 [0,1,2]) (λk=>?_)
 refine Vb Z b k ((Vq [3] [(7,.bool (decide ((s:Int)<(0:Int))))]∘Vo (.bool (m.lt n)) (by exact congrArg abM f)∘Vd∘dY) (Ju (λd=>?_) λd=>?_))
 ·
  refine (JT∘JR∘dZ tK O0∘JV tK iq (h1:=by exact Cq m)) λl=>(ny∘Jq) λa Z b=>?_
  refine iF rfl Z ⟨rfl,?_⟩
  rw [if_pos d]
  exact b.pt 3 [1,2]
 refine (JF∘JS) λa Z b=>?_
 refine iF rfl Z ⟨rfl,?_⟩
 rw [if_neg (by rw [d];decide)]
 exact b.pt 3 [1,2]
abbrev aii:=λa b=>(.blk a #[.bool b] 4:Fact)
def ZC (W w:World) (gs a:Nat) (b:Bool) (m:Mb) (q:List Mb) (fs:List Fact) (d:Mem W w (.blk gs #[.bool b] 4:: .blk a (aM bJ q).cells 283::fs)):
  Calls abo 223 ([.agg m.cells,vP gs 0,vP a 0]:List Value).toArray w λr e=>r= .returned (.tuple #[])/\Mem W e (aii gs (!(q++[m]).isEmpty)::.blk a (aM bJ (q++[m])).cells 283::fs):=by
 have c:=zh8 W w gs a b m _ fs d
 rw [<-q0o] at c
 rw [show (!(q++[m]).isEmpty)=true from by simp]
 exact c
abbrev aie:=λa b c d e=>((10,.func (.func 223) #[] #[vP a 0,vP b 0])::(9,vP a 0)::(8,vP b 0)::(7,.bool false)::(6,vP c 0)::(0,vP d 0)::e:List (Nat×Go.Value))
def q0u (x:aF) (N:x.av.Ok) (hf:bY x) (D:ShAt x) (O c:Nat) (hc:(c:Int)<x.au) (g:Nat) (hg:g<abn x.rs) (ih:∀h,g<h->h<abn x.rs->QL x O c h):QL x O c g:=by
 intro w G hm
 have hfs:=hf.s;have hft:=hf.t;have hfg:=hf.g;have hrl:=D.rs;have hto:=N.ts
 obtain ⟨hc1,hc2,_,_⟩:=mI D.cfg
 refine (uU Tryz.func162 102) ?_
 refine (JP∘JA #[vQ 0,vQ 0,vQ 0]) λw6 M=>(Jp 1∘Jr∘Jy (v:= .agg #[vQ 18446744073709551615,vQ 18446744073709551615,vQ 18446744073709551615]) (h:=by exact aar (n:=3) (sz:=1) (vs:=[(0,vQ 18446744073709551615),(1,vQ 18446744073709551615),(2,vQ 18446744073709551615)]) rfl rfl kr kr)∘JA #[vQ 0,vQ 0,vQ 0]) λw8 j=>(JA #[.bool false]) λw9 k=>(JV tK fJ) λQd=>(JW aO aO) λQM=>(Jr∘Jy (h:=by exact Yl.makeFunc (fst:=[]) (caps:=[vP k 0,vP j 0]) rfl rfl rfl)∘Jp 1∘aK∘Jq∘JC (h:=by exact λb=>b.Gy (i:=1) (ds:=(aM bJ []).cells) rfl rfl)∘JG∘bN 1∘Jn∘Jf 0∘Jf 5∘Jy (v:= .slice x.tA (abn x.ts) x.tc) (h:=by exact Pd rfl rfl kr (λ_ h=>h.mG hm rfl))∘Jl∘bM 1∘JB) λa Z b=>?_
 refine qg (λP Q R=>∃(i:Nat) (q:List Mb),(i<=abn x.ts)/\(q=(x.ts.take i).filterMap (vE · g c))/\P=abn x.ts-i/\Fr Q 102 [] (ahK 24 i 23 (abn x.ts) ((22,abk x.tA x.ts x.tc)::aie k j M O (ahK 1 g 2 c [])))/\Mem w R [aii k (!q.isEmpty),.blk j ((aM bJ q).cells) 283,.blk M #[vQ 0,vQ 0,vQ 0] 283]) (m:=abn x.ts-0) ⟨0,[],abA _,rfl,rfl,Z.sub kr,b.pk [0,1,2]⟩ ?_
 clear Z b;rintro P a w_ ⟨i,q,hi,E,rfl,Z,b⟩
 refine Jb Z b ((cO 1∘JQ) (Ji (λS=>?_) λS=>?_))
 ·
  have o:i<abn x.ts:=by omega
  obtain ⟨t,ht⟩:∃z,(x.ts.getD i Tk.zero)=z:=⟨_,rfl⟩
  have T:=pV (D.tk i o)
  rw [ht] at T
  refine (eO∘JP) ?_
  obtain ⟨U,V,F,_⟩:=Rd.sat G.t i
  have H:=G.t;rw [F] at H
  refine (Jk 22 (.slice (some ⟨U,V,none⟩) (abn x.ts) x.tc) (h:=by rw [F];try rfl)∘iC i 8∘pG Tk.cells ql H fE i Tk.zero (hk:=o)∘Jo (.agg t.cells) (by rw [ht])∘JA aiA) λyB W=>(JV fE aO (h1:=by exact Gu t)) λCe=>(bQ∘Jj) λa Z b=>?_
  refine qz (λQ R=>Fr Q 102 [] ((41,.bool (t.here g c))::(12,vP W 0)::(22,abk (some ⟨U,V,none⟩) x.ts x.tc)::(25,.bool true)::ahK 24 i 23 (abn x.ts) (aie k j M O (ahK 1 g 2 c [])))/\Mem w R [.blk W t.cells 232,aii k (!q.isEmpty),.blk j ((aM bJ q).cells) 283,.blk M #[vQ 0,vQ 0,vQ 0] 283]) ?_ ?_
  ·
   refine zn ?_
   refine Jb Z b ((Jg 5 O0∘Jp 1) (Ju (λp=>?_) λp=>?_))
   ·
    refine (Jg 1 O0∘Jp 4) (Je (λX=>?_) λX=>?_)
    ·
     refine (Jg 3 O0∘Jp 3∘aH∘Jq) λa Z b=>?_
     have Z:=Z.sp 41 (.bool (t.here g c)) rfl (congrArg abM (by unfold Tk.here;rw [p,decide_eq_true om,ab8,ab8,abY,beq_iff_eq,decide_eq_true_eq]))
     exact ⟨Z.sub kr,b.pk [0,1,2,3]⟩
    refine (Jp 5∘aH∘Jq) λa Z b=>?_
    have Z:=Z.sp 41 (.bool (t.here g c)) rfl (congrArg abM (by unfold Tk.here;rw [p,decide_eq_false om];rfl))
    exact ⟨Z.sub kr,b.pk [0,1,2,3]⟩
   refine (Jv 11 [(41,.bool false)]∘bQ∘Jq) λa Z b=>?_
   have Z:=Z.sp 41 (.bool (t.here g c)) rfl (congrArg abM (by unfold Tk.here;rw [p];rfl))
   exact ⟨Z.sub kr,b.pk [0,1,2,3]⟩
  clear Z b;rintro a w6 ⟨Z,b⟩
  refine Jb Z b (Ju (λB=>?_) λB=>?_)
  ·
   have r:q++[(⟨t.v,0,t.id.toNat⟩:Mb)]=(x.ts.take (i+1)).filterMap (vE · g c):=by rw [QA Tk.zero o,<-E,ht,vE,if_pos B];rfl
   refine (JT∘JR∘Jp 1∘Jg 6 O0∘Jg 0 O0∘Jv 1 [(47,vQ (IntKind.u64.wrap t.id))]∘Jo (vQ t.id.toNat) (by exact xB om om)∘Jy (v:= .agg #[vQ t.v,vQ 0,vQ t.id.toNat]) (h:=by exact aar (n:=3) (sz:=1) (vs:=[(0,vQ t.v),(1,vQ 0),(2,vQ t.id.toNat)]) rfl rfl kr kr)) λa Z b=>?_
   refine fo Z 7 rfl rfl ?_
   refine zg Z (f:=223) (vs:=[.agg #[vQ t.v,vQ 0,vQ t.id.toNat]]) (fst:=[]) (caps:=[vP k 0,vP j 0]) rfl rfl rfl kr rfl de (ZC w _ k j _ (⟨t.v,0,t.id.toNat⟩:Mb) q _ (b.pk [1,2,0,3])) ?_
   rintro _ Aa ⟨rfl,L⟩
   refine ⟨_,rfl,?_⟩
   replace b:=L
   clear Z;intro a Z
   refine Jb Z b ((iQ∘Jj∘JR∘dx 1∘Jp 1∘aK∘Jq) λa Z b=>?_)
   replace Z:=Z.sp 22 (abk x.tA x.ts x.tc) rfl (by rw [F])
   exact ⟨_,om,i+1,(q++[(⟨t.v,0,t.id.toNat⟩:Mb)]),by omega,r,rfl,Z.sub kr,b.pk [0,1,3]⟩
  have r:q=(x.ts.take (i+1)).filterMap (vE · g c):=by rw [QA Tk.zero o,<-E,ht,vE,if_neg (by rw [B];decide)];simp
  refine (aU∘JR∘dx 1∘Jp 1∘aK∘Jq) λa Z b=>?_
  replace Z:=Z.sp 22 (abk x.tA x.ts x.tc) rfl (by rw [F])
  exact ⟨_,om,i+1,q,by omega,r,rfl,Z.sub kr,b.pk [1,2,3]⟩
 rw [abI (by omega:abn x.ts<=i)] at E
 refine (JF∘JX∘JG∘bN 1∘dx 1∘Jp 1∘bQ∘Jj∘JB) λa Z b=>?_
 refine qg (λP Q R=>∃(u:Nat) (q:List Mb),(g+1<=u)/\(u<=abn x.rs)/\(q=x.ts.filterMap (vE · g c)++((((acp (abn x.rs)).drop (g+1)).take (u- (g+1))).filterMap (lD x.av c (λu=>aR x.av u c) g)))/\P=abn x.rs-u/\Fr Q 102 [] ((13,vI u)::(25,.bool false)::ahK 24 i 23 (abn x.ts) ((22,abk x.tA x.ts x.tc)::aie k j M O (ahK 1 g 2 c [])))/\Mem w R [aii k (!q.isEmpty),.blk j ((aM bJ q).cells) 283,.blk M #[vQ 0,vQ 0,vQ 0] 283]) (m:=abn x.rs- (g+1)) ⟨g+1,q,abr _,by omega,by rw [E];simp,rfl,Z.sub kr,b.pk [0,1,2]⟩ ?_
 clear Z b;rintro P a w_ ⟨u,q,hgh,hh,E,rfl,Z,b⟩
 refine Jb Z b ((bN 2∘Jn∘Jf 0∘Jf 6∘Jy (v:= .slice x.sA (abn x.rs) x.sc) (h:=by exact Pd rfl rfl kr (λ_ h=>h.mG hm rfl))∘Jl∘Jp 1∘aH∘Jj) (Ji (λY=>?_) λY=>?_))
 ·
  have d:u<abn x.rs:=by omega
  have e:=zb1 (f:=lD x.av c (λu=>aR x.av u c) g) hgh d
  refine (eO∘bN 1∘Jn∘Jf 0∘Jf 0∘Jf 2∘Jy (v:= .slice x.gA (abn x.gs) x.gc) (h:=by exact Pd rfl rfl kr (λ_ h=>h.mG hm rfl))∘Jp 1) ?_
  obtain ⟨gq2,oq2,r,_⟩:=Rd.sat G.g u
  have I:=G.g;rw [r] at I
  refine (Jk 68 (.slice (some ⟨gq2,oq2,none⟩) (abn x.gs) x.gc) (h:=by rw [r];try rfl)∘iC u 2∘Jf 0∘DT qK I u Gr.zero∘Jp 2∘gq∘Jj) (Jh (λQN=>?_) λQN=>?_)
  ·
   rw [q5q om] at e
   refine (JT∘JX∘JG∘JR∘Jp 1∘dx 1∘Jp 1∘bQ∘Jq) λa Z b=>?_
   exact ⟨_,om,u+1,q,by omega,by omega,by rw [e,E];simp,rfl,Z.sub kr,b.pk [0,1,2]⟩
  refine (aU∘aJ 3∘JL (h:=by exact λb=>ih u om om _ (G.old b) (b.lu hm))) ?_
  rintro b _ ZE ⟨rfl,hbw⟩
  refine ⟨_,rfl,_,b.call hbw,?_⟩
  refine (Jp 1∘Jx∘Jx∘JA #[vQ 0,vQ 0,vQ 0]) λFV g14=>(JV tK aO (h1:=by exact Cq (aM bJ (aR x.av u c)))) λG5=>(Jp 1∘aH∘bA 1∘Jj) (Ju (λC=>?_) λC=>?_)
  ·
   obtain ⟨y,hy⟩:∃z,x.rs.getD u Rw.zero=z:=⟨_,rfl⟩
   have qL:Rd w w.heap.size 3 y.A (abn y.l) (y.l.flatMap jk):=by rw [<-hy];exact G.row d
   have hyl:(abn y.l:Int)=x.au:=by rw [<-hy];exact (Co d (D.row u d)).1
   have nC:∀z∈y.l,z.Ok:=by rw [<-hy,<-jW d];exact N.sp _ (qf [] (by rw [lG];exact d))
   have hzv:=(nC _ (qf Sp.zero (show c<abn y.l by omega))).v
   rw [zb2 d om (by simpa using C),hy] at e
   refine (JT∘JR∘Jp 2∘Jn∘Jf 0∘Jf 6∘Jy (v:= .slice x.sA (abn x.rs) x.sc) (h:=by exact Pd rfl rfl kr (λ_ h=>h.mG hm rfl))∘Jp 1) ?_
   obtain ⟨Cw,Cx,hq3,_⟩:=Rd.sat G.s u
   have J:=G.s;rw [hq3] at J
   refine (Jk 88 (.slice (some ⟨Cw,Cx,none⟩) (abn x.rs) x.sc) (h:=by rw [hq3];try rfl)∘iC u 1∘Jy (v:= .slice ((x.rs.getD u Rw.zero).A) ((x.rs.getD u Rw.zero).l.length) ((x.rs.getD u Rw.zero).c)) (h:=by exact aad J u Rw.zero om rfl rfl)∘Jo (.slice y.A (abn y.l) y.c) (by rw [hy])∘Jp 1) ?_
   obtain ⟨Am,Ao,hq4,_⟩:=Rd.sat qL c
   have K:=qL;rw [hq4] at K
   refine (Jk 91 (.slice (some ⟨Am,Ao,none⟩) (abn y.l) y.c) (h:=by rw [hq4];try rfl)∘iC c 3∘Jf 0∘DT Ck K c Sp.zero∘Jp 1∘Jw .u64∘Jy (v:= .agg #[vQ ((y.l.getD c Sp.zero).v),vQ 1,vQ u]) (h:=by exact aar (n:=3) (sz:=1) (vs:=[(0,vQ ((y.l.getD c Sp.zero).v)),(1,vQ 1),(2,vQ u)]) rfl rfl kr kr)) λa Z b=>?_
   refine fo Z 16 rfl rfl ?_
   refine zg Z (f:=223) (vs:=[.agg #[vQ ((y.l.getD c Sp.zero).v),vQ 1,vQ u]]) (fst:=[]) (caps:=[vP k 0,vP j 0]) rfl rfl rfl kr rfl de (ZC w _ k j _ (⟨(y.l.getD c Sp.zero).v,1,u⟩:Mb) q _ (b.pk [1,2,0,3])) ?_
   rintro _ w99 ⟨rfl,L⟩
   refine ⟨_,rfl,?_⟩
   replace b:=L
   clear Z;intro a Z
   refine Jb Z b ((iQ∘Jj∘JR∘Jp 1∘dx 1∘Jp 1∘aH∘Jq) λa Z b=>?_)
   exact ⟨_,om,u+1,(q++[(⟨(y.l.getD c Sp.zero).v,1,u⟩:Mb)]),by omega,by omega,by rw [e,E,abu];rfl,rfl,Z.sub kr,b.pk [0,1,3]⟩
  rw [q5r (by simpa using C)] at e
  refine (aU∘JR∘Jp 1∘dx 1∘Jp 1∘bQ∘Jq) λa Z b=>?_
  exact ⟨_,om,u+1,q,by omega,by omega,by rw [e,E];simp,rfl,Z.sub kr,b.pk [1,2,3]⟩
 have hqm:q=aR x.av g c:=by rw [E,Mq,lG,show u=abn x.rs by omega,zh2];rfl
 refine (JF∘JX) λa Z b=>?_
 refine wp_seq ?_
 refine Jb Z b ((Vs (.t (.t (.f .n))) []) λG6=>(nH 0 tK O1∘Vc 1 O0) λa Z b HS=>?_)
 refine s_on Z 2 rfl (bT Z b 2 rfl rfl rfl rfl rfl tK rfl rfl (Cq (aM bJ q)) λAg b=>?_)
 refine ay (b.pk [0,1]) (λHS=>?_)
 refine Vb Z b HS ((Vp [3]∘Vd∘bQ∘JZ) λa Z b=>?_)
 exact dI rfl Z (.cellS (i:=2) Z b rfl rfl tK rfl) (.tmp Z rfl) (⟨by rw [<-hqm],b.below⟩)
def MC (x:aF) (a:x.av.Ok) (f:bY x) (b:ShAt x) (d c:Nat) (hc:(c:Int)<x.au):∀(n g:Nat),abn x.rs-g<=n->g<abn x.rs->QL x d c g:=by
 intro n
 induction n with
 |zero=>intro g i e;omega
 |succ n j=>intro g i e;exact q0u x a f b d c hc g e λh l k=>j h om k
def ZY {l:List Tk} {id:Int} (h:fidx l id<0):gF l id=none:=by
 rcases Qz l id with a|⟨i,a,_⟩
 ·exact a.2
 ·omega
theorem Z0 {l:List Tk} {id:Int} (h:¬fidx l id<0):∃i:Nat,fidx l id=i/\gF l id=some i/\i<abn l/\(l.getD i Tk.zero).id=id:=by
 rcases Qz l id with a|a
 ·omega
 ·exact a
def qu3 (x:aF) (S:x.av.Ok) (H:bY x) (w:World) (D:eU w x):
    Calls abo 105 #[.agg x.cells] w (Is w (.bool (lT x.av))):=by
 have alc:=H.s;have hft:=H.t;have hfg:=H.g;have hfl:=H.l;have hfu:=H.u
 refine (eF Tryz.func105 81) ?_
 refine (JP∘JE) λw1 I=>(bM 1∘JQ∘JP∘dZ gG O0∘JI (h:=by exact λb=>q0r x S H _ (D.old b))) λyB E=>(Jp 1∘bQ∘Jj) (Ju (λj=>?_) λj=>?_)
 ·
  exact (JT∘bF 1∘bC) λb=>cB (Gz (by simpa using j)).symm b.below
 have T:nI x.av=true:=by simpa using j
 have k:=vG T
 have hs:=Zj k
 obtain ⟨hc1,hc2,_,_⟩:=mI k.cfg
 have oI:=k.cu
 refine (aU∘JP∘dZ gG O0∘eH #[vI x.au,vQ x.aj,abk x.gA x.gs x.gc,abk x.lA x.cl x.lc,abk x.uA x.cu x.uc,abk x.tA x.ts x.tc,abk x.sA x.rs x.sc,.bool true]∘JE) λw16 e=>(Jp 1∘dY∘Jj∘JQ∘JP∘Jg 4 O1∘Jl∘bM 1∘JB) λa Z b=>?_
 refine qg (λU N O=>∃(c:Nat),(c<=abn x.cu)/\(fQ c λc=>eB x.av c&&iw (abn x.rs) λg=>kK x.av g c)/\U=abn x.cu-c/\Fr N 81 [] (ahK 20 c 19 (abn x.cu) [(18,abk x.uA x.cu x.uc),(3,vP e 0),(13,.bool false),(2,.bool false),(1,vP I 0)])/\Mem w O [.blk e #[vI x.au,vQ x.aj,abk x.gA x.gs x.gc,abk x.lA x.cl x.lc,abk x.uA x.cu x.uc,abk x.tA x.ts x.tc,abk x.sA x.rs x.sc,.bool true] 273,.blk I x.cells 48]) (m:=abn x.cu-0) ⟨0,abA _,fQ.zero,rfl,Z.sub kr,b.pk [0,1]⟩ ?_
 clear Z b;rintro U a w_ ⟨c,hc,hu,rfl,Z,b⟩
 refine Jb Z b ((cO 1∘JQ) (Ji (λV=>?_) λV=>?_))
 ·
  have J:c<abn x.cu:=by omega
  obtain ⟨id,f⟩:∃z,(x.cu.getD c 0)=z:=⟨_,rfl⟩
  refine (eO∘aJ 1) ?_
  obtain ⟨F,G,P,_⟩:=Rd.sat D.u c
  have K:=D.u;rw [P] at K
  refine (Jk 18 (.slice (some ⟨F,G,none⟩) (abn x.cu) x.uc) (h:=by rw [P];try rfl)∘iC c 1∘Jy (v:=vI (x.cu.getD c 0)) (h:=by exact aad K c 0 om rfl rfl)∘Jo (vI id) (by rw [f])∘Jp 2∘bA 2∘JI (h:=by exact λb=>ZA x e id hs _ (b.blk (i:=0) rfl) (b.old D.t) H.t)) λHl E=>(Jp 1∘dY∘Jj∘JQ) λa Z b=>?_
  refine qz (λN O=>Fr N 81 [] ((52,.bool (!eB x.av c))::ahK 6 (fidx x.ts id) 5 id ((4,vI c)::(18,abk (some ⟨F,G,none⟩) x.cu x.uc)::(21,.bool true)::ahK 20 c 19 (abn x.cu) [(3,vP e 0),(13,.bool false),(2,.bool false),(1,vP I 0)]))/\Mem w O [.blk e #[vI x.au,vQ x.aj,abk x.gA x.gs x.gc,abk x.lA x.cl x.lc,abk x.uA x.cu x.uc,abk x.tA x.ts x.tc,abk x.sA x.rs x.sc,.bool true] 273,.blk I x.cells 48]) ?_ ?_
  ·
   refine zn ?_
   refine Jb Z b ((Jp 3) (Jh (λW=>?_) λW=>?_))
   ·
    refine (Jp 3) (Ji (λX=>?_) λX=>?_)
    ·
     refine (Jv 19 [(52,.bool true)]∘aH∘Jq) λa Z b=>?_
     have Z:=Z.sp 52 (.bool (!eB x.av c)) rfl (congrArg abM (by rw [Zm (by rw [f];omega) (by rw [f];exact ZY om)];rfl))
     exact ⟨Z.sub kr,b.pk [0,1]⟩
    obtain ⟨i,Y,hfs,hil,ald⟩:=Z0 (l:=x.ts) (id:=id) om
    refine (Jg 5 O1∘Jp 1∘Jo (vI i) (by rw [Y])) ?_
    obtain ⟨Cw,Cx,Q,_⟩:=Rd.sat D.t i
    have o:=D.t;rw [Q] at o
    refine (Jk 35 (.slice (some ⟨Cw,Cx,none⟩) (abn x.ts) x.tc) (h:=by rw [Q];try rfl)∘iC i 8∘Jf 5∘OM ql o 5 i Tk.zero∘Jp 3) (Ju (λp=>?_) λp=>?_)
    ·
     refine (Jv 10 [(52,.bool true)]∘aH∘Jq) λa Z b=>?_
     have Z:=Z.sp 52 (.bool (!eB x.av c)) rfl (congrArg abM (by rw [Zl (by rw [f];omega) (by rw [f];exact hfs),(acF _).mp p];rfl))
     exact ⟨Z.sub kr,b.pk [0,1]⟩
    refine (Jg 5 O1∘Jp 1∘Jo (vI i) (by rw [Y])∘Jk 44 (.slice (some ⟨Cw,Cx,none⟩) (abn x.ts) x.tc) (h:=by rw [Q];try rfl)∘iC i 8∘Jf 3∘OM ql o 3 i Tk.zero∘Jp 4∘aH∘Jq) λa Z b=>?_
    have Z:=Z.sp 52 (.bool (!eB x.av c)) rfl (congrArg abM (by rw [Zl (by rw [f];omega) (by rw [f];exact hfs),(ad7 _).mp p,ab8,bne,abY];simp))
    exact ⟨Z.sub kr,b.pk [0,1]⟩
   refine (Jv 22 [(52,.bool false)]∘dY∘Jq) λa Z b=>?_
   have Z:=Z.sp 52 (.bool (!eB x.av c)) rfl (congrArg abM (by rw [q0n (by rw [f];omega)];rfl))
   exact ⟨Z.sub kr,b.pk [0,1]⟩
  clear Z b;rintro a w8 ⟨Z,b⟩
  refine Jb Z b (Ju (λq=>?_) λq=>?_)
  ·
   exact (JT∘bF 1∘bC) λb=>cB (GA J (by simpa using q)).symm b.below
  refine (aU∘JP∘Jg 6 O1∘Jl∘bM 1∘JB) λa Z b=>?_
  refine qg (λU N O=>∃(g:Nat),(g<=abn x.rs)/\(fQ g λg=>kK x.av g c)/\U=abn x.rs-g/\Fr N 81 [] (ahK 56 g 55 (abn x.rs) ((54,abk x.sA x.rs x.sc)::(52,.bool false)::ahK 6 (fidx x.ts id) 5 id ((4,vI c)::(18,abk (some ⟨F,G,none⟩) x.cu x.uc)::(21,.bool true)::ahK 20 c 19 (abn x.cu) [(3,vP e 0),(13,.bool false),(2,.bool false),(1,vP I 0)])))/\Mem w O [.blk e #[vI x.au,vQ x.aj,abk x.gA x.gs x.gc,abk x.lA x.cl x.lc,abk x.uA x.cu x.uc,abk x.tA x.ts x.tc,abk x.sA x.rs x.sc,.bool true] 273,.blk I x.cells 48]) (m:=abn x.rs-0) ⟨0,abA _,fQ.zero,rfl,Z.sub kr,b.pk [0,1]⟩ ?_
  clear Z b;rintro U a w_ ⟨g,hg,hu2,rfl,Z,b⟩
  refine Jb Z b ((cO 1∘JQ) (Ji (λCu=>?_) λCu=>?_))
  ·
   have d:g<abn x.rs:=by omega
   obtain ⟨y,hy⟩:∃z,x.rs.getD g Rw.zero=z:=⟨_,rfl⟩
   have qL:Rd w w.heap.size 3 y.A (abn y.l) (y.l.flatMap jk):=by rw [<-hy];exact D.row d
   have hyl:(abn y.l:Int)=x.au:=by rw [<-hy];exact (Co d (k.row g d)).1
   refine (eO∘aJ 1) ?_
   obtain ⟨Am,Ao,R,_⟩:=Rd.sat D.s g
   have L:=D.s;rw [R] at L
   refine (Jk 54 (.slice (some ⟨Am,Ao,none⟩) (abn x.rs) x.sc) (h:=by rw [R];try rfl)∘iC g 1∘Jy (v:= .slice ((x.rs.getD g Rw.zero).A) ((x.rs.getD g Rw.zero).l.length) ((x.rs.getD g Rw.zero).c)) (h:=by exact aad L g Rw.zero d rfl rfl)∘Jo (.slice y.A (abn y.l) y.c) (by rw [hy])∘Jp 2∘bA 3∘JL (h:=by exact λb=>MC x S H k e c om _ g (abr _) d _ (D.old b) (b.blk (i:=0) rfl))) ?_
   rintro b _ w65 ⟨rfl,E⟩
   refine ⟨_,rfl,_,b.call E,?_⟩
   refine (Jp 1∘Jx∘Jx∘JA #[vQ 0,vQ 0,vQ 0]) λw9 g9=>(JV tK aO (h1:=by exact Cq (aM bJ (aR x.av g c)))) λG5=>(bM 1) λa Z b=>?_
   refine qz (λN O=>Fr N 81 [] ((78,.bool (!kK x.av g c))::(10,.bool (!(aR x.av g c).isEmpty))::(9,vP g9 0)::(8,abk y.A y.l y.c)::(7,vI g)::(54,abk (some ⟨Am,Ao,none⟩) x.rs x.sc)::(57,.bool true)::ahK 56 g 55 (abn x.rs) ((52,.bool false)::ahK 6 (fidx x.ts id) 5 id ((4,vI c)::(18,abk (some ⟨F,G,none⟩) x.cu x.uc)::(21,.bool true)::ahK 20 c 19 (abn x.cu) [(3,vP e 0),(13,.bool false),(2,.bool false),(1,vP I 0)])))/\Mem w O [.blk g9 ((aM bJ (aR x.av g c)).cells) 283,.blk e #[vI x.au,vQ x.aj,abk x.gA x.gs x.gc,abk x.lA x.cl x.lc,abk x.uA x.cu x.uc,abk x.tA x.ts x.tc,abk x.sA x.rs x.sc,.bool true] 273,.blk I x.cells 48]) ?_ ?_
   ·
    refine Jb Z b ((Vs .n []) λyC=>(Vp [0,1]) λa Z b HS=>?_)
    rcases Z.tf 69 rfl with ⟨r,Z⟩|⟨r,Z⟩
    ·
     refine Vb Z b HS ((Vp [4,5]∘nH 2 tK O0) ?_)
     obtain ⟨QY,QZ,M,_⟩:=Rd.sat qL c
     have B:=qL;rw [M] at B
     intro a Z b HS
     replace Z:=Z.sp 72 (abk (some ⟨QY,QZ,none⟩) y.l y.c) rfl (by rw [M];try rfl)
     refine Vb Z b HS ((xG 6 c 3∘Vf 7 2∘Fx 8 Ck B 2 c Sp.zero∘VI 3 .n (h:=by exact λb=>ZB (aM bJ (aR x.av g c)) _)) λw71 E=>(Vp [9,10]∘Vd∘kW) λa Z b=>?_)
     have Z:=Z.sp 78 (.bool (!kK x.av g c)) rfl (congrArg abM (by rw [zl4 (by simpa using r),QB d,hy,<-decide_not];exact decide_eq_decide.2 om))
     exact ⟨Z.sub kr,b.pk [0,1,2]⟩
    refine ap Z (λ_=>HS) [2,3,4,5,6,7,8,9,10] (bt 11 []) [(78,.bool false)] λa Z=>?_
    refine qe kr ?_
    have Z:=Z.sp 78 (.bool (!kK x.av g c)) rfl (congrArg abM (by rw [zh3 (by simpa using r)];rfl))
    exact ⟨Z.sub kr,b.pk [0,1,2]⟩
   clear Z b;rintro a FV ⟨Z,b⟩
   refine Jb Z b (Ju (λC=>?_) λC=>?_)
   ·
    exact (JT∘bF 1∘bC) λb=>cB (GD J d (by simpa using C)).symm b.below
   refine (aU∘JR∘dx 1∘Jp 1∘aK∘Jq) λa Z b=>?_
   replace Z:=Z.sp 54 (abk x.sA x.rs x.sc) rfl (by rw [R])
   exact ⟨_,om,g+1,by omega,hu2.succ (by simpa using C),rfl,Z.sub kr,b.pk [1,2]⟩
  refine (JF∘JX∘JG∘JR∘dx 1∘Jp 1∘aK∘Jq) λa Z b=>?_
  replace Z:=Z.sp 18 (abk x.uA x.cu x.uc) rfl (by rw [P])
  exact ⟨_,om,c+1,by omega,hu.succ (by rw [show eB x.av c=true by simpa using q,ab8];exact fQ.all λi hi=>hu2 i om),rfl,Z.sub kr,b.pk [0,1]⟩
 exact (JF∘JX∘JG∘bF 1∘bC) λb=>cB (GH T (λi hi=>hu i om)).symm b.below
def gI {α:Type} (k:Nat) (f:Nat->List α):List α:=(acp k).flatMap f
theorem zp {α:Type} (k:Nat) (f:Nat->List α):gI (k+1) f=gI k f++f k:=by unfold gI;rw [List.range_succ,abX];simp
def GI {α:Type} (f:Nat->List α):gI 0 f=[]:=rfl
def GJ {α:Type} {f:Nat->List α} {m:Nat} (h:∀i,abn (f i)<=m):∀k,abn (gI k f)<=m*k
 |0=>abA _
 |k+1=>by rw [zp,abp,afy];have:=GJ h k;have:=h k;omega
def Zn {α:Type} {f:Nat->List α} {m:Nat}:∀k,(∀i,i<k->abn (f i)<=m)->abn (gI k f)<=m*k
 |0,_=>abA _
 |k+1,h=>by rw [zp,abp,afy];have:=Zn k (λi hi=>h i om);have:=h k om;omega
def D9 {α:Type} {f:Nat->List α} {p:α->Prop}:∀k,(∀i,i<k->∀x∈f i,p x)->∀x∈gI k f,p x
 |0,_=>λx a=>by cases a
 |k+1,h=>λx a=>by
  rw [zp] at a
  rcases ab6.1 a with a|a
  ·exact D9 k (λi hi=>h i om) x a
  ·exact h k om x a
def aL (n:Int):Nat:=(n%18446744073709551616).toNat
theorem Cr (n:Int):aL n<18446744073709551616:=by unfold aL;omega
def QC (n:Int):abO .u64 (Go.IntKind.u64.wrap n)= .int .u64 ((aL n:Nat):Int):=by
 unfold aL
 rw [Int.toNat_of_nonneg (Int.emod_nonneg _ de)]
 rfl
structure dL where
 next:Int
 st:aF
def dL.cells (s:dL):Array Value:= #[.int .i64 s.next,.int .i64 s.st.au,.int .u64 (s.st.aj:Int),.slice s.st.gA (abn s.st.gs) s.st.gc,.slice s.st.lA (abn s.st.cl) s.st.lc,.slice s.st.uA (abn s.st.cu) s.st.uc,.slice s.st.tA (abn s.st.ts) s.st.tc,.slice s.st.sA (abn s.st.rs) s.st.sc]
def Mx (x:dL):∀v∈x.cells.toList,v.oneCell'=true:=by simp [dL.cells,Value.oneCell']
def yP (l:List Gr) (i:Nat):List Nat:=[aL (l.getD (i+1) Gr.zero).parent,aL (l.getD (i+1) Gr.zero).weight]
def qx (l:List Tk) (i:Nat):Int:=if i=0 then 0 else (l.getD (i-1) Tk.zero).id
def rD (p:Int) (t:Tk):List Nat:=[aL (t.id-p),aL t.group,aL t.weight,aL t.cpu,t.mask,if t.ready then 1 else 0,t.v,t.r]
def vL (g:Nat) (z:Sp):List Nat:=(if 0<g then [z.v,z.r] else [])++[z.floor]
def yQ (g:Nat) (l:List Sp):List Nat:=gI (abn l) λc=>vL g (l.getD c Sp.zero)
def aN (s:dL):Nat->List Nat
 |0=>[aL s.next]
 |1=>[aL s.st.au,s.st.aj,abn s.st.gs]
 |2=>gI (abn s.st.gs-1) (yP s.st.gs)
 |3=>s.st.cl.map aL
 |4=>s.st.cu.map aL
 |5=>abn s.st.ts::gI (abn s.st.ts) λi=>rD (qx s.st.ts i) (s.st.ts.getD i Tk.zero)
 |6=>gI (abn s.st.rs) λg=>yQ g (s.st.rs.getD g Rw.zero).l
 |_=>[]
def qb:Nat->ByteArray
 |0=>⟨#[110,101,120,116]⟩
 |1=>⟨#[99,111,110,102,105,103]⟩
 |2=>⟨#[103,114,111,117,112,115]⟩
 |3=>⟨#[99,108,111,99,107,115]⟩
 |4=>⟨#[99,117,114,114,101,110,116]⟩
 |5=>⟨#[116,97,115,107,115]⟩
 |6=>⟨#[115,112,111,116,115]⟩
 |_=>⟨#[]⟩
def dG (s:dL):Nat:=if s.next<1\/281474976710657<s.next then 330 else if lT s.st.av=false then 331 else 0
def iJ (s:dL):List Nat:=gI 7 (aN s)
def fV (s:dL):List Nat:=[113,115,1]++(iJ s).flatMap ak
def cZ (s:dL):List Nat:=if dG s=0 then bI (fV s) else []
structure jK where
 nm:ByteArray
 fr:Nat
 to:Nat
def gQ (x:jK):List Value:=[.string x.nm,.int .i64 (x.fr:Int),.int .i64 (x.to:Int)]
def zb3 (x:jK):abn (gQ x)=3:=rfl
def xP (w:World) (R:List Nat) (r:Ending) (a:World):Prop:=
 (∃A c,r= .returned (.slice A (abn R) c)/\a.ownsRow w.heap.size 41 1 (.slice A (abn R) c) (abn R) (R.map bD)/\abn R<=c)/\Below w.heap.size w a
def Al {q:List Nat} (h:q=R) (a:W.ownsRow w.heap.size 41 1 (.slice A (abn q) c) (abn q) (q.map bD)) (hc:abn q<=c) (hb:Below w.heap.size w W):xP w R (.returned (.slice A (abn q) c)) W:=by
 subst h
 exact ⟨⟨A,c,rfl,a,hc⟩,hb⟩
def vM (l:List Nat):∀u∈l.map bD,u.oneCell'=true:=by
 intro u a
 obtain ⟨x,_,rfl⟩:=ab0.1 a
 rfl
theorem qo2 {l:List Int} (h:k<abn l):(l.take (k+1)).map aL=(l.take k).map aL++[aL (l.getD k 0)]:=by grind [abq,ado]
def nK {α:Type} {a b:List α} (h:abn b=n):abn a+n=abn (a++b):=by rw [abp,h]
def Zo (h:n<18446744073709551616):aL (n:Int)=n:=by unfold aL;omega
def zh4 {E:Option Addr} {l:List Gr} (h:Rd w w.heap.size 2 A (abn l) (l.flatMap fC)) (h1:1<=abn l) (hc:abn l<=c) (b:(if c=1 then A else A.map (·.add (1*2)))=E):Rd w w.heap.size 2 E (abn (l.drop 1)) ((l.drop 1).flatMap fC):=by
 have a:=Rd.znp qK h h1 hc
 rw [b] at a
 exact a
def getD_drop {α:Type} (l:List α) (j k:Nat) (d:α):(l.drop j).getD k d=l.getD (k+j) d:=by
 rw [abt,ade,abt,aeQ]
def GK (l:List Tk) (k:Nat):qx l (k+1)=(l.getD k Tk.zero).id:=by unfold qx;rw [if_neg om];rfl
def quw (l:List Tk):qx l 0=0:=rfl
theorem Zp {z:Sp} (h:0<g):vL g z=[z.v,z.r]++[z.floor]:=by unfold vL;rw [if_pos h]
theorem Zq {z:Sp} (h:¬0<g):vL g z=[z.floor]:=by unfold vL;rw [if_neg h];rfl
def GL {p:Int} {t:Tk} (h:t.ready=true):rD p t=[aL (t.id-p),aL t.group,aL t.weight,aL t.cpu]++[t.mask,1,t.v,t.r]:=by unfold rD;rw [h];rfl
def GN {p:Int} {t:Tk} (h:t.ready=false):rD p t=[aL (t.id-p),aL t.group,aL t.weight,aL t.cpu]++[t.mask,0,t.v,t.r]:=by unfold rD;rw [h];rfl
def Ua (A:Option Addr) (c:Nat) (l:List Int) (w:World) (hr:Rd w w.heap.size 1 A (abn l) (l.map aX)) (C:abn l<=1000000):
    Calls abo 277 #[abk A l c] w (xP w (l.map aL)):=by
 refine (eF Tryz.func277 19) ?_
 refine (aJ 1∘bA 1∘Jq∘JC (h:=by exact λb=>b.nil 41 1)∘JG∘bN 1∘Jl∘bM 1∘JB) λa Z b=>?_
 refine qg (λt v x=>∃(k:Nat) (q:List Nat) (o:Option Addr) (co:Nat),(k<=abn l)/\(q=(l.take k).map aL)/\(abn q=k)/\(abn q<=co)/\t=abn l-k/\Fr v 19 [] (ahK 8 k 7 (abn l) [(6,abk A l c),(3,abk o q co),(2,vN)])/\Mem w x [abl o q co bD 41 1]) (m:=abn l-0) ⟨0,[],none,0,abA _,rfl,rfl,abr _,rfl,Z.sub kr,b.pk [0]⟩ ?_
 clear Z b;rintro t a D ⟨k,q,o,co,E,u,p,r,rfl,Z,b⟩
 refine Jb Z b ((cO 1∘JQ) (Ji (λs=>?_) λs=>?_))
 ·
  have f:k<abn l:=by omega
  refine (eO∘JP) ?_
  obtain ⟨gA,F,rfl,_⟩:=hr.sat k
  refine (iC k 1∘Jy (h:=by exact aad hr k 0 f rfl rfl)∘Jp 1∘bQ∘Jj∘JR∘Jp 2∘Jv 1 [(14,vQ (IntKind.u64.wrap (l.getD k 0)))]∘Jo (vQ (aL (l.getD k 0))) (by exact QC _)∘JU kD #[vQ (aL (l.getD k 0))]) λy z=>(JD ([aL (l.getD k 0)].map bD) 1 (λ_ _=>fJ) kD (hr:=by exact λb=>b.bB (i:=0) (n:=1) (size:=1) rfl rfl) (h1:=by exact vM _)) λB g j e=>(Jp 1∘kW∘Jq) ?_
  have d:abn q+1=abn (q++[aL (l.getD k 0)]):=nK rfl
  rw [d] at e
  refine (JC (h:=by exact λb=>b.aY (i:=1) (ys:=(q++[aL (l.getD k 0)]).map bD) rfl d (List.map_append.symm))∘Jk 3 (.slice g (abn (q++[aL (l.getD k 0)])) j) (h:=by exact iB d)∘JG∘JR∘dx 1∘Jp 1∘aK∘Jq) λa Z b=>?_
  exact ⟨_,om,k+1,(q++[aL (l.getD k 0)]),g,j,by omega,by rw [u,qo2 f],by rw [abp,p];rfl,e,rfl,Z.sub kr,b.pk [1]⟩
 exact (JF∘JX∘JG∘aJ 2∘aK∘aP∘bC) λb=>Al (by rw [u,abI om]) (b.own (i:=0) rfl) r b.below
def Jt (A:Option Addr) (c n:Nat) (l:List Int) (R:List Nat) (w:World) (a:abn l=n) (hr:Rd w w.heap.size 1 A n (l.map aX)) (b:n<=1000000) (d:l.map aL=R):
  Calls abo 277 #[.slice A n c] w (xP w R):=by
 subst a;subst d
 exact Ua A c l w hr b
def q8k (s:dL) (d:s.st.av.Ok) (f:bY s.st) (w:World) (g:eU w s.st):
    Calls abo 230 #[.agg s.cells] w (xP w (aN s 0)):=by
 refine (eF Tryz.func230 7) ?_
 refine (JP∘JE) λj k=>(Jp 1∘Jr∘Jg 0 O0∘JU kE #[vI s.next]) λl e=>(JK (h:=by exact λa=>Jt (some ⟨e,0,none⟩) 1 1 [s.next] [aL s.next] _ rfl (a.bB (i:=0) (n:=1) (size:=1) rfl rfl) de rfl)) λm o p b=>?_
 have c: [aL s.next].length=1:=rfl
 exact (Jp 1∘dY∘aP∘bC) λa=>Al rfl (a.own (i:=0) rfl) b a.below
def qv4 (s:dL) (c:s.st.av.Ok) (d:bY s.st) (w:World) (k:eU w s.st):
    Calls abo 231 #[.agg s.cells] w (xP w (aN s 1)):=by
 have e:=d.g
 refine (eF Tryz.func231 17) ?_
 exact (JP∘JE) λl m=>(Jp 1∘Jr∘Jf 1∘Jf 0∘Jy (v:= .agg #[vI s.st.au,vQ s.st.aj,abk s.st.gA s.st.gs s.st.gc]) (h:=by exact Pe rfl rfl yJ rfl (λ_ h=>h.sub (i:=0) rfl 1 rfl))∘JA #[vI 0,vQ 0,vN]) λo p=>(JV yJ aO) λb=>(dY∘Jr∘Jg 0 O0∘Jv 1 [(9,vQ (IntKind.u64.wrap s.st.au))]∘Jo (vQ (aL s.st.au)) (by exact QC _)∘Jg 1 O0∘Jg 2 O0∘Jl∘Jw .u64∘JU kD #[vQ (aL s.st.au),vQ s.st.aj,vQ (abn s.st.gs)]) λf j=>(Jp 1∘aH∘Jq∘JC (h:=by exact λa=>(a.fu (i:=0) (n:=3) (size:=1) rfl rfl de).dw (i:=0) (ys:=[aL s.st.au,s.st.aj,abn s.st.gs].map bD) rfl (rfl))∘JG∘JZ∘bC) λa=>Al (q:=[aL s.st.au,s.st.aj,abn s.st.gs]) rfl (a.own (i:=0) rfl) (abr 3) a.below
def qv5 (s:dL) (c:s.st.av.Ok) (d:bY s.st) (w:World) (e:eU w s.st):
    Calls abo 233 #[.agg s.cells] w (xP w (aN s 3)):=by
 refine (eF Tryz.func233 7) ?_
 exact (JP∘JE) λf g=>(Jp 1∘Jr∘Jf 1∘Jg 3 O0∘JK (h:=by exact λa=>Ua s.st.lA s.st.lc s.st.cl _ (a.old e.l) d.l)) λj k m b=>(Jp 1∘dY∘aP∘bC) λa=>Al rfl (a.own (i:=0) rfl) b a.below
def qs4 (s:dL) (c:s.st.av.Ok) (d:bY s.st) (w:World) (e:eU w s.st):
    Calls abo 234 #[.agg s.cells] w (xP w (aN s 4)):=by
 refine (eF Tryz.func234 7) ?_
 exact (JP∘JE) λf g=>(Jp 1∘Jr∘Jf 1∘Jg 4 O0∘JK (h:=by exact λa=>Ua s.st.uA s.st.uc s.st.cu _ (a.old e.u) d.u)) λj k l b=>(Jp 1∘dY∘aP∘bC) λa=>Al rfl (a.own (i:=0) rfl) b a.below
def qv6 (s:dL) (M:s.st.av.Ok) (N:bY s.st) (w:World) (O:eU w s.st) (hc:fD s.st) (u:ShAt s.st):
    Calls abo 232 #[.agg s.cells] w (xP w (aN s 2)):=by
 have P:=N.g;have x:=hc.g
 have y:=(qw (mI u.cfg).2.2.2).1
 obtain ⟨l,d⟩:∃z,(if s.st.gc=1 then s.st.gA else s.st.gA.map (·.add (1*2)))=z:=⟨_,rfl⟩
 have f:=zh4 O.g y x d
 obtain ⟨m,hm⟩:∃z,s.st.gs.drop 1=z:=⟨_,rfl⟩
 have A:abn m=abn s.st.gs-1:=by rw [<-hm,abC]
 rw [hm] at f
 refine (eF Tryz.func232 26) ?_
 refine (JP∘JE) λY Q=>(Jp 1∘bA 1∘Jq∘JC (h:=by exact λb=>b.nil 41 1)∘JG∘JQ∘JP∘Jf 1∘Jf 0∘Jg 2 O1∘Jy (v:= .slice (if s.st.gc=1 then s.st.gA else (s.st.gA:Option Addr).map (·.add (1*2))) (abn s.st.gs-1) (s.st.gc-1)) (h:=by exact aae jh (j:=1) rfl rfl rfl om)∘Jo (.slice l (abn m) (s.st.gc-1)) (by rw [d,A])∘Jl∘bM 1∘JB) λa Z b=>?_
 refine qg (λG R S=>∃(k:Nat) (q:List Nat) (B:Option Addr) (co:Nat),(k<=abn m)/\(q=gI k (yP s.st.gs))/\(abn q=2*k)/\(abn q<=co)/\G=abn m-k/\Fr R 26 [] (ahK 12 k 11 (abn m) [(10,abk l m (s.st.gc-1)),(3,abk B q co),(2,vN)])/\Mem w S [abl B q co bD 41 1,.blk Q s.cells 50]) (m:=abn m-0) ⟨0,[],none,0,abA _,rfl,rfl,abr _,rfl,Z.sub kr,b.pk [0,1]⟩ ?_
 clear Z b;rintro G a w_ ⟨k,q,B,co,hk,H,C,D,rfl,Z,b⟩
 refine Jb Z b ((cO 1∘JQ) (Ji (λo=>?_) λo=>?_))
 ·
  have p:k<abn m:=by omega
  refine (eO∘JP) ?_
  obtain ⟨I,J,rfl,_⟩:=f.sat k
  refine (iC k 2∘pG Gr.cells qK f lU k Gr.zero (hk:=p)∘JA #[vI 0,vI 0]) λw5 g5=>(JV lU aO (h1:=by exact Y6 (m.getD k Gr.zero))) λK=>(bQ∘Jj∘JR∘Jp 1∘Jg 0 O0∘Jg 1 O0∘JU kE #[vI ((m.getD k Gr.zero).parent),vI ((m.getD k Gr.zero).weight)]) λT E=>(JK (h:=by exact λb=>Jt (some ⟨E,0,none⟩) 2 2 [(m.getD k Gr.zero).parent,(m.getD k Gr.zero).weight] [aL (m.getD k Gr.zero).parent,aL (m.getD k Gr.zero).weight] _ rfl (b.bB (i:=0) (n:=2) (size:=1) rfl rfl) de rfl)) λU V W L=>?_
  have F: [aL (m.getD k Gr.zero).parent,aL (m.getD k Gr.zero).weight].length=2:=rfl
  refine (JD ([aL (m.getD k Gr.zero).parent,aL (m.getD k Gr.zero).weight].map bD) 3 (λ_ _=>oV) kD (hr:=by exact λb=>b.rd (i:=0) rfl) (h1:=by exact vM _)) λX r t e=>(Jp 1∘aH∘Jq) ?_
  have c:abn q+([aL (m.getD k Gr.zero).parent,aL (m.getD k Gr.zero).weight].length)=abn (q++[aL (m.getD k Gr.zero).parent,aL (m.getD k Gr.zero).weight]):=nK rfl
  rw [c] at e
  refine (JC (h:=by exact λb=>b.aY (i:=3) (ys:=(q++[aL (m.getD k Gr.zero).parent,aL (m.getD k Gr.zero).weight]).map bD) rfl c (List.map_append.symm))∘Jk 3 (.slice r (abn (q++[aL (m.getD k Gr.zero).parent,aL (m.getD k Gr.zero).weight])) t) (h:=by exact iB c)∘JG∘JR∘dx 1∘Jp 1∘aK∘Jq) λa Z b=>?_
  exact ⟨_,om,k+1,(q++[aL (m.getD k Gr.zero).parent,aL (m.getD k Gr.zero).weight]),r,t,by omega,by rw [H,zp,<-hm,getD_drop];rfl,by rw [abp,C];rfl,e,rfl,Z.sub kr,b.pk [3,4]⟩
 exact (JF∘JX∘JG∘aJ 2∘aK∘aP∘bC) λb=>Al (by rw [H,show k=abn s.st.gs-1 by omega];try rfl) (b.own (i:=0) rfl) D b.below
def q17 (s:dL) (L:s.st.av.Ok) (hf:bY s.st) (w:World) (hx:eU w s.st) (hc:fD s.st) (M:ShAt s.st):
    Calls abo 235 #[.agg s.cells] w (xP w (aN s 5)):=by
 have htl:=hf.t
 refine (eF Tryz.func235 53) ?_
 refine (JP∘JE) λw1 g1=>(Jp 1∘Jr∘Jf 1∘Jg 5 O0∘Jl∘JU kE #[vI (abn s.st.ts)]) λyB F=>(JK (h:=by exact λb=>Jt (some ⟨F,0,none⟩) 1 1 [(abn s.st.ts:Int)] [aL (abn s.st.ts:Int)] _ rfl (b.bB (i:=0) (n:=1) (size:=1) rfl rfl) de rfl)) λG H uY x=>?_
 have N: [aL (abn s.st.ts:Int)].length=1:=rfl
 refine (Jp 1∘kW∘Jq) ?_
 have f: [aL (abn s.st.ts:Int)].length=[abn s.st.ts].length:=rfl
 rw [f] at x
 refine (JC (h:=by exact λb=>b.aY (i:=0) (ys:=[abn s.st.ts].map bD) rfl f (by rw [Zo om]))∘Jk 3 (.slice G ([abn s.st.ts].length) H) (h:=by exact iB f)∘JG∘cO 1∘JQ∘JP∘Jf 1∘Jg 5 O2∘Jl∘bM 1∘JB) λa Z b=>?_
 refine qg (λmS aS wS=>∃(k:Nat) (q:List Nat) (O:Option Addr) (co:Nat),(k<=abn s.st.ts)/\(0<=qx s.st.ts k/\qx s.st.ts k<=65535)/\(q=[abn s.st.ts]++gI k λi=>rD (qx s.st.ts i) (s.st.ts.getD i Tk.zero))/\(abn q=8*k+1)/\(abn q<=co)/\mS=abn s.st.ts-k/\Fr aS 53 [] (ahK 18 k 17 (abn s.st.ts) [(16,abk s.st.tA s.st.ts s.st.tc),(4,vI (qx s.st.ts k)),(3,abk O q co),(2,vN),(1,vP g1 0)])/\Mem w wS [abl O q co bD 41 1,ahJ F (abn s.st.ts),.blk g1 s.cells 50]) (m:=abn s.st.ts-0) ⟨0,[abn s.st.ts],G,H,abA _,by rw [quw];decide,by rw [GI,abP],rfl,x,rfl,Z.sub kr,b.pk [0,1,2]⟩ ?_
 clear Z b;rintro mS a w_ ⟨k,q,O,co,hk,hp,P,hql,Q,rfl,Z,b⟩
 refine Jb Z b ((cO 1∘JQ) (Ji (λI=>?_) λI=>?_))
 ·
  have g:k<abn s.st.ts:=by omega
  obtain ⟨t,ht⟩:∃z,(s.st.ts.getD k Tk.zero)=z:=⟨_,rfl⟩
  have J:=pV (M.tk k g)
  rw [ht] at J
  have A:=L.ts _ (qf Tk.zero g)
  replace A:Tk.Ok t:=by rw [<-ht];exact A
  have htr:=A.r
  refine (eO∘JP) ?_
  obtain ⟨R,S,u,_⟩:=Rd.sat hx.t k
  have y:=hx.t;rw [u] at y
  refine (Jk 16 (.slice (some ⟨R,S,none⟩) (abn s.st.ts) s.st.tc) (h:=by rw [u];try rfl)∘iC k 8∘pG Tk.cells ql y fE k Tk.zero (hk:=g)∘Jo (.agg t.cells) (by rw [ht])∘JA aiA) λw6 g6=>(JV fE aO (h1:=by exact Gu t)) λCe=>(bQ∘bA 1∘Jj∘JQ∘JP∘Jg 5 O0∘Jj) (Ju (λj=>?_) λj=>?_)
  ·
   refine (JT∘JR∘Jp 1∘bA 1∘Jg 0 O0∘Jp 2∘Jo (vI (t.id-qx s.st.ts k)) (by exact mF ⟨by omega,by omega⟩)∘Jg 1 O0∘Jg 2 O0∘Jg 3 O0∘JU kE #[vI (t.id-qx s.st.ts k),vI t.group,vI t.weight,vI t.cpu]) λT B=>(JK (h:=by exact λb=>Jt (some ⟨B,0,none⟩) 4 4 [t.id-qx s.st.ts k,t.group,t.weight,t.cpu] [aL (t.id-qx s.st.ts k),aL t.group,aL t.weight,aL t.cpu] _ rfl (b.bB (i:=0) (n:=4) (size:=1) rfl rfl) de rfl)) λU V W K=>?_
   have C: [aL (t.id-qx s.st.ts k),aL t.group,aL t.weight,aL t.cpu].length=4:=rfl
   refine (JD ([aL (t.id-qx s.st.ts k),aL t.group,aL t.weight,aL t.cpu].map bD) 3 (λ_ _=>oV) kD (hr:=by exact λb=>b.rd (i:=0) rfl) (h1:=by exact vM _)) λX D E l=>(Jp 1∘aH∘Jq) ?_
   have c:abn q+([aL (t.id-qx s.st.ts k),aL t.group,aL t.weight,aL t.cpu].length)=abn (q++[aL (t.id-qx s.st.ts k),aL t.group,aL t.weight,aL t.cpu]):=nK rfl
   rw [c] at l
   refine (JC (h:=by exact λb=>b.aY (i:=3) (ys:=(q++[aL (t.id-qx s.st.ts k),aL t.group,aL t.weight,aL t.cpu]).map bD) rfl c (List.map_append.symm))∘Jk 3 (.slice D (abn (q++[aL (t.id-qx s.st.ts k),aL t.group,aL t.weight,aL t.cpu])) E) (h:=by exact iB c)∘JG∘aJ 1∘Jg 4 O2∘Jp 1∘Jg 6 O2∘Jg 7 O2∘Jw .u64∘JU kD #[vQ t.mask,vQ 1,vQ t.v,vQ t.r]) λY g47=>(JD ([t.mask,1,t.v,t.r].map bD) 4 (λ_ _=>rQ) kD (hr:=by exact λb=>b.bB (i:=0) (n:=4) (size:=1) rfl rfl) (h1:=by exact vM _)) λBU o p e=>(Jp 1∘aH∘Jq) ?_
   have d:(abn (q++[aL (t.id-qx s.st.ts k),aL t.group,aL t.weight,aL t.cpu]))+4=abn ((q++[aL (t.id-qx s.st.ts k),aL t.group,aL t.weight,aL t.cpu])++[t.mask,1,t.v,t.r]):=nK rfl
   rw [d] at e
   refine (JC (h:=by exact λb=>b.aY (i:=4) (ys:=((q++[aL (t.id-qx s.st.ts k),aL t.group,aL t.weight,aL t.cpu])++[t.mask,1,t.v,t.r]).map bD) rfl d (List.map_append.symm))∘Jk 3 (.slice o (abn ((q++[aL (t.id-qx s.st.ts k),aL t.group,aL t.weight,aL t.cpu])++[t.mask,1,t.v,t.r])) p) (h:=by exact iB d)∘JG∘JR∘Jf 0∘Jc O3∘Jo (vI (qx s.st.ts (k+1))) (by rw [GK,ht])∘Jp 1∘bQ∘Jj∘JR∘dx 1∘Jp 1∘aK∘Jq) λa Z b=>?_
   replace Z:=Z.sp 16 (abk s.st.tA s.st.ts s.st.tc) rfl (by rw [u])
   exact ⟨_,om,k+1,(q++[aL (t.id-qx s.st.ts k),aL t.group,aL t.weight,aL t.cpu]++[t.mask,1,t.v,t.r]),o,p,by omega,by rw [GK,ht];omega,by rw [P,zp,ht,GL j,abu,abu],by (simp only [abp,abT,aec];omega),e,rfl,Z.sub kr,b.pk [4,5,6]⟩
  refine (aU∘aJ 1∘Jg 0 O0∘Jp 2∘Jo (vI (t.id-qx s.st.ts k)) (by exact mF ⟨by omega,by omega⟩)∘Jg 1 O0∘Jg 2 O0∘Jg 3 O0∘JU kE #[vI (t.id-qx s.st.ts k),vI t.group,vI t.weight,vI t.cpu]) λT B=>(JK (h:=by exact λb=>Jt (some ⟨B,0,none⟩) 4 4 [t.id-qx s.st.ts k,t.group,t.weight,t.cpu] [aL (t.id-qx s.st.ts k),aL t.group,aL t.weight,aL t.cpu] _ rfl (b.bB (i:=0) (n:=4) (size:=1) rfl rfl) de rfl)) λU V W K=>?_
  have C: [aL (t.id-qx s.st.ts k),aL t.group,aL t.weight,aL t.cpu].length=4:=rfl
  refine (JD ([aL (t.id-qx s.st.ts k),aL t.group,aL t.weight,aL t.cpu].map bD) 3 (λ_ _=>oV) kD (hr:=by exact λb=>b.rd (i:=0) rfl) (h1:=by exact vM _)) λX D E l=>(Jp 1∘aH∘Jq) ?_
  have c:abn q+([aL (t.id-qx s.st.ts k),aL t.group,aL t.weight,aL t.cpu].length)=abn (q++[aL (t.id-qx s.st.ts k),aL t.group,aL t.weight,aL t.cpu]):=nK rfl
  rw [c] at l
  refine (JC (h:=by exact λb=>b.aY (i:=3) (ys:=(q++[aL (t.id-qx s.st.ts k),aL t.group,aL t.weight,aL t.cpu]).map bD) rfl c (List.map_append.symm))∘Jk 3 (.slice D (abn (q++[aL (t.id-qx s.st.ts k),aL t.group,aL t.weight,aL t.cpu])) E) (h:=by exact iB c)∘JG∘aJ 1∘Jg 4 O2∘Jp 1∘Jg 6 O2∘Jg 7 O2∘Jw .u64∘JU kD #[vQ t.mask,vQ 0,vQ t.v,vQ t.r]) λY g47=>(JD ([t.mask,0,t.v,t.r].map bD) 4 (λ_ _=>rQ) kD (hr:=by exact λb=>b.bB (i:=0) (n:=4) (size:=1) rfl rfl) (h1:=by exact vM _)) λBU o p e=>(Jp 1∘aH∘Jq) ?_
  have d:(abn (q++[aL (t.id-qx s.st.ts k),aL t.group,aL t.weight,aL t.cpu]))+4=abn ((q++[aL (t.id-qx s.st.ts k),aL t.group,aL t.weight,aL t.cpu])++[t.mask,0,t.v,t.r]):=nK rfl
  rw [d] at e
  refine (JC (h:=by exact λb=>b.aY (i:=4) (ys:=((q++[aL (t.id-qx s.st.ts k),aL t.group,aL t.weight,aL t.cpu])++[t.mask,0,t.v,t.r]).map bD) rfl d (List.map_append.symm))∘Jk 3 (.slice o (abn ((q++[aL (t.id-qx s.st.ts k),aL t.group,aL t.weight,aL t.cpu])++[t.mask,0,t.v,t.r])) p) (h:=by exact iB d)∘JG∘JR∘Jf 0∘Jc O3∘Jo (vI (qx s.st.ts (k+1))) (by rw [GK,ht])∘Jp 1∘bQ∘Jj∘JR∘dx 1∘Jp 1∘aK∘Jq) λa Z b=>?_
  replace Z:=Z.sp 16 (abk s.st.tA s.st.ts s.st.tc) rfl (by rw [u])
  exact ⟨_,om,k+1,(q++[aL (t.id-qx s.st.ts k),aL t.group,aL t.weight,aL t.cpu]++[t.mask,0,t.v,t.r]),o,p,by omega,by rw [GK,ht];omega,by rw [P,zp,ht,GN j,abu,abu],by (simp only [abp,abT,aec];omega),e,rfl,Z.sub kr,b.pk [4,5,6]⟩
 exact (JF∘JX∘JG∘aJ 2∘aK∘aP∘bC) λb=>Al (by rw [P,show k=abn s.st.ts by omega];try rfl) (b.own (i:=0) rfl) Q b.below
def q18 (s:dL) (Q:s.st.av.Ok) (hf:bY s.st) (w:World) (R:eU w s.st) (hc:fD s.st) (F:ShAt s.st):
    Calls abo 236 #[.agg s.cells] w (xP w (aN s 6)):=by
 have hrl:=hf.s
 obtain ⟨hc1,hc2,_,_⟩:=mI F.cfg
 refine (eF Tryz.func236 41) ?_
 refine (JP∘JE) λw1 g1=>(Jp 1∘bA 1∘Jq∘JC (h:=by exact λb=>b.nil 41 1)∘JG∘JQ∘JP∘Jf 1∘Jg 6 O1∘Jl∘bM 1∘JB) λa Z b=>?_
 refine qg (λG S T=>∃(g:Nat) (q:List Nat) (p:Option Addr) (co:Nat),(g<=abn s.st.rs)/\(q=gI g λi=>yQ i (s.st.rs.getD i Rw.zero).l)/\(abn q<=192*g)/\(abn q<=co)/\G=abn s.st.rs-g/\Fr S 41 [] (ahK 12 g 11 (abn s.st.rs) [(10,abk s.st.sA s.st.rs s.st.sc),(3,abk p q co),(2,vN)])/\Mem w T [abl p q co bD 41 1,.blk g1 s.cells 50]) (m:=abn s.st.rs-0) ⟨0,[],none,0,abA _,rfl,abr _,abr _,rfl,Z.sub kr,b.pk [0,1]⟩ ?_
 clear Z b;rintro G a w_ ⟨g,q,p,co,hg,E,U,t,rfl,Z,b⟩
 refine Jb Z b ((cO 1∘JQ) (Ji (λH=>?_) λH=>?_))
 ·
  have e:g<abn s.st.rs:=by omega
  obtain ⟨y,I⟩:∃z,s.st.rs.getD g Rw.zero=z:=⟨_,rfl⟩
  have J:Rd w w.heap.size 3 y.A (abn y.l) (y.l.flatMap jk):=by rw [<-I];exact R.row e
  have hyl:(abn y.l:Int)=s.st.au:=by rw [<-I];exact (Co e (F.row g e)).1
  have V:∀z∈y.l,z.Ok:=by rw [<-I,<-jW e];exact Q.sp _ (qf [] (by rw [lG];exact e))
  refine (eO∘aJ 1) ?_
  obtain ⟨K,L,D,_⟩:=Rd.sat R.s g
  have x:=R.s;rw [D] at x
  refine (Jk 10 (.slice (some ⟨K,L,none⟩) (abn s.st.rs) s.st.sc) (h:=by rw [D];try rfl)∘iC g 1∘Jy (v:= .slice ((s.st.rs.getD g Rw.zero).A) ((s.st.rs.getD g Rw.zero).l.length) ((s.st.rs.getD g Rw.zero).c)) (h:=by exact aad x g Rw.zero e rfl rfl)∘Jo (.slice y.A (abn y.l) y.c) (by rw [I])∘Jp 2∘bA 1∘Jl∘bM 1∘JB) λa Z b=>?_
  refine qg (λG S T=>∃(c:Nat) (q:List Nat) (p:Option Addr) (co:Nat),(c<=abn y.l)/\(q=(gI g λi=>yQ i (s.st.rs.getD i Rw.zero).l)++gI c λi=>vL g (y.l.getD i Sp.zero))/\(abn q<=192*g+3*c)/\(abn q<=co)/\G=abn y.l-c/\Fr S 41 [] (ahK 19 c 18 (abn y.l) ((17,abk y.A y.l y.c)::(5,abk y.A y.l y.c)::(4,vI g)::(10,abk (some ⟨K,L,none⟩) s.st.rs s.st.sc)::(13,.bool true)::ahK 12 g 11 (abn s.st.rs) [(3,abk p q co),(2,vN)]))/\Mem w T [abl p q co bD 41 1,.blk g1 s.cells 50]) (m:=abn y.l-0) ⟨0,q,p,co,abA _,by rw [E,GI,abP],by omega,t,rfl,Z.sub kr,b.pk [0,1]⟩ ?_
  clear Z b;rintro G a w_ ⟨c,q,p,co,hc,E,U,t,rfl,Z,b⟩
  refine Jb Z b ((cO 1∘JQ) (Ji (λM=>?_) λM=>?_))
  ·
   have B:c<abn y.l:=by omega
   obtain ⟨z,hz⟩:∃q,(y.l.getD c Sp.zero)=q:=⟨_,rfl⟩
   have N:=V _ (qf Sp.zero B)
   rw [hz] at N
   have hzr:=N.r
   refine (eO∘JP) ?_
   obtain ⟨W,X,u,_⟩:=Rd.sat J c
   have C:=J;rw [u] at C
   refine (Jk 17 (.slice (some ⟨W,X,none⟩) (abn y.l) y.c) (h:=by rw [u];try rfl)∘iC c 3∘pG Sp.cells Ck C nX c Sp.zero (hk:=B)∘Jo (.agg z.cells) (by rw [hz])∘JA #[vQ 0,vW 0,vQ 0]) λw7 g7=>(JV nX aO (h1:=by exact Y7 z)) λaqP=>(bQ∘Jj∘bN 2∘aK∘Jj) (Ji (λO=>?_) λO=>?_)
   ·
    refine (JT∘JR∘Jp 1∘Jg 0 O0∘Jg 1 O0∘Jw .u64∘JU kD #[vQ z.v,vQ z.r]) λGc g31=>(JD ([z.v,z.r].map bD) 2 (λ_ _=>iq) kD (hr:=by exact λb=>b.bB (i:=0) (n:=2) (size:=1) rfl rfl) (h1:=by exact vM _)) λw32 Y c32 P=>(Jp 1∘aH∘Jq) ?_
    have j:abn q+2=abn (q++[z.v,z.r]):=nK rfl
    rw [j] at P
    refine (JC (h:=by exact λb=>b.aY (i:=2) (ys:=(q++[z.v,z.r]).map bD) rfl j (List.map_append.symm))∘Jk 3 (.slice Y (abn (q++[z.v,z.r])) c32) (h:=by exact iB j)∘JG∘JR∘Jp 1∘Jg 2 O1∘JU kD #[vQ z.floor]) λw36 g36=>(JD ([z.floor].map bD) 3 (λ_ _=>oV) kD (hr:=by exact λb=>b.bB (i:=0) (n:=1) (size:=1) rfl rfl) (h1:=by exact vM _)) λD5 k o f=>(Jp 1∘gq∘Jq) ?_
    have d:(abn (q++[z.v,z.r]))+1=abn ((q++[z.v,z.r])++[z.floor]):=nK rfl
    rw [d] at f
    refine (JC (h:=by exact λb=>b.aY (i:=3) (ys:=((q++[z.v,z.r])++[z.floor]).map bD) rfl d (List.map_append.symm))∘Jk 3 (.slice k (abn ((q++[z.v,z.r])++[z.floor])) o) (h:=by exact iB d)∘JG∘JR∘dx 1∘Jp 1∘aK∘Jq) λa Z b=>?_
    replace Z:=Z.sp 17 (abk y.A y.l y.c) rfl (by rw [u])
    exact ⟨_,om,c+1,((q++[z.v,z.r])++[z.floor]),k,o,by omega,by rw [E,zp,hz,Zp om];simp only [abu],by (simp only [abp,abT,aec];omega),f,rfl,Z.sub kr,b.pk [3,4]⟩
   refine (aU∘JR∘Jp 1∘Jg 2 O0∘JU kD #[vQ z.floor]) λw36 g36=>(JD ([z.floor].map bD) 2 (λ_ _=>iq) kD (hr:=by exact λb=>b.bB (i:=0) (n:=1) (size:=1) rfl rfl) (h1:=by exact vM _)) λD5 k o f=>(Jp 1∘gq∘Jq) ?_
   have d:abn q+1=abn (q++[z.floor]):=nK rfl
   rw [d] at f
   refine (JC (h:=by exact λb=>b.aY (i:=2) (ys:=(q++[z.floor]).map bD) rfl d (List.map_append.symm))∘Jk 3 (.slice k (abn (q++[z.floor])) o) (h:=by exact iB d)∘JG∘JR∘dx 1∘Jp 1∘aK∘Jq) λa Z b=>?_
   replace Z:=Z.sp 17 (abk y.A y.l y.c) rfl (by rw [u])
   exact ⟨_,om,c+1,(q++[z.floor]),k,o,by omega,by rw [E,zp,hz,Zq om,abu],by (simp only [abp,abT,aec];omega),f,rfl,Z.sub kr,b.pk [2,3]⟩
  refine (JF∘JX∘JG∘JR∘dx 1∘Jp 1∘aK∘Jq) λa Z b=>?_
  replace Z:=Z.sp 10 (abk s.st.sA s.st.rs s.st.sc) rfl (by rw [D])
  exact ⟨_,om,g+1,q,p,co,by omega,by rw [E,show c=abn y.l by omega,zp,I];rfl,by omega,t,rfl,Z.sub kr,b.pk [0,1]⟩
 exact (JF∘JX∘JG∘aJ 2∘aK∘aP∘bC) λb=>Al (by rw [E,show g=abn s.st.rs by omega];try rfl) (b.own (i:=0) rfl) t b.below
def su:SI abo 362 2:=⟨by kernel_rfl,by kernel_rfl⟩
def zjw:EI abo 363 362 (.agg #[.string (aby #[]),.nilFunc]) 2 24:=⟨by kernel_rfl,by kernel_rfl,rfl,by omega⟩
def q5 (s:dL):Array Value:= #[.string (aby #[110,101,120,116]),.func (.func 230) #[.agg s.cells] #[],.string (aby #[99,111,110,102,105,103]),.func (.func 231) #[.agg s.cells] #[],.string (aby #[103,114,111,117,112,115]),.func (.func 232) #[.agg s.cells] #[],.string (aby #[99,108,111,99,107,115]),.func (.func 233) #[.agg s.cells] #[],.string (aby #[99,117,114,114,101,110,116]),.func (.func 234) #[.agg s.cells] #[],.string (aby #[116,97,115,107,115]),.func (.func 235) #[.agg s.cells] #[],.string (aby #[115,112,111,116,115]),.func (.func 236) #[.agg s.cells] #[]]
def qyv (P:Program) (W:World) (a:Nat) (s:dL) (Inv:Nat->List Fact->Prop):Prop:=
 ∀(i:Nat) (F fr:List Fact) (w:World) (A:Option Addr) (c:Nat),Inv i F->i<7->abn (aN s i)<=c->Mem W w (.row (.slice A (abn (aN s i)) c) (abn (aN s i)) ((aN s i).map bD) 41 1::(F++fr))->YieldAt ab4 0 P a #[.string (qb i),.slice A (abn (aN s i)) c] w (Qr W fr (Inv (i+1)))
def q8l (s:dL) (w:World):
    Calls abo 166 #[.agg s.cells] w λr e=>∃d gp,r= .returned (.func (.func 237) #[] #[vP d 0])/\Mem w e [.blk d #[.slice (some ⟨gp,0,none⟩) 7 7] 363,.blk gp (q5 s) 362]:=by
 refine (eF Tryz.func166 27) ?_
 refine (JP∘JE) λj k=>(Jp 1∘Jr∘dZ zx O0∘Jy (h:=by exact Yl.makeFunc (fst:=[.agg s.cells]) (caps:=[]) rfl rfl rfl)∘eH #[.string (aby #[110,101,120,116]),.func (.func 230) #[.agg s.cells] #[]]∘dZ zx O0∘Jy (h:=by exact Yl.makeFunc (fst:=[.agg s.cells]) (caps:=[]) rfl rfl rfl)∘eH #[.string (aby #[99,111,110,102,105,103]),.func (.func 231) #[.agg s.cells] #[]]∘dZ zx O0∘Jy (h:=by exact Yl.makeFunc (fst:=[.agg s.cells]) (caps:=[]) rfl rfl rfl)∘eH #[.string (aby #[103,114,111,117,112,115]),.func (.func 232) #[.agg s.cells] #[]]∘dZ zx O0∘Jy (h:=by exact Yl.makeFunc (fst:=[.agg s.cells]) (caps:=[]) rfl rfl rfl)∘eH #[.string (aby #[99,108,111,99,107,115]),.func (.func 233) #[.agg s.cells] #[]]∘dZ zx O0∘Jy (h:=by exact Yl.makeFunc (fst:=[.agg s.cells]) (caps:=[]) rfl rfl rfl)∘eH #[.string (aby #[99,117,114,114,101,110,116]),.func (.func 234) #[.agg s.cells] #[]]∘dZ zx O0∘Jy (h:=by exact Yl.makeFunc (fst:=[.agg s.cells]) (caps:=[]) rfl rfl rfl)∘eH #[.string (aby #[116,97,115,107,115]),.func (.func 235) #[.agg s.cells] #[]]∘dZ zx O0∘Jy (h:=by exact Yl.makeFunc (fst:=[.agg s.cells]) (caps:=[]) rfl rfl rfl)∘eH #[.string (aby #[115,112,111,116,115]),.func (.func 236) #[.agg s.cells] #[]]) λa Z b=>?_
 refine fo Z 21 rfl rfl (jl Z b zjw [(0,.agg #[.string (aby #[110,101,120,116]),.func (.func 230) #[.agg s.cells] #[]]),(1,.agg #[.string (aby #[99,111,110,102,105,103]),.func (.func 231) #[.agg s.cells] #[]]),(2,.agg #[.string (aby #[103,114,111,117,112,115]),.func (.func 232) #[.agg s.cells] #[]]),(3,.agg #[.string (aby #[99,108,111,99,107,115]),.func (.func 233) #[.agg s.cells] #[]]),(4,.agg #[.string (aby #[99,117,114,114,101,110,116]),.func (.func 234) #[.agg s.cells] #[]]),(5,.agg #[.string (aby #[116,97,115,107,115]),.func (.func 235) #[.agg s.cells] #[]]),(6,.agg #[.string (aby #[115,112,111,116,115]),.func (.func 236) #[.agg s.cells] #[]])] (q5 s) ?_)
 clear Z b;intro a f g Z b
 exact Jb Z b ((JA #[vN]) λl i=>(JW aO aO) λc=>(aH∘Jr∘Jy (h:=by exact Yl.makeFunc (fst:=[]) (caps:=[vP i 0]) rfl rfl rfl)∘Jp 1∘aK∘aP∘bC) λb=>by exact ⟨_,_,rfl,b.pk [0,1]⟩)
abbrev ahz:=λa b c d=>(.blk a #[vS b 7 7] 363::.blk b (q5 c) 362::d:List Fact)
abbrev ahL:=λa b=>(.blk a #[.string (aby #[99,117,114,114,101,110,116]),.func (.func 234) #[.agg b] #[]] 362:Fact)
abbrev ahM:=λa b=>(.blk a #[.string (aby #[103,114,111,117,112,115]),.func (.func 232) #[.agg b] #[]] 362:Fact)
abbrev ahN:=λa b=>(.blk a #[.string (aby #[99,111,110,102,105,103]),.func (.func 231) #[.agg b] #[]] 362:Fact)
abbrev ahO:=λa b=>(.blk a #[.string (aby #[99,108,111,99,107,115]),.func (.func 233) #[.agg b] #[]] 362:Fact)
abbrev ahR:=λa b=>(.blk a #[.string (aby #[115,112,111,116,115]),.func (.func 236) #[.agg b] #[]] 362:Fact)
abbrev ahT:=λa b=>(.blk a #[.string (aby #[116,97,115,107,115]),.func (.func 235) #[.agg b] #[]] 362:Fact)
abbrev ahW:=λa b=>(.blk a #[.string (aby #[110,101,120,116]),.func (.func 230) #[.agg b] #[]] 362:Fact)
abbrev ah3:=λa b c=>((14,vP a 1)::(12,vP a 0)::(11,.func (.yield b) #[] #[])::c:List (Nat×Go.Value))
def q19 (W w:World) (g gp u:Nat) (s:dL) (x:s.st.av.Ok) (C:bY s.st) (D:eU W s.st) (hc:fD s.st) (E:ShAt s.st) (Inv:Nat->List Fact->Prop) (H:List Fact) (hy:qyv abo W u s Inv) (I:Inv 0 H) (b:Mem W w (.blk g #[.slice (some ⟨gp,0,none⟩) 7 7] 363:: .blk gp (q5 s) 362::H)):
    Calls abo 237 (.func (.yield u) #[] #[]:: [vP g 0]).toArray w (Y9 W (Inv 7)):=by
 refine oD Tryz.func237 [.func (.yield u) #[] #[],vP g 0] [ahS u,(1,vP g 0)] λa Z=>?_
 refine Jb Z b ((JP∘Jc O0∘Jl∘bM 1∘JB) λa Z b=>?_)
 refine qg (λK L M=>∃(k:Nat) (F:List Fact),(k<=7)/\(Inv k F)/\K=7-k/\Fr L 20 [] [(7,vI k),(6,vI 7),(5,vS gp 7 7),ahS u]/\Mem W M (ahz g gp s F)) (m:=7-0) ⟨0,H,by decide,I,rfl,Z.sub kr,b.pt 2 [0,1]⟩ ?_
 clear Z b;rintro K a N ⟨k,F,O,B,rfl,Z,b⟩
 refine Jb Z b ((cO 1∘JQ) (Ji (λJ=>?_) λJ=>?_))
 ·
  repeat (first|clear Z|clear b)
  intro a Z b
  obtain rfl|rfl|rfl|rfl|rfl|rfl|rfl:k=0\/k=1\/k=2\/k=3\/k=4\/k=5\/k=6:=by omega
  ·
   replace Z:=Z.sp 7 (vI 0) rfl rfl
   refine Jb Z b ((eO∘JP∘Jy (v:=vP gp 0) (h:=by exact Yl.indexAddr (ad:=⟨gp,0,none⟩) (y:=0) (sz:=2) rfl rfl rfl de kr)∘Jy (v:= .agg #[.string (aby #[110,101,120,116]),.func (.func 230) #[.agg s.cells] #[]]) (h:=by exact Pe rfl rfl su rfl (λ_ h=>h.sub (i:=1) rfl 0 rfl))∘JA #[.string (aby #[]),.nilFunc]) λG c=>(JV su aO) λr=>(bQ∘Jj) λa Z b=>?_)
   refine wp_seq ?_
   refine Di 6 b (ahW c s.cells::ahz g gp s F) 3 [0,1,2] [] λb l=>?_
   refine ap Z (λ_=>l) [0,1,3] (bf 6 [0,1,3]) (ah3 c u []) λa Z=>?_
   refine dD Z l 2 0 λa Z=>?_
   refine dD Z l 4 0 λa Z=>?_
   refine s_on Z 5 rfl ?_
   refine zg Z (f:=230) (vs:=[]) (fst:=[.agg s.cells]) (caps:=[]) rfl rfl rfl kr rfl de (q8k s x C _ (D.old b)) ?_
   rintro _ z ⟨⟨d,e,rfl,A,j⟩,n⟩
   refine ⟨_,rfl,?_⟩
   replace b:=b.bX n A
   clear Z;intro a Z
   refine ay (b.pt 4 [1,2,3]) (λl=>?_)
   refine qe kr ?_
   replace b:=b.pt (fs':=(abl d (aN s 0) e bD 41 1::ahW c s.cells::ahz g gp s F)) 4 [0,1,2,3]
   refine uN Z (i:=6) (vs:=[.string (aby #[110,101,120,116]),abk d (aN s 0) e]) rfl rfl rfl rfl rfl rfl de (hy 0 F (ahW c s.cells::ahz g gp s []) _ d e B om j (aam (es:=(ahW c s.cells::ahz g gp s [])) b)) zk ?_
   clear Z b;rintro v o a ⟨t,b,p,q⟩ Z;injection p with p;subst p
   replace b:Mem W o (ahW c s.cells::ahz g gp s t):=aah (es:=(ahW c s.cells::ahz g gp s [])) b
   replace Z:=Z.to [(17,.bool true),(7,vI 0),(6,vI 7),(5,vS gp 7 7),ahS u]
   refine Jb Z b ((Jp 1∘aK∘Jq∘aU∘JR∘Jv 2 [(7,vI 1)]∘Jq) λa Z b=>?_)
   exact ⟨_,om,1,t,by omega,q,rfl,Z.sub kr,b.pt 3 [1,2]⟩
  ·
   replace Z:=Z.sp 7 (vI 1) rfl rfl
   refine Jb Z b ((eO∘JP∘Jy (v:=vP gp 2) (h:=by exact Yl.indexAddr (ad:=⟨gp,0,none⟩) (y:=1) (sz:=2) rfl rfl rfl de kr)∘Jy (v:= .agg #[.string (aby #[99,111,110,102,105,103]),.func (.func 231) #[.agg s.cells] #[]]) (h:=by exact Pe rfl rfl su rfl (λ_ h=>h.sub (i:=1) rfl 2 rfl))∘JA #[.string (aby #[]),.nilFunc]) λG c=>(JV su aO) λr=>(bQ∘Jj) λa Z b=>?_)
   refine wp_seq ?_
   refine Di 6 b (ahN c s.cells::ahz g gp s F) 3 [0,1,2] [] λb l=>?_
   refine ap Z (λ_=>l) [0,1,3] (bf 6 [0,1,3]) (ah3 c u []) λa Z=>?_
   refine dD Z l 2 0 λa Z=>?_
   refine dD Z l 4 0 λa Z=>?_
   refine s_on Z 5 rfl ?_
   refine zg Z (f:=231) (vs:=[]) (fst:=[.agg s.cells]) (caps:=[]) rfl rfl rfl kr rfl de (qv4 s x C _ (D.old b)) ?_
   rintro _ z ⟨⟨d,e,rfl,A,j⟩,n⟩
   refine ⟨_,rfl,?_⟩
   replace b:=b.bX n A
   clear Z;intro a Z
   refine ay (b.pt 4 [1,2,3]) (λl=>?_)
   refine qe kr ?_
   replace b:=b.pt (fs':=(abl d (aN s 1) e bD 41 1::ahN c s.cells::ahz g gp s F)) 4 [0,1,2,3]
   refine uN Z (i:=6) (vs:=[.string (aby #[99,111,110,102,105,103]),abk d (aN s 1) e]) rfl rfl rfl rfl rfl rfl de (hy 1 F (ahN c s.cells::ahz g gp s []) _ d e B om j (aam (es:=(ahN c s.cells::ahz g gp s [])) b)) zk ?_
   clear Z b;rintro v o a ⟨t,b,p,q⟩ Z;injection p with p;subst p
   replace b:Mem W o (ahN c s.cells::ahz g gp s t):=aah (es:=(ahN c s.cells::ahz g gp s [])) b
   replace Z:=Z.to [(17,.bool true),(7,vI 1),(6,vI 7),(5,vS gp 7 7),ahS u]
   refine Jb Z b ((Jp 1∘aK∘Jq∘aU∘JR∘Jv 2 [(7,vI 2)]∘Jq) λa Z b=>?_)
   exact ⟨_,om,2,t,by omega,q,rfl,Z.sub kr,b.pt 3 [1,2]⟩
  ·
   replace Z:=Z.sp 7 (vI 2) rfl rfl
   refine Jb Z b ((eO∘JP∘Jy (v:=vP gp 4) (h:=by exact Yl.indexAddr (ad:=⟨gp,0,none⟩) (y:=2) (sz:=2) rfl rfl rfl de kr)∘Jy (v:= .agg #[.string (aby #[103,114,111,117,112,115]),.func (.func 232) #[.agg s.cells] #[]]) (h:=by exact Pe rfl rfl su rfl (λ_ h=>h.sub (i:=1) rfl 4 rfl))∘JA #[.string (aby #[]),.nilFunc]) λG c=>(JV su aO) λr=>(bQ∘Jj) λa Z b=>?_)
   refine wp_seq ?_
   refine Di 6 b (ahM c s.cells::ahz g gp s F) 3 [0,1,2] [] λb l=>?_
   refine ap Z (λ_=>l) [0,1,3] (bf 6 [0,1,3]) (ah3 c u []) λa Z=>?_
   refine dD Z l 2 0 λa Z=>?_
   refine dD Z l 4 0 λa Z=>?_
   refine s_on Z 5 rfl ?_
   refine zg Z (f:=232) (vs:=[]) (fst:=[.agg s.cells]) (caps:=[]) rfl rfl rfl kr rfl de (qv6 s x C _ (D.old b) hc E) ?_
   rintro _ z ⟨⟨d,e,rfl,A,j⟩,n⟩
   refine ⟨_,rfl,?_⟩
   replace b:=b.bX n A
   clear Z;intro a Z
   refine ay (b.pt 4 [1,2,3]) (λl=>?_)
   refine qe kr ?_
   replace b:=b.pt (fs':=(abl d (aN s 2) e bD 41 1::ahM c s.cells::ahz g gp s F)) 4 [0,1,2,3]
   refine uN Z (i:=6) (vs:=[.string (aby #[103,114,111,117,112,115]),abk d (aN s 2) e]) rfl rfl rfl rfl rfl rfl de (hy 2 F (ahM c s.cells::ahz g gp s []) _ d e B om j (aam (es:=(ahM c s.cells::ahz g gp s [])) b)) zk ?_
   clear Z b;rintro v o a ⟨t,b,p,q⟩ Z;injection p with p;subst p
   replace b:Mem W o (ahM c s.cells::ahz g gp s t):=aah (es:=(ahM c s.cells::ahz g gp s [])) b
   replace Z:=Z.to [(17,.bool true),(7,vI 2),(6,vI 7),(5,vS gp 7 7),ahS u]
   refine Jb Z b ((Jp 1∘aK∘Jq∘aU∘JR∘Jv 2 [(7,vI 3)]∘Jq) λa Z b=>?_)
   exact ⟨_,om,3,t,by omega,q,rfl,Z.sub kr,b.pt 3 [1,2]⟩
  ·
   replace Z:=Z.sp 7 (vI 3) rfl rfl
   refine Jb Z b ((eO∘JP∘Jy (v:=vP gp 6) (h:=by exact Yl.indexAddr (ad:=⟨gp,0,none⟩) (y:=3) (sz:=2) rfl rfl rfl de kr)∘Jy (v:= .agg #[.string (aby #[99,108,111,99,107,115]),.func (.func 233) #[.agg s.cells] #[]]) (h:=by exact Pe rfl rfl su rfl (λ_ h=>h.sub (i:=1) rfl 6 rfl))∘JA #[.string (aby #[]),.nilFunc]) λG c=>(JV su aO) λr=>(bQ∘Jj) λa Z b=>?_)
   refine wp_seq ?_
   refine Di 6 b (ahO c s.cells::ahz g gp s F) 3 [0,1,2] [] λb l=>?_
   refine ap Z (λ_=>l) [0,1,3] (bf 6 [0,1,3]) (ah3 c u []) λa Z=>?_
   refine dD Z l 2 0 λa Z=>?_
   refine dD Z l 4 0 λa Z=>?_
   refine s_on Z 5 rfl ?_
   refine zg Z (f:=233) (vs:=[]) (fst:=[.agg s.cells]) (caps:=[]) rfl rfl rfl kr rfl de (qv5 s x C _ (D.old b)) ?_
   rintro _ z ⟨⟨d,e,rfl,A,j⟩,n⟩
   refine ⟨_,rfl,?_⟩
   replace b:=b.bX n A
   clear Z;intro a Z
   refine ay (b.pt 4 [1,2,3]) (λl=>?_)
   refine qe kr ?_
   replace b:=b.pt (fs':=(abl d (aN s 3) e bD 41 1::ahO c s.cells::ahz g gp s F)) 4 [0,1,2,3]
   refine uN Z (i:=6) (vs:=[.string (aby #[99,108,111,99,107,115]),abk d (aN s 3) e]) rfl rfl rfl rfl rfl rfl de (hy 3 F (ahO c s.cells::ahz g gp s []) _ d e B om j (aam (es:=(ahO c s.cells::ahz g gp s [])) b)) zk ?_
   clear Z b;rintro v o a ⟨t,b,p,q⟩ Z;injection p with p;subst p
   replace b:Mem W o (ahO c s.cells::ahz g gp s t):=aah (es:=(ahO c s.cells::ahz g gp s [])) b
   replace Z:=Z.to [(17,.bool true),(7,vI 3),(6,vI 7),(5,vS gp 7 7),ahS u]
   refine Jb Z b ((Jp 1∘aK∘Jq∘aU∘JR∘Jv 2 [(7,vI 4)]∘Jq) λa Z b=>?_)
   exact ⟨_,om,4,t,by omega,q,rfl,Z.sub kr,b.pt 3 [1,2]⟩
  ·
   replace Z:=Z.sp 7 (vI 4) rfl rfl
   refine Jb Z b ((eO∘JP∘Jy (v:=vP gp 8) (h:=by exact Yl.indexAddr (ad:=⟨gp,0,none⟩) (y:=4) (sz:=2) rfl rfl rfl de kr)∘Jy (v:= .agg #[.string (aby #[99,117,114,114,101,110,116]),.func (.func 234) #[.agg s.cells] #[]]) (h:=by exact Pe rfl rfl su rfl (λ_ h=>h.sub (i:=1) rfl 8 rfl))∘JA #[.string (aby #[]),.nilFunc]) λG c=>(JV su aO) λr=>(bQ∘Jj) λa Z b=>?_)
   refine wp_seq ?_
   refine Di 6 b (ahL c s.cells::ahz g gp s F) 3 [0,1,2] [] λb l=>?_
   refine ap Z (λ_=>l) [0,1,3] (bf 6 [0,1,3]) (ah3 c u []) λa Z=>?_
   refine dD Z l 2 0 λa Z=>?_
   refine dD Z l 4 0 λa Z=>?_
   refine s_on Z 5 rfl ?_
   refine zg Z (f:=234) (vs:=[]) (fst:=[.agg s.cells]) (caps:=[]) rfl rfl rfl kr rfl de (qs4 s x C _ (D.old b)) ?_
   rintro _ z ⟨⟨d,e,rfl,A,j⟩,n⟩
   refine ⟨_,rfl,?_⟩
   replace b:=b.bX n A
   clear Z;intro a Z
   refine ay (b.pt 4 [1,2,3]) (λl=>?_)
   refine qe kr ?_
   replace b:=b.pt (fs':=(abl d (aN s 4) e bD 41 1::ahL c s.cells::ahz g gp s F)) 4 [0,1,2,3]
   refine uN Z (i:=6) (vs:=[.string (aby #[99,117,114,114,101,110,116]),abk d (aN s 4) e]) rfl rfl rfl rfl rfl rfl de (hy 4 F (ahL c s.cells::ahz g gp s []) _ d e B om j (aam (es:=(ahL c s.cells::ahz g gp s [])) b)) zk ?_
   clear Z b;rintro v o a ⟨t,b,p,q⟩ Z;injection p with p;subst p
   replace b:Mem W o (ahL c s.cells::ahz g gp s t):=aah (es:=(ahL c s.cells::ahz g gp s [])) b
   replace Z:=Z.to [(17,.bool true),(7,vI 4),(6,vI 7),(5,vS gp 7 7),ahS u]
   refine Jb Z b ((Jp 1∘aK∘Jq∘aU∘JR∘Jv 2 [(7,vI 5)]∘Jq) λa Z b=>?_)
   exact ⟨_,om,5,t,by omega,q,rfl,Z.sub kr,b.pt 3 [1,2]⟩
  ·
   replace Z:=Z.sp 7 (vI 5) rfl rfl
   refine Jb Z b ((eO∘JP∘Jy (v:=vP gp 10) (h:=by exact Yl.indexAddr (ad:=⟨gp,0,none⟩) (y:=5) (sz:=2) rfl rfl rfl de kr)∘Jy (v:= .agg #[.string (aby #[116,97,115,107,115]),.func (.func 235) #[.agg s.cells] #[]]) (h:=by exact Pe rfl rfl su rfl (λ_ h=>h.sub (i:=1) rfl 10 rfl))∘JA #[.string (aby #[]),.nilFunc]) λG c=>(JV su aO) λr=>(bQ∘Jj) λa Z b=>?_)
   refine wp_seq ?_
   refine Di 6 b (ahT c s.cells::ahz g gp s F) 3 [0,1,2] [] λb l=>?_
   refine ap Z (λ_=>l) [0,1,3] (bf 6 [0,1,3]) (ah3 c u []) λa Z=>?_
   refine dD Z l 2 0 λa Z=>?_
   refine dD Z l 4 0 λa Z=>?_
   refine s_on Z 5 rfl ?_
   refine zg Z (f:=235) (vs:=[]) (fst:=[.agg s.cells]) (caps:=[]) rfl rfl rfl kr rfl de (q17 s x C _ (D.old b) hc E) ?_
   rintro _ z ⟨⟨d,e,rfl,A,j⟩,n⟩
   refine ⟨_,rfl,?_⟩
   replace b:=b.bX n A
   clear Z;intro a Z
   refine ay (b.pt 4 [1,2,3]) (λl=>?_)
   refine qe kr ?_
   replace b:=b.pt (fs':=(abl d (aN s 5) e bD 41 1::ahT c s.cells::ahz g gp s F)) 4 [0,1,2,3]
   refine uN Z (i:=6) (vs:=[.string (aby #[116,97,115,107,115]),abk d (aN s 5) e]) rfl rfl rfl rfl rfl rfl de (hy 5 F (ahT c s.cells::ahz g gp s []) _ d e B om j (aam (es:=(ahT c s.cells::ahz g gp s [])) b)) zk ?_
   clear Z b;rintro v o a ⟨t,b,p,q⟩ Z;injection p with p;subst p
   replace b:Mem W o (ahT c s.cells::ahz g gp s t):=aah (es:=(ahT c s.cells::ahz g gp s [])) b
   replace Z:=Z.to [(17,.bool true),(7,vI 5),(6,vI 7),(5,vS gp 7 7),ahS u]
   refine Jb Z b ((Jp 1∘aK∘Jq∘aU∘JR∘Jv 2 [(7,vI 6)]∘Jq) λa Z b=>?_)
   exact ⟨_,om,6,t,by omega,q,rfl,Z.sub kr,b.pt 3 [1,2]⟩
  ·
   replace Z:=Z.sp 7 (vI 6) rfl rfl
   refine Jb Z b ((eO∘JP∘Jy (v:=vP gp 12) (h:=by exact Yl.indexAddr (ad:=⟨gp,0,none⟩) (y:=6) (sz:=2) rfl rfl rfl de kr)∘Jy (v:= .agg #[.string (aby #[115,112,111,116,115]),.func (.func 236) #[.agg s.cells] #[]]) (h:=by exact Pe rfl rfl su rfl (λ_ h=>h.sub (i:=1) rfl 12 rfl))∘JA #[.string (aby #[]),.nilFunc]) λG c=>(JV su aO) λr=>(bQ∘Jj) λa Z b=>?_)
   refine wp_seq ?_
   refine Di 6 b (ahR c s.cells::ahz g gp s F) 3 [0,1,2] [] λb l=>?_
   refine ap Z (λ_=>l) [0,1,3] (bf 6 [0,1,3]) (ah3 c u []) λa Z=>?_
   refine dD Z l 2 0 λa Z=>?_
   refine dD Z l 4 0 λa Z=>?_
   refine s_on Z 5 rfl ?_
   refine zg Z (f:=236) (vs:=[]) (fst:=[.agg s.cells]) (caps:=[]) rfl rfl rfl kr rfl de (q18 s x C _ (D.old b) hc E) ?_
   rintro _ z ⟨⟨d,e,rfl,A,j⟩,n⟩
   refine ⟨_,rfl,?_⟩
   replace b:=b.bX n A
   clear Z;intro a Z
   refine ay (b.pt 4 [1,2,3]) (λl=>?_)
   refine qe kr ?_
   replace b:=b.pt (fs':=(abl d (aN s 6) e bD 41 1::ahR c s.cells::ahz g gp s F)) 4 [0,1,2,3]
   refine uN Z (i:=6) (vs:=[.string (aby #[115,112,111,116,115]),abk d (aN s 6) e]) rfl rfl rfl rfl rfl rfl de (hy 6 F (ahR c s.cells::ahz g gp s []) _ d e B om j (aam (es:=(ahR c s.cells::ahz g gp s [])) b)) zk ?_
   clear Z b;rintro v o a ⟨t,b,p,q⟩ Z;injection p with p;subst p
   replace b:Mem W o (ahR c s.cells::ahz g gp s t):=aah (es:=(ahR c s.cells::ahz g gp s [])) b
   replace Z:=Z.to [(17,.bool true),(7,vI 6),(6,vI 7),(5,vS gp 7 7),ahS u]
   refine Jb Z b ((Jp 1∘aK∘Jq∘aU∘JR∘Jv 2 [(7,vI 7)]∘Jq) λa Z b=>?_)
   exact ⟨_,om,7,t,by omega,q,rfl,Z.sub kr,b.pt 3 [1,2]⟩
 refine (JF∘JX) ?_
 obtain rfl:k=7:=by omega
 intro a Z b
 exact iF rfl Z ⟨_,rfl,F,aap (ahz g gp s []) b,B⟩
structure En where
 v:Nat
 r:Nat
 w:Nat
abbrev nJ:Nat:=18446744073709551615
def En.add (x:En) (d:Nat):En:=
 if nJ-x.v<=(d*1048576+x.r)/x.w then ⟨nJ,0,x.w⟩ else ⟨x.v+(d*1048576+x.r)/x.w,(d*1048576+x.r)%x.w,x.w⟩
def En.woken (x:En) (floor aj:Nat):En:=if x.v<floor-aj then ⟨floor-aj,0,x.w⟩ else x
def tH (v fr to:Nat):Nat:=if fr<=v then to+min (v-fr) (nJ-to) else to-min to (fr-v)
def En.moved (x:En) (fr to:Nat):En:=⟨tH x.v fr to,if tH x.v fr to=nJ then 0 else x.r,x.w⟩
def Tk.en (t:Tk):En:=⟨t.v,t.r,t.weight.toNat⟩
def Tk.put (t:Tk) (x:En):Tk:={t with v:=x.v,r:=x.r,weight:=x.w}
def bE.j6 (s:bE) (g c:Nat):En:=⟨(s.spot g c).v,(s.spot g c).r,(s.gs.getD g Gr.zero).weight.toNat⟩
structure bK where
 kind:Nat
 cpu:Int
 task:Int
 group:Int
 weight:Int
 to:Int
 ticks:Int
 mask:Nat
structure bK.Ok (x:bK):Prop where
 kind:x.kind<256
 cpu:aW x.cpu
 task:aW x.task
 group:aW x.group
 weight:aW x.weight
 to:aW x.to
 ticks:aW x.ticks
 mask:x.mask<18446744073709551616
def bE.jD (s:bE) (i:Nat) (t:Tk):bE:={s with ts:=s.ts.set i t}
def bE.xM (s:bE) (g c:Nat) (x:Sp):bE:={s with sp:=s.sp.set g ((s.sp.getD g []).set c x)}
def bE.vJ (s:bE) (g c:Nat) (x:En):bE:=s.xM g c {s.spot g c with v:=x.v,r:=x.r}
def bE.pR (s:bE) (c:Int):Bool:=decide (0<=c/\c<s.au)
def oG (id:Int):Bool:=decide (1<=id/\id<=65535)
def rC (s:bE) (c:Nat):Nat->Nat->List Nat
 |0,_=>[]
 |f+1,g=>if g=0 then [] else if (aR s g c).isEmpty then g::rC s c f (s.par g).toNat else []
def kX (s:bE) (g c:Nat):List Nat:=rC s c g g
def lX (c:Nat) (s:bE) (g:Nat):bE:=s.vJ g c ((s.j6 g c).woken (s.spot (s.par g).toNat c).floor s.aj)
def gN (s:bE) (l:List Nat) (c:Nat):bE:=l.foldl (lX c) s
def iH (s:bE) (g c:Nat) (x:Sp):Sp:=if (aR s g c).isEmpty then x else {x with floor:=max x.floor (aM bJ (aR s g c)).v}
def fF (s:bE):bE:={s with sp:=s.sp.mapIdx λg l=>l.mapIdx λc x=>iH s g c x}
def xO (s:bE) (c:Nat):Nat->Nat->Nat
 |0,_=>0
 |f+1,g=>if (aR s g c).isEmpty then 0 else if (aM bJ (aR s g c)).k=0 then (aM bJ (aR s g c)).id else xO s c f (aM bJ (aR s g c)).id
def o7 (s:bE) (c:Nat):Nat:=xO s c (abn s.sp) 0
def aI (s:bE) (c:Nat):Int:=(s.ts.map λt=>if t.ready&&decide (t.cpu=(c:Int)) then t.weight else (0:Int)).sum
def jq (m:Nat) (c:Int):Bool:=decide (m/2^c.toNat%2=1)
abbrev iI:=bE×Int×Nat
def yL (s:bE) (o:bK):iI:=
 if s.pR o.cpu=false then (s,0,300)
 else if oG o.task=false then (s,0,301)
 else if ¬(0<=o.group/\o.group<abn s.sp) then (s,0,302)
 else if l9 o.weight=false\/o.mask=0\/xL o.mask s.au=true then (s,0,2)
 else if 0<=fidx s.ts o.task then (s,0,303)
 else if jq o.mask o.cpu=false then (s,0,305)
 else (gN {s with ts:=(s.ts.takeWhile λt=>decide (t.id<=o.task))++(⟨o.task,o.group,o.weight,o.cpu,o.mask,true,(s.spot o.group.toNat o.cpu.toNat).floor,0⟩::(s.ts.dropWhile λt=>decide (t.id<=o.task)))} (kX s o.group.toNat o.cpu.toNat) o.cpu.toNat,0,0)
def oH (s:bE) (id:Int):Tk:=s.ts.getD (fidx s.ts id).toNat Tk.zero
def yM (s:bE) (o:bK):iI:=
 if oG o.task=false then (s,0,301)
 else if fidx s.ts o.task<0 then (s,0,6)
 else if (oH s o.task).ready=true then (s,0,304)
 else
  let t:=oH s o.task
  (gN (s.jD (fidx s.ts o.task).toNat {t.put (t.en.woken (s.spot t.group.toNat t.cpu.toNat).floor s.aj) with ready:=true}) (kX s t.group.toNat t.cpu.toNat) t.cpu.toNat,0,0)
def rV (s:bE) (o:bK):iI:=
 if s.pR o.cpu=false then (s,0,300)
 else if s.cu.getD o.cpu.toNat 0=0 then (s,0,6)
 else
  let id:=s.cu.getD o.cpu.toNat 0
  let i:=(fidx s.ts id).toNat
  let s1:={s with cu:=s.cu.set o.cpu.toNat 0,ts:=s.ts.set i {s.ts.getD i Tk.zero with ready:=false}}
  (if o.kind=4 then {s1 with ts:=s1.ts.eraseIdx i} else s1,id,0)
def pU (c d:Nat):Nat->Nat->bE->bE
 |0,_,s=>s
 |f+1,g,s=>if g=0 then s else pU c d f (s.par g).toNat (s.vJ g c ((s.j6 g c).add d))
def jE (s:bE) (o:bK):iI:=
 if s.pR o.cpu=false then (s,0,300)
 else if ¬(1<=o.ticks/\o.ticks<=4294967295) then (s,0,2)
 else if 281474976710656<s.cl.getD o.cpu.toNat 0+o.ticks then (s,0,4)
 else
  let s1:={s with cl:=s.cl.set o.cpu.toNat (s.cl.getD o.cpu.toNat 0+o.ticks)}
  if s.cu.getD o.cpu.toNat 0=0 then (s1,0,0)
  else
   let id:=s.cu.getD o.cpu.toNat 0
   let t:=oH s id
   (pU o.cpu.toNat o.ticks.toNat t.group.toNat t.group.toNat (s1.jD (fidx s.ts id).toNat (t.put (t.en.add o.ticks.toNat))),id,0)
def kL (s:bE) (o:bK):iI:=
 if s.pR o.cpu=false then (s,0,300)
 else ({s with cu:=s.cu.set o.cpu.toNat (o7 s o.cpu.toNat)},o7 s o.cpu.toNat,0)
def yN (s:bE) (o:bK):iI:=
 if oG o.task=false then (s,0,301)
 else if l9 o.weight=false then (s,0,2)
 else if fidx s.ts o.task<0 then (s,0,6)
 else (s.jD (fidx s.ts o.task).toNat {oH s o.task with r:=0,weight:=o.weight},0,0)
def yO (s:bE) (o:bK):iI:=
 if ¬(1<=o.group/\o.group<abn s.sp) then (s,0,302)
 else if l9 o.weight=false then (s,0,2)
 else ({s with sp:=s.sp.set o.group.toNat ((s.sp.getD o.group.toNat []).map λx=>{x with r:=0}),gs:=s.gs.set o.group.toNat {s.gs.getD o.group.toNat Gr.zero with weight:=o.weight}},0,0)
def jr (s:bE) (i:Nat) (to:Int):bE:=
 let t:=s.ts.getD i Tk.zero
 let s1:=s.jD i {t.put (t.en.moved (s.spot t.group.toNat t.cpu.toNat).floor (s.spot t.group.toNat to.toNat).floor) with cpu:=to}
 if t.ready then gN s1 (kX s t.group.toNat to.toNat) to.toNat else s1
def qc1 (s:bE) (o:bK):iI:=
 if s.pR o.to=false then (s,0,300)
 else if oG o.task=false then (s,0,301)
 else if fidx s.ts o.task<0 then (s,0,6)
 else if o.task∈s.cu then (s,0,304)
 else if (oH s o.task).cpu=o.to then (s,0,2)
 else if jq (oH s o.task).mask o.to=false then (s,0,305)
 else (jr s (fidx s.ts o.task).toNat o.to,0,0)
def iR (s:bE) (cpu:Int):Nat->Int×Int
 |0=>(-1,-1)
 |c+1=>if (c:Int)≠cpu/\(iR s cpu c).2<aI s c then ((c:Int),aI s c) else iR s cpu c
def tJ (s:bE) (o:bK) (t:Tk):Bool:=t.ready&& (decide (t.cpu=(iR s o.cpu s.au.toNat).1)&& (jq t.mask o.cpu&& (decide (s.cu.getD t.cpu.toNat 0≠t.id)&&decide (2*t.weight<=(iR s o.cpu s.au.toNat).2-aI s o.cpu.toNat))))
def gH (s:bE) (o:bK):Nat->Option Nat
 |0=>none
 | n + 1 => if tJ s o (s.ts.getD n Tk.zero) then match gH s o n with
   |none=>some n
   |some b=>if (s.ts.getD b Tk.zero).weight<(s.ts.getD n Tk.zero).weight then some n else some b
  else gH s o n
def vK (s:bE) (o:bK):iI:=
 if s.pR o.cpu=false then (s,0,300)
 else match gH s o (abn s.ts) with
  |none=>(s,0,6)
  |some b=>(jr s b o.cpu,(s.ts.getD b Tk.zero).id,0)
def dB (s:bE) (o:bK):iI:=
 match o.kind with
 |1=>yL s o
 |2=>yM s o
 |3=>rV s o
 |4=>rV s o
 |5=>jE s o
 |6=>kL s o
 |7=>yN s o
 |8=>yO s o
 |9=>qc1 s o
 |10=>vK s o
 |_=>(s,0,2)
def rW (s:bE) (o:bK):iI:=if (dB s o).2.2≠0 then (s,0,(dB s o).2.2) else (fF (dB s o).1,(dB s o).2.1,0)
def newS (au:Int) (aj:Nat) (gs:List Gr):bE:=⟨au,aj,gs,abD au.toNat 0,abD au.toNat 0,[],abD (abn gs) (abD au.toNat Sp.zero)⟩
def yu (f y:Nat):List (Nat×Bool):=if y<128 then [] else iL (f-1) (y/128)
def q3o {f y:Nat} (a:0<f):iL f y=(y%128,decide (127<y))::yu f y:=by
 obtain ⟨k,rfl⟩:∃k,f=k+1:=⟨f-1,by omega⟩
 unfold yu
 by_cases h:y<128
 ·rw [Dv k y h,if_pos h,decide_eq_false om,Nat.mod_eq_of_lt h]
 ·rw [Dw k y om,if_neg h,decide_eq_true om,aeI]
def zaa {f y:Nat} (h:¬127<y):yu f y=[]:=if_pos om
def q3p {f y:Nat} (h:127<y):yu f y=iL (f-1) (y/128):=if_neg om
def WS {f y:Nat} (h:y<128^f) (h1:127<y):y/128<128^ (f-1)/\0<f-1:=by
 rcases f with _|_|f
 ·rw [Nat.pow_zero] at h;omega
 ·rw [ab7,Nat.pow_one] at h;omega
 ·rw [agG] at h
  exact ⟨by rw [aeI];omega,by omega⟩
def WT (W:World) (b:Nat) (Inv:List (Nat×Bool)->List Fact->Prop):Prop:=
 ∀(g:Nat) (m:Bool) (t:List (Nat×Bool)) (F fr:List Fact) (w:World),g<128->Inv ((g,m)::t) F->Mem W w (F++fr)->
  YieldAt ab4 0 abo b #[.int .u8 (g:Int),.bool m] w λe c=>∃a,Mem W c (a++fr)/\e= .returned (.bool true)/\Inv t a
def zgz (W:World) (Inv:List (Nat×Bool)->List Fact->Prop) (r:Ending) (b:World):Prop:=∃v,r= .returned v/\∃a,Mem W b a/\Inv [] a
def qq1 {W:World} {fr:List Fact} {I:List Fact->Prop}:∀(e:Ending) (b:World),(∃a,Mem W b (a++fr)/\e= .returned (.bool true)/\I a)->∃v,e= .returned v
 |_,_,⟨_,_,h,_⟩=>⟨_,h⟩
def zY (W:World) (n:Nat) (ys:List Value) (x:Nat) (fr:List Fact) (r:Ending) (a:World):Prop:=
 ∃A c,r= .returned (.slice A (n+abn (ak x)) c)/\n+abn (ak x)<=c/\Mem W a (.row (.slice A (n+abn (ak x)) c) (n+abn (ak x)) (ys++(ak x).map B8) 5 1::fr)
def zab {ys:List Value} {fr:List Fact} (hz:l++([]:List (Nat×Bool)).map bH=ak x) (hc:n+abn l<=c) (a:Mem W w (.row (.slice A (n+abn l) c) (n+abn l) (ys++l.map B8) 5 1::fr)):zY W n ys x fr (.returned (.slice A (n+abn l) c)) w:=by
 rw [adw,abP] at hz
 subst hz
 exact ⟨A,c,rfl,hc,a⟩
def q3v (W w:World) (c d x:Nat) (u:x<18446744073709551616) (Inv:List (Nat×Bool)->List Fact->Prop) (l:List Fact) (hy:WT W d Inv) (n:Inv (iL 10 x) l) (b:Mem W w (.blk c #[vQ x] 41::l)):
    Calls abo 239 (.func (.yield d) #[] #[]:: [vP c 0]).toArray w (zgz W Inv):=by
 refine oD Tryz.func239 [.func (.yield d) #[] #[],vP c 0] [ahS d,(1,vP c 0)] λa Z=>?_
 refine Jb Z b ((JB) λa Z b=>?_)
 refine qg (λs z A=>∃(f:Nat) (y:Nat) (F:List Fact),(0<f)/\(y<128^f)/\(y<18446744073709551616)/\(Inv (iL f y) F)/\s=0+y/\Fr z 16 [] [ahS d,(1,vP c 0)]/\Mem W A (.blk c #[vQ y] 41::F)) (m:=0+x) ⟨10,x,l,de,om,u,n,rfl,Z.sub kr,b.pt 1 [0]⟩ ?_
 clear Z b;rintro s a D ⟨f,y,F,B,e,g,C,rfl,Z,b⟩
 refine Jb Z b ((JQ) λa Z b=>?_)
 refine wp_seq ?_
 refine Lm (i:=6) ?_
 refine Jb Z b ((Jp 1∘Jc O0∘Jp 1∘Jo (vQ (y%128:Nat)) (by exact congrArg _ (zk2 y g))∘Jv 1 [(6,vB (IntKind.u8.wrap ((y%128:Nat):Int)))]∘Jo (vB (y%128:Nat)) (by exact congrArg _ (zk3 _ om))∘Jc O0∘Jp 1∘Jo (.bool (decide (127<y))) (by exact congrArg abM (decide_eq_decide.2 om))∘Jq) λa Z b=>?_)
 refine uN Z (i:=6) (vs:=[vB (y%128:Nat),.bool (decide (127<y))]) rfl rfl rfl rfl rfl rfl de (hy _ _ _ F _ _ (adW _ de) (by rw [<-q3o B];exact C) (aah (F:=[.blk c #[vQ y] 41]) b)) qq1 ?_
 clear Z b;rintro v o a ⟨p,b,r,h⟩ Z;injection r with r;subst r
 replace b:Mem W o (.blk c #[vQ y] 41::p):=aah (es:=[.blk c #[vQ y] 41]) b
 refine Jb Z b ((Jp 1∘Jc O0∘Jp 2∘aH∘Jq) (Ji (λk=>?_) λk=>?_))
 ·
  refine (JT∘DU∘JB∘JR∘Jc O0∘Jp 1∘Jo (vQ (y/128:Nat)) (by exact uf .u64 y (j:=7) (q:=128) rfl rfl)∘JW aO aO) λt=>(nA∘Jq) λa Z b=>?_
  exact ⟨_,om,(f-1),(y/128),p,(WS e om).2,(WS e om).1,by omega,by rw [<-q3p om];exact h,rfl,Z.sub kr,b.pt 1 [0]⟩
 refine (JF∘JX) λa Z b=>?_
 exact iF rfl Z (⟨_,rfl,p,aap [.blk c #[vQ y] 41] b,by rw [<-zaa (f:=f) (y:=y) om];exact h⟩)
def zad (x:Nat) (w:World):
    Calls abo 168 #[vQ x] w λr a=>∃g,r= .returned (.func (.func 239) #[] #[vP g 0])/\Mem w a [.blk g #[vQ x] 41]:=by
 refine (eF Tryz.func168 4) ?_
 exact (JP∘uT) λd b=>(Jp 1∘Jr∘Jy (h:=by exact Yl.makeFunc (fst:=[]) (caps:=[vP b 0]) rfl rfl rfl)∘Jp 1∘aK∘aP∘bC) λc=>by exact ⟨_,rfl,c⟩
abbrev ahF:=λa b c d=>(.blk a #[.slice b c d] 30:Fact)
abbrev ah6:=λa b c d e f g=>(.row (.slice a (b+abn (c++[bH (d,e)])) f) (b+abn (c++[bH (d,e)])) g 5 1:Fact)
def Xc (W w:World) (x:Nat) (M:x<18446744073709551616) (A:Option Addr) (n c:Nat) (ys:List Value) (fr:List Fact) (V:n<=100000000000) (hc:n<=c) (d:Mem W w (.row (.slice A n c) n ys 5 1::fr)):
    Calls abo 109 #[.slice A n c,vQ x] w (zY W n ys x fr):=by
 refine Fj (vs:=[.slice A n c,vQ x]) Tryz.func109 rfl rfl kr (σ0:=[(0,.slice A n c),(1,vQ x)]) rfl ?_
 intro a Z
 refine Jb Z d ((JP∘uT) λN s=>(bM 1∘bN 1∘JL (h:=by exact λd=>zad x _)) ?_)
 rintro d _ X ⟨O,rfl,hm⟩
 refine ⟨_,rfl,_,d.join hm,?_⟩
 refine (aK∘Jq∘JC (h:=by exact λd=>d.aY (i:=2) (ys:=ys++([]:List Nat).map B8) rfl rfl (by rw [adw,abP]))∘JG∘JB) λa Z d=>?_
 refine Fh Z d (λF=>∃(b:List Nat) (l:Option Addr) (j:Nat),(b++(([]:List (Nat×Bool))).map bH=ak x)/\(n+abn b<=j)/\F=(ahF s l (n+abn b) j::.row (.slice l (n+abn b) j) (n+abn b) (ys++b.map B8) 5 1::fr)) (λ_ _=>False) rfl kr ?_ ?_ ?_
 ·
  clear Z d;intro z y o P E d
  have Q:WT W z (λG F=>∃(b:List Nat) (l:Option Addr) (j:Nat),(b++(G).map bH=ak x)/\(n+abn b<=j)/\F=(.obj z (.loop (o .ready none)):: .obj y (.deferred (some []))::(ahF s l (n+abn b) j::.row (.slice l (n+abn b) j) (n+abn b) (ys++b.map B8) 5 1::fr))):=by
   rintro q m t F p R S ⟨b,l,j,hz,C,rfl⟩ d
   have T:abn b<=10:=by have h:=congrArg List.length hz;rw [abp] at h;have:=Bj x;omega
   replace d:Mem W R (ahU z (o .ready none)::ahA y::ahF s l (n+abn b) j::.row (.slice l (n+abn b) j) (n+abn b) (ys++b.map B8) 5 1::(fr++(p))):=(by simpa only [aeD,abu,adg] using d)
   refine Ll (v1:=vB q) (v2:= .bool m) E d de de λa Z=>?_
   refine wpIn_seq ?_
   refine qo ?_
   refine Jb Z d ((Jp 1∘Jq) λa Z d=>?_)
   refine qo ?_
   refine Jb Z d ((Jp 1∘Jq) λa Z d=>?_)
   refine ⟨(ahA y::ahF s l (n+abn b) j::.row (.slice l (n+abn b) j) (n+abn b) (ys++b.map B8) 5 1::(fr++(p))),d.pt (fs':=(ahU z (o .ready none)::ahA y::ahF s l (n+abn b) j::.row (.slice l (n+abn b) j) (n+abn b) (ys++b.map B8) 5 1::(fr++(p)))) 4 [0,1,2,3],λY d=>?_⟩
   refine wpIn_block ?_
   refine wpIn_seq ?_
   refine wpIn_seq ?_
   refine qo ?_
   refine Jb Z d ((Jp 1∘Jq) (Ju (λu=>?_) λu=>?_))
   ·
    intro a Z d
    have D:bH (q,m)=q+128:=by rw [u];rfl
    refine Fe Z rfl ?_
    refine qo ?_
    refine Jb Z d ((Jp 2∘Jo (vB (q+128:Nat)) (by exact congrArg _ (EL q S))∘Jp 1∘bQ∘Jq) λa Z d=>?_)
    refine qo ?_
    refine Jb Z d ((Jc O2∘Jp 1∘JU bn #[vB (q+128:Nat)]) λI J=>(JD [B8 (bH (q,m))] 4 (λ_ _=>rQ) bn (hr:=by exact λd=>(by rw [D];exact d.bB (i:=0) (n:=1) (size:=1) rfl rfl)) (h1:=by exact sO [bH (q,m)])) λK e f k=>(JW oV aO) λH=>(xE∘Jq) λa Z d=>?_)
    have g:(n+abn b)+1=(n+abn (b++[bH (q,m)])):=by rw [abp];rfl
    rw [g] at k
    replace d:=d.aY (i:=4) (ys:=(ys++(b++[bH (q,m)]).map B8)) rfl g (by rw [abU,abu];rfl)
    replace d:=d.dW (i:=3) (ds:= #[.slice e (n+abn (b++[bH (q,m)])) f]) rfl (by rw [g])
    refine ⟨(ahA y::ahF s e (n+abn (b++[bH (q,m)])) f::ah6 e n b q m f (ys++(b++[bH (q,m)]).map B8)::(fr++(p))),d.pt (fs':=(ahU z (o .busy none)::ahA y::ahF s e (n+abn (b++[bH (q,m)])) f::ah6 e n b q m f (ys++(b++[bH (q,m)]).map B8)::(fr++(p)))) 5 [1,2,3,4],λU d=>?_⟩
    exact ⟨(ahU z (o .ready none)::ahA y::ahF s e (n+abn (b++[bH (q,m)])) f::ah6 e n b q m f (ys++(b++[bH (q,m)]).map B8)::fr),(by simpa only [aeD,abu,adg] using d),rfl,(b++[bH (q,m)]),e,f,by rw [abu];exact hz,k,rfl⟩
   intro a Z d
   have D:bH (q,m)=q:=by rw [u];rfl
   refine Fg Z rfl ?_
   refine wpIn_skip ?_
   refine qo ?_
   refine Jb Z d ((Jc O2∘Jp 1∘JU bn #[vB q]) λI J=>(JD [B8 (bH (q,m))] 4 (λ_ _=>rQ) bn (hr:=by exact λd=>(by rw [D];exact d.bB (i:=0) (n:=1) (size:=1) rfl rfl)) (h1:=by exact sO [bH (q,m)])) λK e f k=>(JW oV aO) λH=>(xE∘Jq) λa Z d=>?_)
   have g:(n+abn b)+1=(n+abn (b++[bH (q,m)])):=by rw [abp];rfl
   rw [g] at k
   replace d:=d.aY (i:=4) (ys:=(ys++(b++[bH (q,m)]).map B8)) rfl g (by rw [abU,abu];rfl)
   replace d:=d.dW (i:=3) (ds:= #[.slice e (n+abn (b++[bH (q,m)])) f]) rfl (by rw [g])
   refine ⟨(ahA y::ahF s e (n+abn (b++[bH (q,m)])) f::ah6 e n b q m f (ys++(b++[bH (q,m)]).map B8)::(fr++(p))),d.pt (fs':=(ahU z (o .busy none)::ahA y::ahF s e (n+abn (b++[bH (q,m)])) f::ah6 e n b q m f (ys++(b++[bH (q,m)]).map B8)::(fr++(p)))) 5 [1,2,3,4],λU d=>?_⟩
   exact ⟨(ahU z (o .ready none)::ahA y::ahF s e (n+abn (b++[bH (q,m)])) f::ah6 e n b q m f (ys++(b++[bH (q,m)]).map B8)::fr),(by simpa only [aeD,abu,adg] using d),rfl,(b++[bH (q,m)]),e,f,by rw [abu];exact hz,k,rfl⟩
  refine (q3v W P O z x M _ _ Q ⟨[],A,c,rfl,hc,rfl⟩ (d.pt 5 [2,0,1,3,4])).mono ?_
  rintro r N ⟨v,rfl,F2,L,⟨b,l,j,hz,C,rfl⟩⟩
  exact ⟨v,rfl,.inl ⟨_,⟨b,l,j,hz,C,rfl⟩,L⟩⟩
 ·
  clear Z d;rintro B a w6 _ ⟨b,l,j,hz,C,rfl⟩ Z d
  refine Jb Z d ((JG∘JP∘Jc O1∘Jp 1∘aK∘aP) λa Z d=>?_)
  refine Bz Z d (i:=0) rfl λa w7 Z d=>?_
  exact lN rfl Z rfl (zab hz C (d.pt (fs':=(.row (.slice l (n+abn b) j) (n+abn b) (ys++b.map B8) 5 1::fr)) 3 [2]))
 exact λ_ _ _ _ _ h=>h.elim
def zae (A:Option Addr) (c:Nat) (b:List Nat) (w:World) (hr:Rd w w.heap.size 1 A (abn b) (b.map bD)) (s:∀x∈b,x<18446744073709551616) (E:abn b<=1000000000):
    Calls abo 49 #[.slice A (abn b) c] w (rO w (b.flatMap ak)):=by
 refine (eF Tryz.func49 17) ?_
 refine (aJ 1∘bA 1∘Jj∘bN 1∘Jl∘Jp 1∘Jq∘JC (h:=by exact λd=>d.nil 5 1)∘JG∘JB) λa Z d=>?_
 refine qg (λv y z=>∃(k:Nat) (n:Option Addr) (g:Nat),(k<=abn b)/\(abn ((b.take k).flatMap ak)<=g)/\v=abn b-k/\Fr y 17 [] (ahK 8 k 7 (abn b) [(6,abk A b c),(3,abk n ((b.take k).flatMap ak) g),(2,vN)])/\Mem w z [abl n ((b.take k).flatMap ak) g B8 5 1]) (m:=abn b-0) ⟨0,none,0,abA _,abr _,rfl,Z.sub kr,d.pk [0]⟩ ?_
 clear Z d;rintro v a F ⟨k,n,g,G,o,rfl,Z,d⟩
 refine Jb Z d ((cO 1∘JQ) (Ji (λt=>?_) λt=>?_))
 ·
  have j:k<abn b:=by omega
  have B:=s _ (qf 0 j)
  have u:=zq (b.take k)
  rw [abv] at u
  have C:=Bj (b.getD k 0)
  have p:(b.take (k+1)).flatMap ak=(b.take k).flatMap ak++ak (b.getD k 0):=by rw [ado,getD_at 0 j,abX];simp
  refine (eO∘JP) ?_
  obtain ⟨gA,H,rfl,_⟩:=hr.sat k
  refine (iC k 1∘Jy (h:=by exact aad hr k 0 j rfl rfl)∘Jp 1∘bQ∘Jj∘JR∘Jp 2∘JL (h:=by exact λd=>Xc w _ (b.getD k 0) B n (abn ((b.take k).flatMap ak)) g (((b.take k).flatMap ak).map B8) _ om o (d.pk (fs':=[abl n ((b.take k).flatMap ak) g B8 5 1]) [0]))) ?_
  rintro d _ D ⟨q,r,rfl,f,hm⟩
  refine ⟨_,rfl,_,hm,?_⟩
  refine (Jp 1∘dY∘Jq) ?_
  have e:(abn ((b.take k).flatMap ak)+abn (ak (b.getD k 0)))=abn ((b.take (k+1)).flatMap ak):=by rw [p,abp]
  rw [e] at f
  refine (JC (h:=by exact λd=>d.aY (i:=0) (ys:=((b.take (k+1)).flatMap ak).map B8) rfl e (by rw [p,abU]))∘Jk 3 (.slice q (abn ((b.take (k+1)).flatMap ak)) r) (h:=by exact iB e)∘JG∘JR∘dx 1∘Jp 1∘aK∘Jq) λa Z d=>?_
  exact ⟨_,om,k+1,q,r,by omega,f,rfl,Z.sub kr,d.pk [0]⟩
 have l:b.take k=b:=abI om
 exact (JF∘JX∘JG∘aJ 2∘aK∘aP∘bC) λd=>by exact ⟨⟨n,g,by rw [l],by have h:=d.own (i:=0) rfl;rw [l] at h;exact h,by rw [<-l];exact o⟩,d.below⟩
def qzu {w:World} (e:x<18446744073709551616):Calls abo 109 #[vN,vQ x] w (rO w (ak x)):=
 (Xc w w x e none 0 0 [] [] (abA _) (abr _) ((Mem.start w).nil 5 1)).mono λr f ⟨A, c, b, d, a⟩ => by
  rw [ab7,adg] at a
  rw [ab7] at b d
  exact ⟨⟨A,c,b,a.own (i:=0) rfl,d⟩,a.below⟩
def Lv (A:Option Addr) (n c:Nat) (a:List Nat) (w:World) (hr:Rd w w.heap.size 1 A n (a.map bD)) (b:∀x∈a,x<18446744073709551616) (d:n<=1000000000):Calls abo 49 #[.slice A n c] w (rO w (a.flatMap ak)):=by
 obtain rfl:n=abn a:=by have h:=hr.len;rw [abx,acX] at h;exact h.symm
 exact zae A c a w hr b d
def qn0:∀(k:Nat) (l xs:List Nat) (u x m:Nat),aV k l=(xs,u,0)->aD (l.drop u)=(x,m,0)->aV (k+1) l=(xs++[x],u+m,0)
 |0,l,xs,u,x,m,h,a=>by
  simp only [aV,Prod.mk.injEq] at h
  obtain ⟨rfl,rfl,_⟩:=h
  rw [List.drop_zero] at a
  simp [aV,a]
 | k + 1, l, xs, u, x, m, h, a => by
  rw [aV] at h
  split at h
  ·rename_i b;simp at h;exact absurd h.2.2 b
  ·rename_i b
   split at h
   ·rename_i c;simp at h;exact absurd h.2.2 c
   ·rename_i c
    simp only [Prod.mk.injEq] at h
    obtain ⟨rfl,rfl,_⟩:=h
    have d:aV k (l.drop (aD l).2.1)=((aV k (l.drop (aD l).2.1)).1,(aV k (l.drop (aD l).2.1)).2.1,0):=by
     rw [<-show (aV k (l.drop (aD l).2.1)).2.2=0 by omega]
    have e:=qn0 k _ _ _ x m d (by rwa [acQ])
    rw [aV,if_neg b,e,if_neg (by simp)]
    simp [Nat.add_assoc]
theorem qvq:∀(k j:Nat) (l xs:List Nat) (u:Nat),aV k l=(xs,u,0)->(aD (l.drop u)).2.2≠0->(aV (k+1+j) l).2.2≠0:=by intro x;induction x<;>grind [aV,aD,acQ,Prod.mk.injEq]
theorem zdf:∀(k:Nat) (l xs:List Nat) (u:Nat),aV k l=(xs,u,0)->abn xs=k/\k<=u/\u<=abn l:=by intro x;induction x<;>grind [aV,aD,xg,VR]
def q7:SI abo 73 11:=⟨by kernel_rfl,by kernel_rfl⟩
def nV {v u:Bool} (h:v=true↔u=true):abM v= .bool u:=by rw [abY.2 h]
theorem Mem.z8 (h:Mem W w fs) {p:Addr} {v:Value} (hc:W.cell? p=some v) (hb:p.block<W.heap.size):w.cell? p=some v:=(h.below.cell hb).trans hc
def zlc {g i x:Nat} (a:Mem W w (.blk g e.cells 73::fs)) (hi:i<7):
  Calls abo 321 #[.pointer (some ⟨g,0,none⟩),.int .i64 (i:Int),.int .u64 (x:Int)] w λr b=>r= .returned (.bool (Ev.fits i x))/\Mem W b (.blk g (e.put i x).cells 73::fs):=by
 have c:=a.blk (i:=0) rfl
 have hz:4+i<e.cells.size:=by show 4+i<11;omega
 refine (zgo g i x hi w (e.cells[4+i]'hz) (by unfold aea;rw [c];exact Array.getElem?_eq_getElem hz) (by unfold World.frozen?;rw [c];simp)).mono ?_
 rintro r b ⟨rfl,rfl⟩
 refine ⟨rfl,?_⟩
 have h:=a.set (i:=0) (o:=4+i) rfl (aao i x)
 rw [q2w e i x hi] at h
 exact h
def zaf {vs:List Nat} (hi:l[k]?=some i) (a:vs[k]?=some x):(l.zip vs).take (k+1)=(l.zip vs).take k++[(i,x)]:=by
 rw [List.take_succ]
 congr 1
 rw [(List.getElem?_zip_eq_some (z:=(i,x))).2 ⟨hi,a⟩]
 rfl
section
variable {e:Ev} {vs:List Nat}
def OP (h:e.cK vs=m) (a:m≠0):(e.dQ vs,e.cK vs)=(Ev.zero,m):=by unfold Ev.dQ;rw [h,if_neg a]
def zag (h:e.kind=0\/10<e.kind):(e.dQ vs,e.cK vs)=(Ev.zero,60):=OP (if_pos h) de
def zg0 (h:¬(e.kind=0\/10<e.kind)) (a:abn vs≠abn (aB e.kind)):(e.dQ vs,e.cK vs)=(Ev.zero,2):=OP ((if_neg h).trans (if_pos a)) de
def Xd (h:¬(e.kind=0\/10<e.kind)) (a:abn vs=abn (aB e.kind)) (b:(e.made vs).check≠0):(e.dQ vs,e.cK vs)=(Ev.zero,61):=OP ((if_neg h).trans ((if_neg (λn=>n a)).trans (if_pos b))) de
def zg1 {o:Ev} (h:¬(e.kind=0\/10<e.kind)) (b:abn vs=abn (aB e.kind)) (a:o=e.made vs) (c:o.check=0):(e.dQ vs,e.cK vs)=(o,0):=by
 have k:e.cK vs=0:=(if_neg h).trans ((if_neg (λn=>n b)).trans (if_neg (λn=>n (by rw [<-a];exact c))))
 unfold Ev.dQ
 rw [k,a]
 rfl
def Fz {v:Ev} {n:Int} (h:(e.dQ vs,e.cK vs)=(v,m)) (a:n=m) (hb:Below w.heap.size w W) {C:Array Value} (hc:C=v.cells):mO w (e.dQ vs) (e.cK vs) (.returned (.tuple #[.agg C,.int .i64 n])) W:=by
 injection h with b c
 rw [b,c]
 subst a hc
 exact ⟨rfl,hb⟩
end
def zld:SI abo 424 12:=⟨by kernel_rfl,by kernel_rfl⟩
def zle (w:World) (er:Nat) (R:List Nat) (r:Ending) (w':World):Prop:=
 (∃A c,r= .returned (.tuple #[.slice A (abn R) c,.int .i64 (er:Int)])/\w'.ownsRow w.heap.size 41 1 (.slice A (abn R) c) (abn R) (R.map bD)/\abn R<=c)/\Below w.heap.size w w'
section
variable {b:Bs} {e:Ev} {w w':World} {v:Bool}
def Lx (hb:Below w.heap.size w w') (h:v=true↔(1<=b.seq/\b.seq<=281474976710656/\0<=b.time/\b.time<=281474976710656)):Is w (.bool b.right) (.returned (.bool v)) w':=by
 refine ⟨?_,hb⟩
 unfold Bs.right
 rw [show v=decide _ from (abY.2 (h.trans decide_eq_true_iff.symm))]
def Xe (hb:Below w.heap.size w w') (h:v=true↔(b.seq<=e.seq/\b.time<=e.time)):Is w (.bool (b.behind e)) (.returned (.bool v)) w':=by
 refine ⟨?_,hb⟩
 unfold Bs.behind
 rw [show v=decide _ from (abY.2 (h.trans decide_eq_true_iff.symm))]
end
def zah (e:Ev) (d:e.Ok) (B:Nat) (w:World) (f:Laid B w) (g:B<=w.heap.size) {er:Nat} {R:List Nat} (h1:e.check=er) (i:e.tZ=R):Calls abo 286 #[.agg e.cells] w (zle w er R):=by
 subst h1 i
 refine (qzm e d B w f g).mono λr w' ⟨⟨v,h,a⟩,j⟩=>?_
 obtain ⟨A,c,rfl,hc⟩:=Br a
 exact ⟨⟨A,c,h,a,hc⟩,j⟩
def q3w (e:Ev) (a:e.Ok) (B:Nat) (w:World) (c:Laid B w) (d:B<=w.heap.size):Calls abo 243 #[.agg e.cells] w (Is w (.int .i64 (e.check:Int))):=N9 e a B w c d
theorem zai (e:Ev):abn e.tZ<=4:=by grind [Ev.tZ,Ev.vals,zO]
theorem zg2 {b:Bs} (h:e.check=er) (a:er≠0):sI b e=er/\wZ b e=[]:=by grind [sI,wZ]
theorem Xf {b:Bs} (h:e.check=0) (a:¬(b.right=true/\b.behind e=true)):sI b e=70/\wZ b e=[]:=by grind [sI,wZ]
theorem zg3 {b:Bs} (h:e.check=0) (h1:b.right=true) (a:b.behind e=true):sI b e=0/\wZ b e=zh b e:=by grind [sI,wZ]
def FB {sZ:Nat} {n:Int} (h:er=sZ/\R=[]) (a:n=sZ) (hb:Below w.heap.size w w'):zr w er R (.returned (.tuple #[.slice none 0 0,.int .i64 n])) w':=by
 obtain ⟨rfl,rfl⟩:=h
 subst a
 exact ⟨⟨none,0,rfl,acA _ _ _ _,abr _⟩,hb⟩
def Xg {L:List Nat} (h:er=0/\R=L) (a:w'.ownsRow w.heap.size 5 1 (.slice A (abn L) c) (abn L) (L.map B8)) (hc:abn L<=c) (hb:Below w.heap.size w w'):zr w er R (.returned (.tuple #[.slice A (abn L) c,.int .i64 0])) w':=by
 obtain ⟨rfl,rfl⟩:=h
 exact ⟨⟨A,c,rfl,a,hc⟩,hb⟩
def Xh (l:List Nat):∀u∈l.map bD,u.oneCell'=true:=by
 intro u a
 obtain ⟨x,_,rfl⟩:=ab0.1 a
 rfl
def LA {x:Int} (h:0<=x/\x<9223372036854775808) (a:x.toNat=n):abO .u64 (IntKind.u64.wrap x)= .int .u64 (n:Int):=by rw [adS];congr 1;omega
def zaj {b:Bs} {vs:List Nat} (c:e.Ok) (h:e.check=0) (d:e.tZ=vs) (h1:b.right=true) (f:b.behind e=true):(0<=e.seq-b.seq/\e.seq-b.seq<9223372036854775808)/\(0<=e.time-b.time/\e.time-b.time<9223372036854775808)/\(∀x∈(e.seq-b.seq).toNat::(e.time-b.time).toNat::vs,x<18446744073709551616)/\zh b e=[e.kind]++((e.seq-b.seq).toNat::(e.time-b.time).toNat::vs).flatMap ak:=by
 have g:=qc5 h
 have j:=of_decide_eq_true h1
 have l:=of_decide_eq_true f
 have:=c.seq.2
 have:=c.time.2
 refine ⟨by omega,by omega,λx a=>?_,?_⟩
 ·rcases abS.1 a with rfl|a
  ·omega
  rcases abS.1 a with rfl|a
  ·omega
  rw [<-d] at a
  unfold Ev.tZ at a
  rw [if_pos h] at a
  obtain ⟨i,hi,rfl⟩:=ab0.1 a
  have k:=VF c h hi
  unfold Ev.num at k
  rw [adS] at k
  omega
 ·unfold zh xY
  rw [<-d]
  unfold Ev.tZ
  rw [if_pos h]
  rfl
theorem zg4 {b:Bs} {q:List Nat} {A:Prop} {B:Prop} {C:Prop} (h:e.check=x) (c:x=0) (hb:b.right=true/\b.behind e=true) (d:A/\B/\C/\zh b e=[e.kind]++q.flatMap ak) (a:q.flatMap ak=l):sI b e=0/\wZ b e=e.kind::l:=by grind [zg3]
def Xi {c:Nat} {q:List Nat} (hr:Rd w w.heap.size 1 A (abn l) (l.map bD)) (d:∀x∈l,x<18446744073709551616) (f:abn l<=6) (a:l.flatMap ak=q):Calls abo 49 #[.slice A (abn l) c] w (rO w q):=by
 subst a
 exact Lv A (abn l) c _ w hr d om
def zg5 {l:List Ev} {p:Option Ev} (hk:k=abn l):iD p k (l.drop k)=(-1,0):=by
 rw [adx om]
 rfl
theorem row_step {l:List Ev} {p:Option Ev} (hk:k<abn l) (a:l.getD k Ev.zero=e):iD p k (l.drop k)=if e.check≠0 then ((k:Int),e.check) else if p.all (λq=>e.after q)=false then ((k:Int),71) else iD (some e) (k+1) (l.drop (k+1)):=by grind [iD,ace,abq]
def j5 (l:List Ev) (k:Nat):Option Ev:=if k=0 then none else some (l.getD (k-1) Ev.zero)
theorem zak {l:List Ev} (a:l.getD k Ev.zero=e):j5 l (k+1)=some e:=by grind [j5]
theorem zal {l:List Ev} {q:Ev} (c:0<k) (a:l.getD (k-1) Ev.zero=q) (h:¬(e.cpu=q.cpu/\q.seq<e.seq/\q.time<=e.time)):(j5 l k).all (λq=>e.after q)=false:=by
 unfold j5;rw [if_neg om,a];exact decide_eq_false h
theorem q3x {l:List Ev} {q:Ev} (c:l.getD (k-1) Ev.zero=q) (h:k=0\/(e.cpu=q.cpu/\q.seq<e.seq/\q.time<=e.time)):(j5 l k).all (λq=>e.after q)=true:=by
 unfold j5
 by_cases a:k=0
 ·rw [if_pos a];rfl
 ·rw [if_neg a,c];exact decide_eq_true (h.resolve_left a)
theorem LB {l:List Ev} {q:Ev} {v:Bool} (a:l.getD (k-1) Ev.zero=q) (h:v=true↔¬(k=0\/(e.cpu=q.cpu/\q.seq<e.seq/\q.time<=e.time))):abM v= .bool (!(j5 l k).all λq=>e.after q):=by grind [zal,q3x]
def LC (h:0<k) (hk:k<=140737488355328):abO .i64 (IntKind.i64.wrap ((k:Int)-1))= .int .i64 ((k-1:Nat):Int):=by rw [IntKind.wrap_i64];congr 1;omega
def OQ {R:Int×Nat} {v n:Int} (h:R=(v,m)) (a:n=(m:Int)) (hb:Below w.heap.size w w'):Is w (.tuple #[.int .i64 R.1,.int .i64 (R.2:Int)]) (.returned (.tuple #[.int .i64 v,.int .i64 n])) w':=by
 subst h a
 exact ⟨rfl,hb⟩
def BI {b:Bs} {l:List Ev} {v:Bool} (h:v=true↔¬(b.right=true/\(0<abn l->b.behind (l.getD 0 Ev.zero)=true))):abM v= .bool (!(b.right&&l.head?.all b.behind)):=by
 have e:l.head?.all b.behind=true↔(0<abn l->b.behind (l.getD 0 Ev.zero)=true):=by
  cases l with
  |nil=>exact ⟨λ_ h=>absurd h (Nat.lt_irrefl 0),λ_=>rfl⟩
  |cons x r=>exact ⟨λh _=>h,λh=>h (Nat.succ_pos _)⟩
 rw [<-e,<-abG] at h
 by_cases a:(b.right&&l.head?.all b.behind)=true
 ·rw [a,show v=false from (agw _).mp λc=>h.1 c a];rfl
 ·rw [(agw _).mp a,h.2 a];rfl
theorem qzv {b:Bs} {l:List Ev} (h:iU l=(f,c)) (a:c≠0):rJ b l=c/\uH b l=[]:=by grind [rJ,uH]
theorem qt1 {b:Bs} {l:List Ev} (h:iU l=(f,c)) (a:c=0) (h1:¬(b.right&&l.head?.all b.behind)=true):rJ b l=70/\uH b l=[]:=by grind [rJ,uH]
def qzw {b:Bs} {l:List Ev} {pre:List Nat} {a:Bs} (h:iU l=(f,c)) (d:c=0) (h1:(b.right&&l.head?.all b.behind)=true) (hr:recs b l=pre++recs a (l.drop k)) (hk:abn l<=k):rJ b l=0/\uH b l=pre:=by
 rw [abG] at h1
 have e:rJ b l=0:=by unfold rJ;rw [h,if_neg om,if_pos h1]
 exact ⟨e,by unfold uH;rw [if_pos e,hr,adx hk];exact abP pre⟩
def q3y {b a:Bs} {l:List Ev} (h:iU l=(f,c)) (d:c=0) (h1:(b.right&&l.head?.all b.behind)=true) (hk:k<abn l) (hb:a=ER b l k) (g:l.getD k Ev.zero=e):sI a e=0/\recs a (l.drop k)=zh a e++recs e.at (l.drop (k+1))/\e.at=ER b l (k+1)/\abn (zh a e)<=61:=by
 rw [abG] at h1
 have e1:l[k]=e:=by rw [<-g,abt,abq hk];rfl
 have p:=q91 (by rw [h];exact d) h1.1 h1.2 k hk
 rw [<-hb,e1] at p
 refine ⟨p,by rw [ace hk,recs,e1],?_,zgs _ _⟩
 show _=(match l[k]? with|some e=>e.at|none=>b)
 rw [abq hk,e1]
def Xj (e:Ev) (w:World):Calls abo 275 #[.agg e.cells] w (Is w (.agg e.at.cells)):=by
 refine (eF Tryz.func275 8) ?_
 refine (JP∘JE) λd f=>(JA #[vI 0,vI 0]) λg h=>(Jr∘Jg 0 O1∘Jg 1 O1∘eH #[vI e.seq,vI e.time]∘JV iE aO) λb=>(nT∘aP) λa Z c=>?_
 exact iM rfl Z (.cellS (i:=0) Z c rfl rfl iE rfl) (⟨rfl,c.below⟩)
def LD (b:Bs) (w:World):Calls abo 273 #[.agg b.cells] w (Is w (.bool b.right)):=by
 refine (eF Tryz.func273 21) ?_
 refine (JP∘JE) λf g=>(Jp 1∘Jr∘Jg 0 O0∘Jp 2) (Ji (λe=>?_) λe=>?_)
 ·
  refine (Jg 0 O0∘Jp 3) (Ji (λc=>?_) λc=>?_)
  ·
   refine (Jg 1 O0∘Jp 3) (Ji (λd=>?_) λd=>?_)
   ·
    exact (Jg 1 O0∘Jp 3∘aH∘aP∘bC) λa=>Lx a.below (by simp;omega)
   exact (Jp 5∘aH∘aP∘bC) λa=>Lx a.below (by simp;omega)
  exact (Jv 10 [(2,.bool false)]∘aH∘aP∘bC) λa=>Lx a.below (by simp;omega)
 exact (Jv 15 [(2,.bool false)]∘dY∘aP∘bC) λa=>Lx a.below (by simp;omega)
def Xk (b:Bs) (e:Ev) (w:World):Calls abo 274 #[.agg b.cells,.agg e.cells] w (Is w (.bool (b.behind e))):=by
 refine (jf Tryz.func274 17) ?_
 refine (JP∘JE) λd f=>(JE) λg h=>(Jp 1∘Jr∘Jg 0 O0∘Jg 0 O1∘Jp 2) (Ji (λa=>?_) λa=>?_)
 ·
  exact (Jg 1 O0∘Jg 1 O1∘Jp 3∘aH∘aP∘bC) λc=>Xe c.below (by simp;omega)
 exact (Jp 7∘aH∘aP∘bC) λc=>Xe c.below (by simp;omega)
theorem zam (b:Bs) (e:Ev) (S:e.Ok) (B:Nat) (w:World) (W:Laid B w) (T:B<=w.heap.size):Calls abo 244 #[.agg b.cells,.agg e.cells] w (zr w (sI b e) (wZ b e)):=by
 refine (jf Tryz.func244 47) ?_
 refine (JP∘JE) λw2 U=>(JE) λw3 V=>(Jp 2∘Jq) ?_
 obtain ⟨N,y⟩:∃N,e.check=N:=⟨_,rfl⟩
 obtain ⟨m,z⟩:∃m,e.tZ=m:=⟨_,rfl⟩
 have X:abn m<=4:=by rw [<-z];exact zai e
 refine (JG∘JP∘dZ q7 O0∘JK (h:=by exact λc=>zah e S B _ (W.mem c T) (c.le T) y z)) λY cv uV hcv=>(Jp 1∘Jx∘Jx∘bM 2∘bN 2∘aK∘Jj) (Jh (λG=>?_) λG=>?_)
 ·
  exact (JT∘bF 3∘bO) λc=>FB (zg2 y om) rfl c.below
 refine (aU∘JQ∘JP∘dZ iE O2∘JI (h:=by exact λc=>LD b _)) λuW O=>(Jp 2) (Ju (λH=>?_) λH=>?_)
 ·
  exact (Jp 5∘aH∘Jj∘JT∘bF 2∘bO) λc=>FB (Xf om (by simp_all)) rfl c.below
 refine (dZ iE O2∘dZ q7 O1∘JI (h:=by exact λc=>Xk b e _)) λLG O=>(Jp 2∘aH∘Jj) (Ju (λI=>?_) λI=>?_)
 ·
  exact (JT∘bF 2∘bO) λc=>FB (Xf om (by simp_all)) rfl c.below
 have A:b.right=true/\b.behind e=true:=by simp_all
 have p:=zaj S om z A.1 A.2
 obtain ⟨q,J⟩:∃x,(e.seq-b.seq).toNat=x:=⟨_,rfl⟩
 obtain ⟨r,K⟩:∃x,(e.time-b.time).toNat=x:=⟨_,rfl⟩
 rw [J,K] at p
 obtain ⟨j,t⟩:∃j,(q::r::m).flatMap ak=j:=⟨_,rfl⟩
 have hbl:abn j<=60:=by rw [<-t];have:=zq (q::r::m);simp only [abT] at this;omega
 refine (aU∘JP∘Jg 0 O1∘Jg 0 O2∘Jp 1∘Jo (vI (e.seq-b.seq)) (by exact mF ⟨by omega,by omega⟩)∘Jv 1 [(31,vQ (IntKind.u64.wrap (e.seq-b.seq)))]∘Jo (vQ q) (by exact LA p.1 J)∘Jg 1 O1∘Jg 1 O2∘Jp 1∘Jo (vI (e.time-b.time)) (by exact mF ⟨by omega,by omega⟩)∘Jv 1 [(37,vQ (IntKind.u64.wrap (e.time-b.time)))]∘Jo (vQ r) (by exact LA p.2.1 K)∘JU kD #[vQ q,vQ r]) λXl g38=>(Jp 1∘JC (h:=by exact λc=>c.fu (i:=0) (n:=2) (size:=1) rfl rfl de)∘JD (m.map bD) 0 (λ_ _=>aO) kD (hr:=by exact λc=>c.rd (i:=1) rfl) (h1:=by exact Xh _)) λw40 C D M=>(Jp 1∘aH∘Jq) ?_
 have o:(2+abn m)=abn (q::r::m):=aeQ 2 _
 rw [o] at M
 refine (JC (h:=by exact λc=>c.aY (i:=0) (ys:=(q::r::m).map bD) rfl o (rfl))∘Jk 8 (.slice C (abn (q::r::m)) D) (h:=by exact iB o)) λa Z c=>?_
 refine qz (λaS wS=>∃(s:Nat) (F:Option Addr) (E:Nat) (k:Option Addr) (g:Nat),Fr aS 47 [] [(46,.slice k (abn (e.kind::j)) g),(4,.slice k (abn (e.kind::j)) g),(5,vI 0),(25,.bool false),(15,.bool false),(7,vI N),(3,vP V 0),(2,vP U 0)]/\Mem w wS [.row (.slice F (abn j) E) (abn j) (j.map B8) 5 1,.row (.slice k (abn (e.kind::j)) g) (abn (e.kind::j)) ((e.kind::j).map B8) 5 1,.row (.slice C (abn (q::r::m)) D) (abn (q::r::m)) ((q::r::m).map bD) 41 1,.row (.slice Y (abn m) cv) (abn m) (m.map bD) 41 1,.blk V e.cells 73,.blk U b.cells 110]/\(abn j<=E)/\(abn (e.kind::j)<=g)) ?_ ?_
 ·
  refine Jb Z c ((Vs .n []) λXm=>(Vf 0 3∘Vp [3]∘Vc 1 O2) λa Z c u=>?_)
  refine zd [2,4] kr rfl ?_
  refine all_cons ?_ ?_
  ·refine qq Z (i:=2) rfl rfl ?_
   refine jl Z c bn [(0,vB e.kind)] #[vB e.kind] ?_
   clear Z c;intro a P s Z c
   refine ay (c.pk [1,2,3,4]) (λu=>?_)
   refine Vb Z c u ((VK 4 (.f .n) (h:=by exact λc=>Xi (c.rd (i:=1) rfl) p.2.2.1 (by simp only [abT];omega) t)) λF E Q v=>λa Z c u=>?_)
   refine s_on Z 5 rfl ?_
   replace c:=c.fu (i:=1) (n:=1) (size:=1) rfl rfl de
   refine qV Z c (i:=1) rfl bn rfl rfl rfl (news:=(j.map B8)) (c.rd (i:=0) rfl) (sO _) om om rfl de ?_
   clear Z c;intro a R k g Z c l
   refine ay (c.pk [2,3,4,5]) (λu=>?_)
   refine Vb Z c u ((Vp [6,7]∘Vd) ?_)
   have d:(1+abn j)=abn (e.kind::j):=aeQ 1 _
   rw [d] at l
   intro a Z c
   replace c:=c.aY (i:=1) (ys:=(e.kind::j).map B8) rfl d (rfl)
   replace Z:=Z.sp 4 (.slice k (abn (e.kind::j)) g) rfl (iB d)
   replace Z:=Z.sp 46 (.slice k (abn (e.kind::j)) g) rfl (iB d)
   exact ⟨s,F,E,k,g,Z.sub kr,c.pk [0,1,2,3,4,5],v,l⟩
  refine all_cons ?_ all_nil
  refine qq Z (i:=4) rfl rfl ?_
  refine BH Z c [.slice C (abn (q::r::m)) D] (Xi (c.rd (i:=0) rfl) p.2.2.1 (by simp only [abT];omega) t) λF E Q v c a Z=>?_
  refine ay (c.pk [1,2,3,4]) (λu=>?_)
  refine s_on Z 2 rfl (jl Z c bn [(0,vB e.kind)] #[vB e.kind] ?_)
  clear Z c;intro a P s Z c
  refine ay (c.pk [2,3,4,5]) (λu=>?_)
  refine s_on Z 5 rfl ?_
  replace c:=c.fu (i:=0) (n:=1) (size:=1) rfl rfl de
  refine qV Z c (i:=0) rfl bn rfl rfl rfl (news:=(j.map B8)) (c.rd (i:=1) rfl) (sO _) om om rfl de ?_
  clear Z c;intro a R k g Z c l
  refine ay (c.pk [2,3,4,5]) (λu=>?_)
  refine Vb Z c u ((Vp [6,7]∘Vd) ?_)
  have d:(1+abn j)=abn (e.kind::j):=aeQ 1 _
  rw [d] at l
  intro a Z c
  replace c:=c.aY (i:=0) (ys:=(e.kind::j).map B8) rfl d (rfl)
  replace Z:=Z.sp 4 (.slice k (abn (e.kind::j)) g) rfl (iB d)
  replace Z:=Z.sp 46 (.slice k (abn (e.kind::j)) g) rfl (iB d)
  exact ⟨s,F,E,k,g,Z.sub kr,c.pk [1,0,2,3,4,5],v,l⟩
 clear Z c;rintro a w7 ⟨s,F,E,k,g,Z,c,v,l⟩
 exact Jb Z c ((JZ∘bO) λc=>Xg (L:=e.kind::j) (zg4 y om A p t) (c.own (i:=1) rfl) l c.below)
theorem zan (A:Option Addr) (c:Nat) (l:List Ev) (J:∀e∈l,e.Ok) (B:Nat) (w:World) (Q:Laid B w) (N:B<=w.heap.size) (hr:Rd w w.heap.size 11 A (abn l) (l.flatMap eD)) (U:abn l<=140737488355328):Calls abo 171 #[.slice A (abn l) c] w (Is w (.tuple #[.int .i64 (iU l).1,.int .i64 ((iU l).2:Int)])):=by
 refine (eF Tryz.func171 57) ?_
 refine (cO 2∘bN 1∘Jl∘bM 1∘JB) λa Z b=>?_
 refine qg (λO K L=>∃(k:Nat),(k<=abn l)/\(iU l=iD (j5 l k) k (l.drop k))/\O=abn l-k/\Fr K 57 [] (ahK 9 k 8 (abn l) [(7,.slice A (abn l) c),(3,vI 0),(2,vI 0),(0,.slice A (abn l) c)])/\Mem w L []) (m:=abn l-0) ⟨0,abA _,rfl,rfl,Z.sub kr,b.pk []⟩ ?_
 clear Z b;rintro O a V ⟨k,W,t,rfl,Z,b⟩
 refine Jb Z b ((cO 1∘JQ) (Ji (λC=>?_) λC=>?_))
 ·
  have y:k<abn l:=by omega
  obtain ⟨e,u⟩:∃e,l.getD k Ev.zero=e:=⟨_,rfl⟩
  obtain ⟨q,g⟩:∃q,l.getD (k-1) Ev.zero=q:=⟨_,rfl⟩
  have M:e.Ok:=J e (by rw [<-u];exact qf Ev.zero y)
  have z:=row_step (p:=j5 l k) y u
  refine (eO∘aJ 1) ?_
  obtain ⟨gA,o,rfl,_⟩:=hr.sat k
  refine (iC k 11∘pG Ev.cells qU hr q7 k Ev.zero (hk:=y)∘Jo (.agg e.cells) (by rw [u])∘JA aiy) λX D=>(Jp 1∘JV q7 aO (h1:=by exact qR e)) λP=>(Jj∘JQ∘JP∘dZ q7 O0∘JI (h:=by exact λb=>q3w e M B _ (Q.mem b N) (b.le N))) λR S=>(Jp 1∘bQ∘bA 2∘aK∘Jj) (Jh (λE=>?_) λE=>?_)
  ·
   exact (JT∘bF 4∘bO) λb=>OQ (t.trans (z.trans (if_pos om))) rfl b.below
  refine (aU) λa Z b=>?_
  refine qz (λK L=>Fr K 57 [] ((54,.bool (!(j5 l k).all λq=>e.after q))::(17,.bool false)::ahK 6 e.check 4 k ((5,vP D 0)::(10,.bool true)::ahK 9 k 8 (abn l) [(7,.slice (some ⟨gA,o,none⟩) (abn l) c),(3,vI 0),(2,vI 0),(0,.slice (some ⟨gA,o,none⟩) (abn l) c)]))/\Mem w L [.blk D e.cells 73]) ?_ ?_
  ·
   refine Jb Z b ((Vs .n []) λT=>(Vp [0,1,2]) λa Z b f=>?_)
   rcases Z.tf 22 rfl with ⟨r,Z⟩|⟨r,Z⟩
   ·
    have F:=of_decide_eq_true r
    refine Vb Z b f ((Vf 3 2∘Vp [5,6]∘Vc 4 O0∘Vp [7]∘Vo (vI (k-1:Nat)) (by exact LC om om)∘xG 8 (k-1) 11∘Vf 9 2∘Fx 10 qU hr 2 (k-1) Ev.zero∘Vo (vB q.cpu) (by rw [g])∘Vp [11,12]) λa Z b f=>?_)
    rcases Z.tf 32 rfl with ⟨s,Z⟩|⟨s,Z⟩
    ·
     have G:=bne_iff_ne.1 s
     refine Vb Z b f ((Vq [13,14,15,16,17,18,19,20,21,22,23,24,25,26,27,28,29,30,31,32,33] [(53,.bool true)]∘Vq [34] [(54,.bool true)]∘Vo (.bool (!(j5 l k).all λq=>e.after q)) (by exact LB g (by first|exact iff_of_true rfl om|exact iff_of_false de om|exact decide_eq_true_iff.trans om))∘Vd∘aH) λa Z b=>?_)
     exact ⟨Z.sub kr,b.pk [0]⟩
    have G:=bne_eq_false_iff_eq.1 s
    refine ap Z (λ_=>f) [13,15,16] (bf 35 [0,1,2,3,4,5,6,7,8,9,10,11,12,13,15,16]) [(36,vI k),(35,.slice (some ⟨gA,o,none⟩) (abn l) c),(33,vP D 0)] λa Z=>?_
    refine dD Z f 14 0 (v:=vI e.seq) λa Z=>?_
    refine pE Z (λ_=>f) (i:=17) rfl rfl (d:=37) rfl de kr (λ_ _ _ h=>h) (v:=vI (IntKind.i64.wrap ((k:Int)-1))) (λ_=>Yl.pure kr) λa Z=>?_
    replace Z:=Z.sp 37 (vI (k-1:Nat)) rfl (LC om om)
    refine gX Z f 18 rfl (v:=vP gA (o+(k-1)*11)) (Yl.ix gA o (k-1) 11 rfl rfl rfl) λa Z=>?_
    refine ap Z (λ_=>f) [19] (bt 35 [20,21,22,23,24,25,26,27,28,29,30,31,32,33,34]) [(39,vP gA (o+(k-1)*11))] λa Z=>?_
    refine gX Z f 20 rfl (v:=vI ((l.getD (k-1) Ev.zero).seq)) (Pd rfl rfl kr (λ_ h=>(by have:=(h.old hr).partAt qU (k:=(k-1)) (j:=0) (x:=(l.getD (k-1) Ev.zero)) ((getD_at Ev.zero (k:=k-1) om)) rfl;simpa using this))) λa Z=>?_
    replace Z:=Z.sp 40 (vI q.seq) rfl (by rw [g])
    refine ap Z (λ_=>f) [21,22,23] (bt 35 [24,25,26,27,28,29,30,31,32,33,34]) [(43,.bool (decide ((e.seq:Int)<=(q.seq:Int))))] λa Z=>?_
    refine Jb Z b (Ji (λH=>?_) λH=>?_)
    ·
     intro a Z b
     refine ap Z (λ_=>f) [24,25,26,27,28,29,30,31,32,33] (bt 35 [34]) [(53,.bool true)] λa Z=>?_
     refine pE Z (λ_=>f) (i:=34) rfl rfl (d:=54) rfl de kr (λ_ _ _ h=>h) (v:= .bool true) (λ_=>Yl.pure kr) λa Z=>?_
     replace Z:=Z.sp 54 (.bool (!(j5 l k).all λq=>e.after q)) rfl (LB g (by first|exact iff_of_true rfl om|exact iff_of_false de om|exact decide_eq_true_iff.trans om))
     refine qe kr ?_
     exact ⟨Z.sub kr,b.pk [0]⟩
    intro a Z b
    refine ap Z (λ_=>f) [24,26,27] (bt 35 [25,28,29,30,31,32,33,34]) [(47,vI k),(46,.slice (some ⟨gA,o,none⟩) (abn l) c),(44,vP D 1)] λa Z=>?_
    refine dD Z f 25 0 (v:=vI e.time) λa Z=>?_
    refine pE Z (λ_=>f) (i:=28) rfl rfl (d:=48) rfl de kr (λ_ _ _ h=>h) (v:=vI (IntKind.i64.wrap ((k:Int)-1))) (λ_=>Yl.pure kr) λa Z=>?_
    replace Z:=Z.sp 48 (vI (k-1:Nat)) rfl (LC om om)
    refine gX Z f 29 rfl (v:=vP gA (o+(k-1)*11)) (Yl.ix gA o (k-1) 11 rfl rfl rfl) λa Z=>?_
    refine ap Z (λ_=>f) [30] (bt 35 [31,32,33,34]) [(50,vP gA (o+(k-1)*11+1))] λa Z=>?_
    refine gX Z f 31 rfl (v:=vI ((l.getD (k-1) Ev.zero).time)) (Pd rfl rfl kr (λ_ h=>(h.old hr).partAt qU (k:=(k-1)) (j:=1) (x:=(l.getD (k-1) Ev.zero)) ((getD_at Ev.zero (k:=k-1) om)) rfl)) λa Z=>?_
    replace Z:=Z.sp 51 (vI q.time) rfl (by rw [g])
    refine ap Z (λ_=>f) [32,33] (bt 35 [34]) [(53,.bool (decide ((e.time:Int)<(q.time:Int))))] λa Z=>?_
    refine pE Z (λ_=>f) (i:=34) rfl rfl (d:=54) rfl de kr (λ_ _ _ h=>h) (v:= .bool (decide ((e.time:Int)<(q.time:Int)))) (λ_=>Yl.pure kr) λa Z=>?_
    replace Z:=Z.sp 54 (.bool (!(j5 l k).all λq=>e.after q)) rfl (LB g (by first|exact iff_of_true rfl om|exact iff_of_false de om|exact decide_eq_true_iff.trans om))
    refine qe kr ?_
    replace Z:=Z.to ((54,.bool (!(j5 l k).all λq=>e.after q))::(17,.bool false)::ahK 6 e.check 4 k ((5,vP D 0)::(10,.bool true)::ahK 9 k 8 (abn l) [(7,.slice (some ⟨gA,o,none⟩) (abn l) c),(3,vI 0),(2,vI 0),(0,.slice (some ⟨gA,o,none⟩) (abn l) c)]))
    exact ⟨Z.sub kr,b.pk [0]⟩
   have F:=of_decide_eq_false r
   refine ap Z (λ_=>f) [3,4,5,6,7,8,9,10,11,12,13,14,15,16,17,18,19,20,21,22,23,24,25,26,27,28,29,30,31,32,33] (bt 35 [34]) [(53,undef)] λa Z=>?_
   refine pE Z (λ_=>f) (i:=34) rfl rfl (d:=54) rfl de kr (λ_ _ _ h=>h) (v:= .bool false) (λ_=>Yl.pure kr) λa Z=>?_
   replace Z:=Z.sp 54 (.bool (!(j5 l k).all λq=>e.after q)) rfl (LB g (by first|exact iff_of_true rfl om|exact iff_of_false de om|exact decide_eq_true_iff.trans om))
   refine qe kr ?_
   exact ⟨Z.sub kr,b.pk [0]⟩
  clear Z b;rintro a Y ⟨Z,b⟩
  refine Jb Z b (Ju (λI=>?_) λI=>?_)
  ·
   exact (JT∘bF 3∘bO) λb=>OQ (m:=71) (t.trans (z.trans ((if_neg om).trans (if_pos (by simp_all))))) rfl b.below
  refine (aU∘JR∘dx 1∘Jp 1∘aK∘Jq) λa Z b=>?_
  exact ⟨_,om,k+1,by omega,(t.trans (z.trans ((if_neg om).trans ((if_neg (by simp_all)).trans (by rw [zak u]))))),rfl,Z.sub kr,b.pk []⟩
 exact (JF∘JX∘JG∘bF 2∘bO) λb=>OQ (m:=0) (t.trans (zg5 om)) rfl b.below
def q3z (b:Bs) (e:Ev) (a:e.Ok) {l:List Nat} (h:sI b e=0) (hb:zh b e=l) (B:Nat) (w:World) (c:Laid B w) (d:B<=w.heap.size):Calls abo 244 #[.agg b.cells,.agg e.cells] w (zr w 0 l):=by
 have k:=zam b e a B w c d
 have f:wZ b e=l:=by unfold wZ;rw [if_pos h,hb]
 rwa [h,f] at k
def Xn (A:Option Addr) (c:Nat) (l:List Ev) (a:∀e∈l,e.Ok) (B:Nat) (w:World) (b:Laid B w) (d:B<=w.heap.size) (hr:Rd w w.heap.size 11 A (abn l) (l.flatMap eD)) (f:abn l<=140737488355328) {v:Int} {m:Nat} (h:iU l=(v,m)):Calls abo 171 #[.slice A (abn l) c] w (Is w (.tuple #[.int .i64 v,.int .i64 (m:Int)])):=by
 have k:=zan A c l a B w b d hr f
 rwa [h] at k
theorem qt2 (b:Bs) (A:Option Addr) (c:Nat) (l:List Ev) (I:∀e∈l,e.Ok) (B:Nat) (w:World) (hL:Laid B w) (R:B<=w.heap.size) (hr:Rd w w.heap.size 11 A (abn l) (l.flatMap eD)) (hn:abn l<=1000000000000):Calls abo 228 #[.agg b.cells,.slice A (abn l) c] w (zr w (rJ b l) (uH b l)):=by
 refine (jf Tryz.func228 56) ?_
 refine (JP∘JE) λw2 S=>(Jp 2∘Jq) ?_
 obtain ⟨ri,T,q⟩:∃ri T,iU l=(ri,T):=⟨_,_,rfl⟩
 refine (JG∘bN 1∘JI (h:=by exact λg=>Xn A c l I B _ (hL.mem g R) (g.le R) (g.old hr) om q)) λBJ z=>(Jp 1∘Jx∘Jx∘Jp 2∘aH∘bA 2∘aK∘Jj) (Jh (λJ=>?_) λJ=>?_)
 ·
  exact (JT∘bF 3∘bO) λg=>FB (qzv q om) rfl g.below
 obtain ⟨G,r⟩:∃e,l.getD 0 Ev.zero=e:=⟨_,rfl⟩
 refine (aU∘JQ) λa Z g=>?_
 refine qz (λU V=>Fr U 56 [] [(36,.bool (!(b.right&&l.head?.all b.behind))),(19,.bool false),(7,vI T),(5,vI 0),(4,.slice none 0 0),(2,vP S 0),(1,.slice A (abn l) c)]/\Mem w V [.blk S b.cells 110]) ?_ ?_
 ·
  refine Jb Z g ((Vs .n []) λwd4=>(nH 0 iE O0∘VI 1 .n (h:=by exact λg=>LD b _)) λOT z=>(Vp [2,3]) λa Z g o=>?_)
  rcases Z.tf 24 rfl with ⟨K,Z⟩|⟨K,Z⟩
  ·
   refine Vb Z g o ((Vq [4,5,6,7,8,9,10,11,12,13,14] [(35,undef)]∘Vq [15] [(36,.bool true)]∘Vo (.bool (!(b.right&&l.head?.all b.behind))) (by exact BI (by rw [r];first|exact iff_of_true rfl (by simp_all)|exact iff_of_false de (by simp_all;omega)|simp_all))∘Vd∘aH) λa Z g=>?_)
   exact ⟨Z.sub kr,g.pk [0]⟩
  refine ap Z (λ_=>o) [4] (bf 16 [0,1,2,3,4]) [(25,.slice A (abn l) c)] λa Z=>?_
  refine sS Z o 5 λa Z=>?_
  refine ap Z (λ_=>o) [6,7] (bf 16 [0,1,2,3,4,5,6,7]) [(28,.bool (decide ((abn l:Int)>(0:Int))))] λa Z=>?_
  refine Jb Z g (Ji (λM=>?_) λM=>?_)
  ·
   intro a Z g
   refine ap Z (λ_=>o) [9] (bt 16 [8,10,11,12,13,14,15]) [(30,.slice A (abn l) c)] λa Z=>?_
   refine gX Z o 8 rfl (v:= .agg b.cells) (Pe rfl rfl iE rfl (λ_ h=>qj (h.blk (i:=0) rfl))) λa Z=>?_
   revert g;revert a;repeat (first|clear Z|clear g)
   intro a Z g
   obtain ⟨gA,W,rfl,_⟩:=hr.sat 0
   refine gX Z o 10 rfl (v:=vP gA W) (Yl.indexAddr (ad:=⟨gA,W,none⟩) (y:=0) (sz:=11) rfl rfl rfl om kr) λa Z=>?_
   refine gX Z o 11 rfl (v:= .agg ((l.getD 0 Ev.zero).cells)) (Pe rfl rfl q7 rfl (λ_ h=>(h.old hr).qc3 qU ((getD_at Ev.zero (k:=0) om)))) λa Z=>?_
   replace Z:=Z.sp 32 (.agg G.cells) rfl (by rw [r])
   refine s_on Z 12 rfl (jd Z g [.agg b.cells,.agg G.cells] (.bool (b.behind G)) rfl rfl (Xk b G _) λLH z g a Z=>?_)
   refine ay (g.pk [0]) (λo=>?_)
   refine ap Z (λ_=>o) [13,14] (bt 16 [15]) [(35,.bool (!(b.behind G)))] λa Z=>?_
   refine pE Z (λ_=>o) (i:=15) rfl rfl (d:=36) rfl de kr (λ_ _ _ h=>h) (v:= .bool (!(b.behind G))) (λ_=>Yl.pure kr) λa Z=>?_
   replace Z:=Z.sp 36 (.bool (!(b.right&&l.head?.all b.behind))) rfl (BI (by rw [r];first|exact iff_of_true rfl (by simp_all)|exact iff_of_false de (by simp_all;omega)|simp_all))
   refine qe kr ?_
   exact ⟨Z.sub kr,g.pk [0]⟩
  intro a Z g
  refine ap Z (λ_=>o) [8,9,10,11,12,13,14] (bt 16 [15]) [(35,.bool false)] λa Z=>?_
  refine pE Z (λ_=>o) (i:=15) rfl rfl (d:=36) rfl de kr (λ_ _ _ h=>h) (v:= .bool false) (λ_=>Yl.pure kr) λa Z=>?_
  replace Z:=Z.sp 36 (.bool (!(b.right&&l.head?.all b.behind))) rfl (BI (by rw [r];first|exact iff_of_true rfl (by simp_all)|exact iff_of_false de (by simp_all;omega)|simp_all))
  refine qe kr ?_
  exact ⟨Z.sub kr,g.pk [0]⟩
 clear Z g;rintro a w4 ⟨Z,g⟩
 refine Jb Z g (Ju (λp=>?_) λp=>?_)
 ·
  exact (JT∘bF 2∘bO) λg=>FB (qt1 q om (λh=>by rw [h] at p;exact absurd p de)) rfl g.below
 have N:(b.right&&l.head?.all b.behind)=true:=by simpa using p
 refine (aU∘aJ 1∘Jq∘JC (h:=by exact λg=>g.nil 5 1)∘JG∘bN 1∘Jl∘bM 1∘JB) λa Z g=>?_
 refine qg (λmS U V=>∃(k:Nat) (pre:List Nat) (H:Bs) (X:Option Addr) (co:Nat),(k<=abn l)/\(abn pre<=61*k)/\(H=ER b l k)/\(recs b l=pre++recs H (l.drop k))/\(abn pre<=co)/\mS=abn l-k/\Fr U 56 [] (ahK 39 k 38 (abn l) [(37,.slice A (abn l) c),(8,.slice X (abn pre) co),(36,.bool false),(19,.bool false),(7,vI T),(5,vI 0),(4,.slice none 0 0),(2,vP S 0),(1,.slice A (abn l) c)])/\Mem w V [.row (.slice X (abn pre) co) (abn pre) (pre.map B8) 5 1,.blk S H.cells 110]) (m:=abn l-0) ⟨0,[],b,none,0,abA _,abA _,rfl,rfl,abA _,rfl,Z.sub kr,g.pk [0,1]⟩ ?_
 clear Z g;rintro mS a w_ ⟨k,pre,H,X,co,hk,hpl,Y,O,hco,rfl,Z,g⟩
 refine Jb Z g ((cO 1∘JQ) (Ji (λP=>?_) λP=>?_))
 ·
  have C:k<abn l:=by omega
  obtain ⟨e,D⟩:∃e,l.getD k Ev.zero=e:=⟨_,rfl⟩
  have uX:e.Ok:=I e (by rw [<-D];exact qf Ev.zero C)
  have s:=q3y q om N C Y D
  obtain ⟨u,Q⟩:∃u,zh H e=u:=⟨_,rfl⟩
  rw [Q] at s
  refine (eO∘JP) ?_
  obtain ⟨gA,W,rfl,_⟩:=hr.sat k
  refine (iC k 11∘pG Ev.cells qU hr q7 k Ev.zero (hk:=C)∘Jo (.agg e.cells) (by rw [D])∘JA aiy) λqY g10=>(JV q7 aO (h1:=by exact qR e)) λFC=>(bQ∘Jr∘dZ iE O2∘dZ q7 O0∘JK (h:=by exact λg=>q3z H e uX s.1 Q B _ (hL.mem g R) (g.le R))) λAr cr FD hcr=>(Jp 1∘Jx∘Jx∘Jp 2∘ny∘Jj∘Vs (.t (.t (.f .n))) [6]) λOU=>(Vp [0,1]∘nH 3 q7 O1) λa Z g o=>?_
  refine s_on Z 2 rfl (qV Z g (i:=2) rfl bn rfl rfl rfl (news:=(u.map B8)) (g.rd (i:=0) rfl) (sO _) om om rfl de ?_)
  clear Z g;intro a LJ E F Z g x
  refine ay (g.pk [0,1,3]) (λo=>?_)
  refine Vb Z g o ((VI 4 (.t (.t (.f .n))) (h:=by exact λg=>Xj e _)) λXo z=>(Vp [5]) λa Z g o=>?_)
  refine s_on Z 6 rfl (bT Z g 3 rfl rfl rfl rfl rfl iE rfl rfl (K7 e.at) λXp g=>?_)
  refine dN kr ?_
  refine qe kr ?_
  have j:(abn pre+abn u)=abn (pre++u):=by rw [abp]
  rw [j] at x
  replace g:=g.aY (i:=2) (ys:=(pre++u).map B8) rfl j (by rw [abU])
  replace Z:=Z.sp 8 (.slice E (abn (pre++u)) F) rfl (iB j)
  replace Z:=Z.sp 51 (.slice E (abn (pre++u)) F) rfl (iB j)
  refine Jb Z g ((JG∘JR∘dx 1∘Jp 1∘aK∘Jq) λa Z g=>?_)
  exact ⟨_,om,k+1,(pre++u),e.at,E,F,by omega,by rw [abp];omega,s.2.2.1,(O.trans (by rw [s.2.1,abu])),x,rfl,Z.sub kr,g.pk [2,3]⟩
 exact (JF∘JX∘JG∘bF 3∘bO) λg=>Xg (L:=pre) (qzw q om N O om) (g.own (i:=0) rfl) hco g.below
def zao (b:Bs) (A:Option Addr) (n c:Nat) (l:List Ev) (a:∀e∈l,e.Ok) (B:Nat) (w:World) (d:Laid B w) (f:B<=w.heap.size) (hr:Rd w w.heap.size 11 A n (l.flatMap eD)) (g:n<=1000000000000) {er:Nat} {R:List Nat} (h1:rJ b l=er) (h:uH b l=R):
  Calls abo 228 #[.agg b.cells,.slice A n c] w (zr w er R):=by
 obtain rfl:abn l=n:=V5 hr
 subst h1;subst h
 exact qt2 b A c l a B w d f hr g
def zlf (A:Option Addr) (n c:Nat) (l:List Ev) (a:∀e∈l,e.Ok) (B:Nat) (w:World) (b:Laid B w) (d:B<=w.heap.size) (hr:Rd w w.heap.size 11 A n (l.flatMap eD)) (f:n<=140737488355328) {i:Int} {er:Nat} (h:iU l=(i,er)):
  Calls abo 171 #[.slice A n c] w (Is w (.tuple #[.int .i64 i,.int .i64 (er:Int)])):=by
 obtain rfl:abn l=n:=V5 hr
 exact Xn A c l a B w b d hr f h
abbrev ahQ:=λa=>(.blk a #[vI 0,vI 0,vB 0,vB 0,vI 0,vI 0,vI 0,vI 0,vI 0,vQ 0,vI 0] 73:Fact)
def q31 (e:Ev) (he:e.Ok) (A:Option Addr) (c:Nat) (vs:List Nat) (B:Nat) (w:World) (P:Laid B w) (K:B<=w.heap.size) (hr:Rd w w.heap.size 1 A (abn vs) (vs.map bD)) (Q:∀x∈vs,x<18446744073709551616):
    Calls abo 319 #[.agg e.cells,.slice A (abn vs) c] w (mO w (e.dQ vs) (e.cK vs)):=by
 refine (jf Tryz.func319 66) ?_
 refine (JP∘JE) λw2 L=>(JA aiy) λw4 M=>(bM 1∘JQ) λa Z b=>?_
 refine qz (λR S=>Fr R 66 [] [(17,.bool (decide (e.kind=0\/10<e.kind))),(5,vI 0),(4,vP M 0),(2,vP L 0),(1,abk A vs c)]/\Mem w S [ahQ M,.blk L e.cells 73]) ?_ ?_
 ·
  refine zn ?_
  refine Jb Z b ((Jg 3 O1∘Jp 2) (Je (λu=>?_) λu=>?_))
  ·
   refine (Jp 4∘aH∘Jq) λa Z b=>?_
   have Z:=Z.sp 17 (.bool (decide (e.kind=0\/10<e.kind))) rfl (nV (by simp only [decide_eq_true_eq];first|omega|exact iff_of_true trivial om|exact iff_of_false id om))
   exact ⟨Z.sub kr,b.pk [0,1]⟩
  refine (Jg 3 O1∘Jp 2∘kW∘Jq) λa Z b=>?_
  have Z:=Z.sp 17 (.bool (decide (e.kind=0\/10<e.kind))) rfl (nV (by simp only [decide_eq_true_eq];first|omega|exact iff_of_true trivial om|exact iff_of_false id om))
  exact ⟨Z.sub kr,b.pk [0,1]⟩
 clear Z b;rintro a w1 ⟨Z,b⟩
 refine Jb Z b (Ju (λf=>?_) λf=>?_)
 ·
  have z:=of_decide_eq_true f
  have C:=of_decide_eq_true f
  refine (JT∘JP∘Jy (v:= .agg Ev.zero.cells) (h:=by exact (Yl.build (vs:=[]) rfl kr kr))∘JV q7 aO (h1:=by exact qR Ev.zero)) λBK=>(Jp 1∘aK∘aP) λa Z b=>?_
  exact dI rfl Z (.cellS (i:=0) Z b rfl rfl q7 rfl) (.tmp Z rfl) (Fz (zag C) rfl b.below rfl)
 have z:=of_decide_eq_false f
 have d:=of_decide_eq_false f
 obtain ⟨N,cu,T,D⟩:=P.uses e.kind om
 have E:2<w.heap.size:=Nat.lt_of_lt_of_le P.big K
 have hu:w.cell? ⟨2,e.kind*1,none⟩=some (.slice N (abn (aB e.kind)) cu):=by rw [acX];exact T
 have G:=D.more K
 have hul:=zO e.kind
 refine (aU∘bN 1∘Jl∘Jg 3 O1∘Jy (v:=vP 2 (e.kind*1)) (h:=by exact (Yl.sP (ad:=⟨2,0,none⟩) (m:=11) (y:=e.kind) (sz:=1) rfl rfl rfl kr om).as (by rw [acC,ab7]))∘Jy (v:= .slice N (abn (aB e.kind)) cu) (h:=by exact Pd rfl rfl kr (λ_ h=>h.z8 hu E))∘Jl∘Jp 1∘aH∘Jj) (Jh (λH=>?_) λH=>?_)
 ·
  refine (JT∘JP∘Jy (v:= .agg Ev.zero.cells) (h:=by exact (Yl.build (vs:=[]) rfl kr kr))∘JV q7 aO (h1:=by exact qR Ev.zero)) λFE=>(Jp 1∘aK∘aP) λa Z b=>?_
  exact dI rfl Z (.cellS (i:=0) Z b rfl rfl q7 rfl) (.tmp Z rfl) (Fz (zg0 d om) rfl b.below rfl)
 have l:abn vs=abn (aB e.kind):=by omega
 refine (aU∘JP∘Jg 0 O1∘Jg 1 O1∘Jg 2 O1∘Jg 3 O1∘Jy (v:= .agg e.base.cells) (h:=by exact (Yl.build (vs:=(ahK 0 e.seq 1 e.time [(2,vB e.cpu),(3,vB e.kind)])) rfl kr kr))∘JA aiy) λw6 g6=>(JV q7 aO (h1:=by exact qR e.base)) λU=>(kW∘bA 1∘Jj∘JQ∘JP∘Jg 3 O2∘Jy (v:=vP 2 (e.kind*1)) (h:=by exact (Yl.sP (ad:=⟨2,0,none⟩) (m:=11) (y:=e.kind) (sz:=1) rfl rfl rfl kr om).as (by rw [acC,ab7]))∘Jy (v:= .slice N (abn (aB e.kind)) cu) (h:=by exact Pd rfl rfl kr (λ_ h=>h.z8 hu E))∘Jl∘bM 1∘JB) λa Z b=>?_
 refine qg (λmS R S=>∃(k:Nat) (o:Ev) (g:Bool),(k<=abn (aB e.kind))/\(o=e.base.fill (((aB e.kind).zip vs).take k))/\(g=(((aB e.kind).zip vs).take k).all λp=>Ev.fits p.1 p.2)/\mS=abn (aB e.kind)-k/\Fr R 66 [] (ahK 42 k 41 (abn (aB e.kind):Nat) [(40,abk N (aB e.kind) cu),(7,.bool g),(6,vP g6 0),(26,.bool false),(17,.bool false),(5,vI 0),(4,vP M 0),(2,vP L 0),(1,abk A vs c)])/\Mem w S [.blk g6 o.cells 73,ahQ M,.blk L e.cells 73]) (m:=abn (aB e.kind)-0) ⟨0,e.base,true,abA _,rfl,rfl,rfl,Z.sub kr,b.pk [0,1,2]⟩ ?_
 clear Z b;rintro mS a w_ ⟨k,o,g,hk,O,n,rfl,Z,b⟩
 refine Jb Z b ((cO 1∘JQ) (Ji (λI=>?_) λI=>?_))
 ·
  have V:k<abn (aB e.kind):=by omega
  obtain ⟨i,hi⟩:∃i,(aB e.kind)[k]?=some i:=⟨_,abq V⟩
  have W:=Bl _ _ (abH hi)
  obtain ⟨x,hx⟩:∃x,vs[k]?=some x:=⟨_,abq om⟩
  have q:=zaf hi hx
  refine (eO∘aJ 1) ?_
  obtain ⟨gAu,oAu,rfl,_⟩:=G.sat k
  refine (iC k 1∘Jy (v:=vI i) (h:=by exact Pd rfl rfl kr (λ_ h=>(h.old G).Bu (k:=k) (uM (F:=dM) (k:=k) (x:=i) (hi))))∘bM 2∘JR∘Jp 3) ?_
  obtain ⟨gA,oA,rfl,_⟩:=hr.sat k
  refine (iC k 1∘Jy (v:=vQ x) (h:=by exact Pd rfl rfl kr (λ_ h=>(h.old hr).Bu (k:=k) (uM (F:=bD) (k:=k) (x:=x) (hx))))∘JO (h:=by exact λb=>zlc (b.pk [0,1,2]) W)) λw52=>(Jp 1) (Ju (λj=>?_) λj=>?_)
  ·
   refine (Jp 3∘aH∘Jq) λa Z b=>?_
   have Z:=Z.sp 7 (.bool (g&&Ev.fits i x)) rfl (by rw [j,Bool.and_true])
   refine Jb Z b ((JG∘JR∘dx 1∘Jp 1∘aK∘Jq) λa Z b=>?_)
   exact ⟨_,om,k+1,(o.put i x),(g&&Ev.fits i x),by omega,by rw [q,VJ,<-O],by rw [q,agL,<-n];simp,rfl,Z.sub kr,b.pk [0,1,2]⟩
  refine (Jp 3∘aH∘Jq) λa Z b=>?_
  have Z:=Z.sp 7 (.bool (g&&Ev.fits i x)) rfl (by rw [j,Bool.and_false])
  refine Jb Z b ((JG∘JR∘dx 1∘Jp 1∘aK∘Jq) λa Z b=>?_)
  exact ⟨_,om,k+1,(o.put i x),(g&&Ev.fits i x),by omega,by rw [q,VJ,<-O],by rw [q,agL,<-n];simp,rfl,Z.sub kr,b.pk [0,1,2]⟩
 have hz:((aB e.kind).zip vs).take k=((aB e.kind).zip vs):=abI (by rw [List.length_zip];omega)
 rw [hz] at O n
 have s:o=e.made vs:=O
 have X:o.Ok:=by rw [s];exact Oa (VG he) _ (λp hp=>Q p.2 (List.of_mem_zip hp).2)
 refine (JF∘JX∘JG∘bN 3) (Ju (λr=>?_) λr=>?_)
 ·
  refine (Jp 4∘aH∘Jj∘JT∘JP∘Jy (v:= .agg Ev.zero.cells) (h:=by exact (Yl.build (vs:=[]) rfl kr kr))∘JV q7 fJ (h1:=by exact qR Ev.zero)) λt=>(Jp 1∘aK∘aP) λa Z b=>?_
  exact dI rfl Z (.cellS (i:=1) Z b rfl rfl q7 rfl) (.tmp Z rfl) (Fz (Xd d l (by exact Bn e vs l (by rw [<-n];simpa using r))) rfl b.below rfl)
 refine (dZ q7 O0∘JL (h:=by exact λb=>N9 o X B _ (P.mem b K) (b.le K))) ?_
 rintro b _ w61 ⟨rfl,Y⟩
 refine ⟨_,rfl,_,b.call Y,?_⟩
 refine (Jp 2∘aH∘Jj) (Jh (λJ=>?_) λJ=>?_)
 ·
  refine (JT∘JP∘Jy (v:= .agg Ev.zero.cells) (h:=by exact (Yl.build (vs:=[]) rfl kr kr))∘JV q7 fJ (h1:=by exact qR Ev.zero)) λt=>(Jp 1∘aK∘aP) λa Z b=>?_
  exact dI rfl Z (.cellS (i:=1) Z b rfl rfl q7 rfl) (.tmp Z rfl) (Fz (Xd d l (by rw [<-s];omega)) rfl b.below rfl)
 refine (aU∘JP∘dZ q7 O0∘JV q7 fJ (h1:=by exact qR o)) λXq=>(Jp 1∘aK∘aP) λa Z b=>?_
 exact dI rfl Z (.cellS (i:=1) Z b rfl rfl q7 rfl) (.tmp Z rfl) (Fz (zg1 d l s om) rfl b.below rfl)
def zap (e:Ev) (b:e.Ok) (A:Option Addr) (n c:Nat) (vs:List Nat) (B:Nat) (w:World) (d:Laid B w) (f:B<=w.heap.size) (hr:Rd w w.heap.size 1 A n (vs.map bD)) (a:∀x∈vs,x<18446744073709551616):
  Calls abo 319 #[.agg e.cells,.slice A n c] w (mO w (e.dQ vs) (e.cK vs)):=by
 obtain rfl:abn vs=n:=by simpa using hr.len
 exact q31 e b A c vs B w d f hr a
def q32 (A:Option Addr) (n c:Nat) (l:List Nat) (w:World) (hr:Rd w w.heap.size 1 A n (l.map B8)) (d:∀b∈l,b<256) (f:n<=100000000000000) {x m e:Nat} (h:aD l=(x,m,e)):Calls abo 52 #[.slice A n c] w (Is w (.tuple #[.int .u64 (x:Int),.int .i64 (m:Int),.int .i64 (e:Int)])):=by
 have k:=K3 A n c l w hr d om
 rw [h] at k
 exact k.mono λ_ _ ⟨h,a⟩=>⟨h,by first|exact a|(subst a;exact Below.refl _ _)⟩
def kI (xs:List Nat) (q:Nat) (r:List Nat×Nat×Nat):List Nat×Nat×Nat:=if r.2.2≠0 then ([],0,r.2.2) else (xs++r.1,q+r.2.1,0)
section
variable {xs l:List Nat} {q k x m e:Nat}
theorem q33:∀{k:Nat} {l:List Nat},(aV k l).2.2≠0->aV k l=([],0,(aV k l).2.2):=by intro x;cases x<;>grind [aV]
theorem zlg:aV k l=kI [] 0 (aV k l):=by grind [kI,aV,q33]
def zaq (h:aD l=(x,m,e)) (a:e≠0):kI xs q (aV (k+1) l)=([],0,e):=by
 rw [aV,h,if_pos a]
 unfold kI
 exact if_pos a
theorem q34 (h:aD l=(x,m,e)) (a:e=0):kI xs q (aV (k+1) l)=kI (xs++[x]) (q+m) (aV k (l.drop m)):=by grind [kI,aV]
def zar:kI xs q (aV 0 l)=(xs,q,0):=by
 show (xs++[],q+0,0)=_
 rw [abP]
 rfl
end
def BL {R:Ev×Nat×Nat} {ev:Ev} {v u:Int} (h:R=(ev,n,m)) (a:v=(n:Int)) (c:u=(m:Int)) (hb:Below w.heap.size w W) {C:Array Value} (hc:C=ev.cells):Is w (.tuple #[.agg R.1.cells,.int .i64 (R.2.1:Int),.int .i64 (R.2.2:Int)]) (.returned (.tuple #[.agg C,.int .i64 v,.int .i64 u])) W:=by
 subst h a c hc
 exact ⟨rfl,hb⟩
section
variable {b:Bs} {cpu kd:Nat} {l xs:List Nat} {q e:Nat}
def zg6 (h:b.right=false):bq b cpu l=(Ev.zero,0,70):=by unfold bq;exact if_pos h
theorem zg7 (h:b.right=true) (h1:abn l=0):bq b cpu l=(Ev.zero,0,10):=by grind [bq]
theorem zg8 (h:b.right=true) (h1:abn l≠0) (hk:l.getD 0 0=kd) (a:abn (aB kd)=0):bq b cpu l=(Ev.zero,0,60):=by grind [bq]
theorem LK (h:b.right=true) (h1:abn l≠0) (hk:l.getD 0 0=kd) (a:abn (aB kd)≠0):bq b cpu l=sJ b cpu kd (aV (2+abn (aB kd)) (l.drop 1)):=by grind [bq]
def q35 (h:e≠0):sJ b cpu kd ([],0,e)=(Ev.zero,0,e):=by unfold sJ;exact if_pos h
theorem qt3 (a:xs.getD 0 0=c) (h1:xs.getD 1 0=g) (h:281474976710656-b.seq<(c:Int)\/281474976710656-b.time<(g:Int)):sJ b cpu kd (xs,q,0)=(Ev.zero,0,61):=by grind [sJ]
theorem qzx {E:Ev} (a:xs.getD 0 0=c) (h1:xs.getD 1 0=g) (h:¬(281474976710656-b.seq<(c:Int)\/281474976710656-b.time<(g:Int))) (d:b.ev cpu kd c g=E) (f:E.cK (xs.drop 2)=er) (i:er≠0):sJ b cpu kd (xs,q,0)=(Ev.zero,0,61):=by grind [sJ]
theorem qzy {E:Ev} (a:xs.getD 0 0=c) (h1:xs.getD 1 0=g) (h:¬(281474976710656-b.seq<(c:Int)\/281474976710656-b.time<(g:Int))) (d:b.ev cpu kd c g=E) (f:E.cK (xs.drop 2)=er) (i:er=0):sJ b cpu kd (xs,q,0)=(E.dQ (xs.drop 2),1+q,0):=by grind [Ev.dQ,sJ]
end
def zg9 {b:Bs} {cpu kd:Nat} (hb:1<=b.seq/\b.seq<=281474976710656/\0<=b.time/\b.time<=281474976710656) (h1:cpu<256) (a:kd<256) (d:(c:Int)<=281474976710656) (f:(g:Int)<=281474976710656):(b.ev cpu kd c g).Ok:=
 ⟨show aW (b.seq+c) by unfold aW;omega,show aW (b.time+g) by unfold aW;omega,h1,a,zy,zy,zy,zy,zy,by show 0<18446744073709551616;decide,zy⟩
def Xr (E:Ev) (d:E.Ok) (A:Option Addr) (n c:Nat) (vs:List Nat) (B:Nat) (w:World) (f:Laid B w) (g:B<=w.heap.size) (hr:Rd w w.heap.size 1 A n (vs.map bD)) (a:∀x∈vs,x<18446744073709551616) {er:Nat} (h:E.cK vs=er):Calls abo 319 #[.agg E.cells,.slice A n c] w (Is w (.tuple #[.agg (E.dQ vs).cells,.int .i64 (er:Int)])):=by
 subst h
 exact (zap E d A n c vs B w f g hr a).mono λ_ _ h=>⟨h.ret,h.below⟩
def aaI {cap:Nat} (h:Rd w B 1 A n (l.map bD)) (hk:k<=n) (hc:n<=cap):Rd w B 1 (if cap=k then A else A.map (·.add (k*1))) (n-k) ((l.drop k).map bD):=by
 have a:=h.from hk hc
 rw [List.map_drop]
 have e:(l.map bD).drop (k*1)=(l.map bD).drop k:=by rw [acX]
 rw [<-e]
 exact a
def qzz (kd:Nat) (a:kd<256) (B:Nat) (w:World) (d:Laid B w) (f:B<=w.heap.size):Calls abo 317 #[.int .u8 (kd:Int)] w λr g=>∃A c,r= .returned (.slice A (abn (aB kd)) c)/\Below w.heap.size w g:=
 (qzl kd a B w d f).mono λ_ _ ⟨v, xs, h, i, j⟩ => by
  obtain ⟨A,c,rfl,hc⟩:=Br i
  exact ⟨A,c,h,j⟩
def q36 (W w:World) (b d:Nat) (A:Option Addr) (c:Nat) (l:List Nat) (q:Nat) (fr:List Fact) (k:∀z∈l,z<256) (n:q<=abn l) (y:abn l<=100000000000) (hr:Rd W W.heap.size 1 A (abn l) (l.map B8)) (hc:abn l<=c)
    (f:Mem W w (.blk b #[.slice A (abn l) c] 30:: .blk d #[.int .i64 (q:Int)] 3::fr)) {x m e p:Nat} (g:aD (l.drop q)=(x,m,e)) (o:q+m=p):
    Calls abo 318 #[.pointer (some ⟨b,0,none⟩),.pointer (some ⟨d,0,none⟩)] w λr s=>r= .returned (.tuple #[.int .u64 (x:Int),.int .i64 (e:Int)])/\Mem W s (ahF b A (abn l) c::.blk d #[.int .i64 (p:Int)] 3::fr):=by
 refine oD Tryz.func318 [vP b 0,vP d 0] [(0,vP b 0),(1,vP d 0)] λa Z=>?_
 refine Jb Z f ((aJ 2∘Jq) ?_)
 have t:m<=abn l-q:=by have h:=xg (l.drop q);rwa [g,abC] at h
 exact (JG∘JP∘Jc O0∘Jc O1∘Jy (h:=by exact aae bn (j:=q) rfl rfl rfl om)∘JI (h:=by exact λf=>q32 _ _ _ (l.drop q) _ (Rd.E9 (f.old hr) n hc) (λz hz=>k z (abL hz)) om g)) λu v=>(Jp 1∘Jx∘Jx∘Jx∘Jp 3∘Jr∘Jc O1∘Jp 2∘Jo (vI p) (by exact za om om)∘JW fJ aO) λi=>(nT∘bA 4∘aP∘bO) λf=>by exact ⟨rfl,f.pt (fs':=(ahF b A (abn l) c::ahJ d p::fr)) 2 [0,1]⟩
abbrev ah1:=λa b c d e f g h i=>((12,.slice a b c)::(11,.func (.func 318) #[] #[vP d 0,vP e 0])::(10,vP e 0)::(31,.bool false)::(9,vI f)::(23,.bool false)::(19,.bool false)::(8,vI 0)::(7,vI 0)::(6,vP g 0)::(5,vP d 0)::(3,vP h 0)::i:List (Nat×Go.Value))
def q37 (b:Bs) (cpu:Nat) (BM:cpu<256) (A:Option Addr) (c:Nat) (l:List Nat) (B:Nat) (w:World) (hL:Laid B w) (hB:B<=w.heap.size) (hr:Rd w w.heap.size 1 A (abn l) (l.map B8)) (hc:abn l<=c) (hl:∀z∈l,z<256) (hn:abn l<=100000000000):Calls abo 311 #[.agg b.cells,.int .u8 (cpu:Int),.slice A (abn l) c] w (Is w (.tuple #[.agg (bq b cpu l).1.cells,.int .i64 ((bq b cpu l).2.1:Int),.int .i64 ((bq b cpu l).2.2:Int)])):=by
 refine (uU Tryz.func311 101) ?_
 refine (JP∘JE) λw3 U=>(uT) λw5 J=>(JA aiy) λw6 g6=>(bM 2∘JQ∘JP∘dZ iE O2∘JI (h:=by exact λg=>LD b _)) λuW V=>(Jp 1∘bQ∘Jj) (Ju (λP=>?_) λP=>?_)
 ·
  refine (JT∘JP∘eH aiy∘JV q7 aO) λBK=>(bM 2∘JZ) λa Z g=>?_
  exact iN rfl Z (.cellS (i:=0) Z g rfl rfl q7 rfl) (.tmp Z rfl) (.tmp Z rfl) (BL (zg6 (by simpa using P)) rfl rfl g.below rfl)
 have D:b.right=true:=by simpa using P
 refine (aU∘JQ∘JP∘Jc O1∘Jl∘Jp 1∘bQ∘Jj) (Je (λOV=>?_) λOV=>?_)
 ·
  refine (JT∘JP∘eH aiy∘JV q7 aO) λFE=>(bM 2∘JZ) λa Z g=>?_
  exact iN rfl Z (.cellS (i:=0) Z g rfl rfl q7 rfl) (.tmp Z rfl) (.tmp Z rfl) (BL (zg7 D om) rfl rfl g.below rfl)
 obtain ⟨s,p⟩:∃z,l.getD 0 0=z:=⟨_,rfl⟩
 have hkd:s<256:=by rw [<-p];exact hl _ (qf 0 om)
 have hul:=zO s
 refine (aU∘JP∘Jc O1) ?_
 obtain ⟨gA,oA,rfl,_⟩:=hr.sat 0
 refine (Jy (v:=vP gA oA) (h:=by exact Yl.indexAddr (ad:=⟨gA,oA,none⟩) (y:=0) (sz:=1) rfl rfl rfl om kr)∘Jy (v:=vB (l.getD 0 0)) (h:=by exact aad hr 0 0 om rfl rfl)∘Jo (vB s) (by rw [p])∘JL (h:=by exact λg=>qzz s hkd B _ (hL.mem g hB) (g.le hB))) ?_
 rintro g _ FH ⟨Af,cf,rfl,V⟩
 refine ⟨_,rfl,_,g.call V,?_⟩
 refine (Jl∘Jp 1∘kW∘Jj∘bN 2∘aK∘Jj) (Je (λhd31=>?_) λhd31=>?_)
 ·
  refine (JT∘JP∘eH aiy∘JV q7 aO) λagA=>(bM 2∘JZ) λa Z g=>?_
  exact iN rfl Z (.cellS (i:=0) Z g rfl rfl q7 rfl) (.tmp Z rfl) (.tmp Z rfl) (BL (zg8 D om p om) rfl rfl g.below rfl)
 refine (aU∘JP∘JA #[vI 0]) λqY o=>(JW aO aO) λBN=>(Jr∘Jy (h:=by exact Yl.makeFunc (fst:=[]) (caps:=[vP J 0,vP o 0]) rfl rfl rfl)∘Jp 1∘aK∘bA 1∘Jq∘JC (h:=by exact λg=>g.nil 41 1)∘JG∘bN 2∘Jo (vI (2+abn (aB s):Nat)) (by exact za om om)∘bM 1∘JB) λa Z g=>?_
 refine qg (λmS aS wS=>∃(k:Nat) (q:Nat) (xs:List Nat) (W:Option Addr) (K:Nat),(k<=2+abn (aB s))/\(abn xs=k)/\(q+1<=abn l)/\(∀x∈xs,x<18446744073709551616)/\(aV (2+abn (aB s)) (l.drop 1)=kI xs q (aV (2+abn (aB s)-k) (l.drop (q+1))))/\(abn xs<=K)/\mS=2+abn (aB s)-k/\Fr aS 101 [] (ahK 36 k 35 (2+abn (aB s):Nat) (ah1 W (abn xs) K J o (abn (aB s):Nat) g6 U [(1,vB cpu)]))/\Mem w wS [.row (.slice W (abn xs) K) (abn xs) (xs.map bD) 41 1,ahJ o (q+1:Nat),ahQ g6,ahF J (some ⟨gA,oA,none⟩) (abn l) c,.blk U b.cells 110]) (m:=2+abn (aB s)-0) ⟨0,0,[],none,0,abA _,rfl,om,(λx hx=>by cases hx),zlg,abr _,rfl,Z.sub kr,g.pk [0,1,2,3,4]⟩ ?_
 clear Z g;rintro mS a w_ ⟨k,q,xs,W,K,hk,hxl,hq,Q,G,hcx,rfl,Z,g⟩
 refine Jb Z g ((cO 1∘JQ) (Ji (λOW=>?_) λOW=>?_))
 ·
  have hqq:q+1<=abn l:=by omega
  obtain ⟨⟨x,m,e⟩,R⟩:∃r,aD (l.drop (q+1))=r:=⟨_,rfl⟩
  have hxb:x<18446744073709551616:=by have h:=qc6 (l.drop (q+1)) (λz hz=>hl z (abL hz));rwa [R] at h
  have hml:m<=abn l- (q+1):=by have h:=xg (l.drop (q+1));rwa [R,abC] at h
  obtain ⟨N,hN⟩:∃N,2+abn (aB s)-k=N+1:=⟨2+abn (aB s)-k-1,by omega⟩
  rw [hN] at G
  refine (eO∘aJ 1) λa Z g=>?_
  refine fo Z 1 rfl rfl ?_
  replace g:=g.pk (fs':=[ahF J (some ⟨gA,oA,none⟩) (abn l) c,ahJ o (q+1:Nat),.row (.slice W (abn xs) K) (abn xs) (xs.map bD) 41 1,ahQ g6,.blk U b.cells 110]) [3,1,0,2,4]
  refine zg Z (f:=318) (vs:=[]) (fst:=[]) (caps:=[vP J 0,vP o 0]) rfl rfl rfl kr rfl de (q36 w _ J o _ c l (q+1) [.row (.slice W (abn xs) K) (abn xs) (xs.map bD) 41 1,ahQ g6,.blk U b.cells 110] hl hqq om hr hc g R (show q+1+m=q+m+1 by omega)) ?_
  rintro _ w40 ⟨rfl,hm⟩
  refine ⟨_,rfl,?_⟩
  replace g:=hm
  clear Z;intro a Z
  refine Jb Z g ((Jp 1∘Jx∘Jx∘bM 2∘bN 2∘aK∘Jj) (Jh (λOX=>?_) λOX=>?_))
  ·
   refine (JT∘JP∘eH aiy∘Jp 1∘JV q7 oV) λFI=>(bM 2∘JZ) λa Z g=>?_
   exact iN rfl Z (.cellS (i:=3) Z g rfl rfl q7 rfl) (.tmp Z rfl) (.tmp Z rfl) (BL ((LK D om p om).trans ((congrArg _ (G.trans (zaq R om))).trans (q35 om))) rfl rfl g.below rfl)
  refine (aU∘JR∘Jp 2∘JU kD #[vQ x]) λAa Xu=>(JD ([x].map bD) 3 (λ_ _=>oV) kD (hr:=by exact λg=>g.bB (i:=0) (n:=1) (size:=1) rfl rfl) (h1:=by exact Xh _)) λFJ xH xI FK=>(Jp 1∘gq∘Jq) ?_
  have H:(abn xs+1)=abn (xs++[x]):=by rw [abp];rfl
  rw [H] at FK
  refine (JC (h:=by exact λg=>g.aY (i:=3) (ys:=(xs++[x]).map bD) rfl H (by rw [abU]))∘Jk 12 (.slice xH (abn (xs++[x])) xI) (h:=by exact iB H)∘JG∘JR∘dx 1∘Jp 1∘aK∘Jq) λa Z g=>?_
  exact ⟨_,om,k+1,(q+m),(xs++[x]),xH,xI,by omega,by rw [abp,hxl];rfl,by omega,(λy hy=>by rcases ab6.1 hy with h|h;exact Q y h;rw [List.mem_singleton.1 h];exact hxb),(G.trans ((q34 R om).trans (by rw [acQ,show 2+abn (aB s)- (k+1)=N by omega,show q+1+m=q+m+1 by omega]))),FK,rfl,Z.sub kr,g.pk [3,2,4,1,5]⟩
 have agB:abn xs=2+abn (aB s):=by omega
 rw [show 2+abn (aB s)-k=0 by omega,zar] at G
 obtain ⟨S,L⟩:∃z,xs.getD 0 0=z:=⟨_,rfl⟩
 obtain ⟨M,O⟩:∃z,xs.getD 1 0=z:=⟨_,rfl⟩
 have agC:=Q S (by rw [<-L];exact qf 0 om)
 have agD:=Q M (by rw [<-O];exact qf 0 om)
 have hbr:=of_decide_eq_true D
 refine (JF∘JX∘JG∘JQ) λa Z g=>?_
 refine qz (λaS wS=>Fr aS 101 [] ((69,.bool (decide (281474976710656-b.seq<(S:Int)\/281474976710656-b.time<(M:Int))))::(37,.bool false)::ahK 36 k 35 (2+abn (aB s):Nat) (ah1 W (abn xs) K J o (abn (aB s):Nat) g6 U [(1,vB cpu)]))/\Mem w wS [.row (.slice W (abn xs) K) (abn xs) (xs.map bD) 41 1,ahJ o (q+1:Nat),ahQ g6,ahF J (some ⟨gA,oA,none⟩) (abn l) c,.blk U b.cells 110]) ?_ ?_
 ·
  refine Jb Z g ((Vs .n []) λBO=>(Vp [0]∘Vf 3 0) ?_)
  repeat (first|clear Z|clear g|clear u)
  intro a Z g u
  obtain ⟨C,rfl⟩:=g.rat 0 0
  refine Vb Z g u ((Vy 1 (v:=vP C 0) (h:=by exact Yl.indexAddr (ad:=⟨C,0,none⟩) (y:=0) (sz:=1) rfl rfl rfl om kr)∘Vy 2 (v:=vQ (xs.getD 0 0)) (h:=by exact aaf 0 0 0 om rfl rfl rfl)∘Vo (vQ S) (by rw [L])∘Vc 4 O4∘Vp [5]∘Vo (vI (281474976710656-b.seq)) (by exact mF ⟨by omega,by omega⟩)∘Vq [6] [(58,vQ (IntKind.u64.wrap (281474976710656-b.seq)))]∘Vo (vQ ((281474976710656-b.seq).toNat)) (by exact LA ⟨by omega,by omega⟩ rfl)∘Vp [7,8]) λa Z g u=>?_)
  rcases Z.tf 60 rfl with ⟨T,Z⟩|⟨T,Z⟩
  ·
   have OY:=of_decide_eq_true T
   refine Vb Z g u ((Vq [9,10,11,12,13,14,15,16] [(68,undef)]∘Vq [17] [(69,.bool true)]∘Vo (.bool (decide (281474976710656-b.seq<(S:Int)\/281474976710656-b.time<(M:Int)))) (by exact nV (by simp only [decide_eq_true_eq];first|omega|exact iff_of_true trivial om|exact iff_of_false id om))∘Vd∘aH) λa Z g=>?_)
   exact ⟨Z.sub kr,g.pk [0,1,2,3,4]⟩
  have OY:=of_decide_eq_false T
  refine ap Z (λ_=>u) [9,12] (bt 18 [10,11,13,14,15,16,17]) [(64,vP U 1),(61,vS C (abn xs) K)] λa Z=>?_
  refine gX Z u 10 rfl (v:=vP C 1) (Yl.indexAddr (ad:=⟨C,0,none⟩) (y:=1) (sz:=1) rfl rfl rfl om kr) λa Z=>?_
  refine gX Z u 11 rfl (v:=vQ (xs.getD 1 0)) (aaf 0 1 0 om rfl rfl rfl) λa Z=>?_
  replace Z:=Z.sp 63 (vQ M) rfl (by rw [O])
  refine dD Z u 13 4 (v:=vI b.time) λa Z=>?_
  refine pE Z (λ_=>u) (i:=14) rfl rfl (d:=66) rfl de kr (λ_ _ _ h=>h) (v:=vI (IntKind.i64.wrap (281474976710656-b.time))) (λ_=>Yl.pure kr) λa Z=>?_
  replace Z:=Z.sp 66 (vI (281474976710656-b.time)) rfl (mF ⟨by omega,by omega⟩)
  refine pE Z (λ_=>u) (i:=15) rfl rfl (d:=67) rfl de kr (λ_ _ _ h=>h) (v:=vQ (IntKind.u64.wrap (281474976710656-b.time))) (λ_=>Yl.pure kr) λa Z=>?_
  replace Z:=Z.sp 67 (vQ ((281474976710656-b.time).toNat)) rfl (LA ⟨by omega,by omega⟩ rfl)
  refine ap Z (λ_=>u) [16] (bt 18 [17]) [(68,.bool (decide ((M:Int)>((281474976710656-b.time).toNat:Int))))] λa Z=>?_
  refine pE Z (λ_=>u) (i:=17) rfl rfl (d:=69) rfl de kr (λ_ _ _ h=>h) (v:= .bool (decide ((M:Int)>((281474976710656-b.time).toNat:Int)))) (λ_=>Yl.pure kr) λa Z=>?_
  replace Z:=Z.sp 69 (.bool (decide (281474976710656-b.seq<(S:Int)\/281474976710656-b.time<(M:Int)))) rfl (nV (by simp only [decide_eq_true_eq];first|omega|exact iff_of_true trivial om|exact iff_of_false id om))
  refine qe kr ?_
  exact ⟨Z.sub kr,g.pk [0,1,2,3,4]⟩
 clear Z g;rintro a uW ⟨Z,g⟩
 refine Jb Z g (Ju (λF=>?_) λF=>?_)
 ·
  have OZ:=of_decide_eq_true F
  refine (JT∘JP∘eH aiy∘JV q7 iq) λXv=>(bM 2∘JZ) λa Z g=>?_
  exact iN rfl Z (.cellS (i:=2) Z g rfl rfl q7 rfl) (.tmp Z rfl) (.tmp Z rfl) (BL ((LK D om p om).trans ((congrArg _ G).trans (qt3 L O (of_decide_eq_true F)))) rfl rfl g.below rfl)
 have OZ:=of_decide_eq_false F
 have FL:¬(281474976710656-b.seq<(S:Int)\/281474976710656-b.time<(M:Int)):=of_decide_eq_false F
 obtain ⟨E,hE⟩:∃E,b.ev cpu s S M=E:=⟨_,rfl⟩
 obtain ⟨er,X⟩:∃er,E.cK (xs.drop 2)=er:=⟨_,rfl⟩
 have rR:E.Ok:=by rw [<-hE];exact zg9 hbr BM hkd om om
 refine (aU) λa Z g=>?_
 refine qz (λaS wS=>∃(I:Nat),Fr aS 101 [] ((16,vI er)::(15,vP I 0)::(69,.bool false)::(37,.bool false)::ahK 36 k 35 (2+abn (aB s):Nat) (ah1 W (abn xs) K J o (abn (aB s):Nat) g6 U []))/\Mem w wS [.blk I ((E.dQ (xs.drop 2)).cells) 73,.row (.slice W (abn xs) K) (abn xs) (xs.map bD) 41 1,ahJ o (q+1:Nat),ahQ g6,ahF J (some ⟨gA,oA,none⟩) (abn l) c,.blk U b.cells 110]) ?_ ?_
 ·
  refine Jb Z g ((Vs .n [26]) λFM=>(Vf 0 0∘Vp [2]∘Vf 7 1∘Vp [9,14,19]∘Vc 1 O4) ?_)
  repeat (first|clear Z|clear g|clear u)
  intro a Z g u
  obtain ⟨C,rfl⟩:=g.rat 0 0
  refine Vb Z g u ((Vy 3 (v:=vP C 0) (h:=by exact Yl.indexAddr (ad:=⟨C,0,none⟩) (y:=0) (sz:=1) rfl rfl rfl om kr)∘Vy 4 (v:=vQ (xs.getD 0 0)) (h:=by exact aaf 0 0 0 om rfl rfl rfl)∘Vo (vQ S) (by rw [L])∘Vw 5 .i64∘Vp [6]∘Vo (vI (b.seq+S)) (by exact mF ⟨by omega,by omega⟩)∘Vc 8 O4∘Vy 10 (v:=vP C 1) (h:=by exact Yl.indexAddr (ad:=⟨C,0,none⟩) (y:=1) (sz:=1) rfl rfl rfl om kr)∘Vy 11 (v:=vQ (xs.getD 1 0)) (h:=by exact aaf 0 1 0 om rfl rfl rfl)∘Vo (vQ M) (by rw [O])∘Vw 12 .i64∘Vp [13]∘Vo (vI (b.time+M)) (by exact mF ⟨by omega,by omega⟩)∘Vc 15 O3∘Vy 16 (v:=vP gA oA) (h:=by exact Yl.indexAddr (ad:=⟨gA,oA,none⟩) (y:=0) (sz:=1) rfl rfl rfl om kr)∘Vy 17 (v:=vB (l.getD 0 0)) (h:=by exact aad hr 0 0 om rfl rfl)∘Vo (vB s) (by rw [p])∘Vy 18 (v:= .agg #[vI (b.seq+S),vI (b.time+M),vB cpu,vB s,vI 0,vI 0,vI 0,vI 0,vI 0,vQ 0,vI 0]) (h:=by exact Yl.build (vs:=(ahK 0 (b.seq+S) 1 (b.time+M) [(2,vB cpu),(3,vB s)])) rfl kr kr)∘Vo (.agg E.cells) (by rw [<-hE];try rfl)∘Vy 20 (h:=by exact aae kD (j:=2) rfl rfl rfl om)) λa Z g u=>?_)
  refine zd [21,25] kr rfl ?_
  refine all_cons ?_ ?_
  ·refine qq Z (i:=21) rfl rfl ?_
   refine jd Z g [.agg E.cells,.slice (if K=2 then some ⟨C,0,none⟩ else (some ⟨C,0,none⟩:Option Addr).map (·.add (2*1))) (abn xs-2) (K-2)] (.tuple #[.agg ((E.dQ (xs.drop 2)).cells),vI er]) rfl rfl (Xr E rR _ _ _ (xs.drop 2) B _ (hL.mem g hB) (g.le hB) (aaI (g.rd (i:=0) rfl) om om) (λx hx=>Q x (abL hx)) X) λw93 V g a Z=>?_
   refine ay (g.pk [0,1,2,3,4]) (λu=>?_)
   refine Vb Z g u ((Vp [22]∘Vx 23∘Vx 24∘VA 25 .n aiy) λBJ I=>λa Z g u=>?_)
   refine s_on Z 26 rfl (bT Z g 0 rfl rfl rfl rfl rfl q7 rfl rfl (qR (E.dQ (xs.drop 2))) λY g=>?_)
   refine dN kr ?_
   refine ap Z (bU kr) [27] (bt 28 []) [(16,vI er)] λa Z=>?_
   refine qe kr ?_
   exact ⟨I,Z.sub kr,g.pk [0,1,2,3,4,5]⟩
  refine all_cons ?_ all_nil
  refine qq Z (i:=25) rfl rfl ?_
  refine gZ Z g aiy ?_
  clear Z g;intro a BJ I Z g
  refine ay (g.pk [1,2,3,4,5]) (λu=>?_)
  refine Vb Z g u ((VI 21 (.f .n) (h:=by exact λg=>Xr E rR _ _ _ (xs.drop 2) B _ (hL.mem g hB) (g.le hB) (aaI (g.rd (i:=1) rfl) om om) (λx hx=>Q x (abL hx)) X)) λw93 V=>(Vp [22]∘Vx 23∘Vx 24) λa Z g u=>?_)
  refine s_on Z 26 rfl (bT Z g 0 rfl rfl rfl rfl rfl q7 rfl rfl (qR (E.dQ (xs.drop 2))) λY g=>?_)
  refine dN kr ?_
  refine ap Z (bU kr) [27] (bt 28 []) [(16,vI er)] λa Z=>?_
  refine qe kr ?_
  exact ⟨I,Z.sub kr,g.pk [0,1,2,3,4,5]⟩
 clear Z g;rintro a FN ⟨I,Z,g⟩
 refine Jb Z g ((bN 2∘bQ∘Jj) (Jh (λPb=>?_) λPb=>?_))
 ·
  refine (JT∘JP∘eH aiy∘JV q7 oV) λXw=>(bM 2∘JZ) λa Z g=>?_
  exact iN rfl Z (.cellS (i:=3) Z g rfl rfl q7 rfl) (.tmp Z rfl) (.tmp Z rfl) (BL ((LK D om p om).trans ((congrArg _ G).trans (qzx L O FL hE X om))) rfl rfl g.below rfl)
 refine (aU) λa Z g=>?_
 refine wp_seq ?_
 refine Jb Z g ((Vs (.t (.t (.t (.f .n)))) []) λagF=>(nH 0 q7 O0∘Vc 1 O2) λa Z g u=>?_)
 refine s_on Z 2 rfl (bT Z g 3 rfl rfl rfl rfl rfl q7 rfl rfl (qR (E.dQ (xs.drop 2))) λXx g=>?_)
 refine ay (g.pk [0,1,2,4,5]) (λu=>?_)
 refine Vb Z g u ((Vp [3,4]∘Vd∘JZ) λa Z g=>?_)
 exact iN rfl Z (.cellS (i:=3) Z g rfl rfl q7 rfl) (.tmp Z rfl) (.tmp Z rfl) (BL ((LK D om p om).trans ((congrArg _ G).trans (qzy L O FL hE X om))) om rfl g.below rfl)
def zha (b:Bs) (cpu:Nat) (a:cpu<256) (A:Option Addr) (n c:Nat) (l:List Nat) (B:Nat) (w:World) (d:Laid B w) (f:B<=w.heap.size) (hr:Rd w w.heap.size 1 A n (l.map B8)) (hc:n<=c) (g:∀b∈l,b<256) (i:n<=100000000000) {e:Ev} {L er:Nat} (h:bq b cpu l=(e,L,er)):
  Calls abo 311 #[.agg b.cells,.int .u8 (cpu:Int),.slice A n c] w (Is w (.tuple #[.agg e.cells,.int .i64 (L:Int),.int .i64 (er:Int)])):=by
 obtain rfl:abn l=n:=by simpa using hr.len
 have k:=q37 b cpu a A c l B w d f hr hc g i
 rwa [h] at k
def Xy (W:World) (d cpu:Nat) (Inv:Bs->List Nat->List Fact->Prop) (Stop:List Fact->Prop):Prop:=
 ∀(bk:Bs) (rest:List Nat) (F fr:List Fact) (w:World) (e:Ev) (m er:Nat),Inv bk rest F->bq bk cpu rest=(e,m,er)->Mem W w (F++fr)->
  YieldAt ab4 0 abo d #[.agg #[.int .i64 e.seq,.int .i64 e.time,.int .u8 (e.cpu:Int),.int .u8 (e.kind:Int),.int .i64 e.task,.int .i64 e.group,.int .i64 e.to,.int .i64 e.weight,.int .i64 e.ticks,.int .u64 (e.mask:Int),.int .i64 e.got,.int .i64 (m:Int)],.int .i64 (er:Int)] w λx f=>∃c,Mem W f (c++fr)/\((er=0/\x= .returned (.bool true)/\Inv e.at (rest.drop m) c)\/(x= .returned (.bool false)/\Stop c))
def zas (W:World) (Stop:List Fact->Prop) (r:Ending) (d:World):Prop:=∃v,r= .returned v/\∃c,Mem W d c/\Stop c
theorem qoq {W:World} {fr:List Fact} {er:Nat} {I S:List Fact->Prop}:∀(e:Ending) (d:World),(∃c,Mem W d (c++fr)/\((er=0/\e= .returned (.bool true)/\I c)\/(e= .returned (.bool false)/\S c)))->∃v,e= .returned v:=by intros;grind
section
variable {b bk:Bs} {cpu m a mm er:Nat} {l rest:List Nat} {es:List Ev} {e:Ev}
theorem Xz (c:abn es≠0) {q:Ev} (d:es.getD (abn es-1) Ev.zero=q):es.getLast?=some q:=by grind
def zlh (h:qy cpu m b none l=iO es a (qy cpu (m-abn es) bk es.getLast? rest)) (hm:abn es<m) (c:bq bk cpu rest=(e,mm,er)) (d:er≠0):qy cpu m b none l=([],0,er):=by
 rw [h,show m-abn es=m-abn es-1+1 by omega]
 exact q26 c d es a
def zhb (h:qy cpu m b none l=iO es a (qy cpu (m-abn es) bk es.getLast? rest)) (hm:abn es<m) (c:bq bk cpu rest=(e,mm,0)) {q:Ev} (d:abn es≠0) (f:es.getD (abn es-1) Ev.zero=q) (hs:e.seq=q.seq):qy cpu m b none l=([],0,71):=by
 rw [h,show m-abn es=m-abn es-1+1 by omega,Xz d f]
 exact qzp c (p:=some q) (decide_eq_true hs) es a
def XA (h:qy cpu m b none l=iO es a (qy cpu (m-abn es) bk es.getLast? rest)) (hm:abn es<m) (d:bq bk cpu rest=(e,mm,0)) {q:Ev} (f:es.getD (abn es-1) Ev.zero=q) (hs:abn es=0\/e.seq≠q.seq):
  qy cpu m b none l=iO (es++[e]) (a+mm) (qy cpu (m- abn (es++[e])) e.at (es++[e]).getLast? (rest.drop mm)):=by
 rw [h,show m-abn es=m- abn (es++[e])+1 by rw [abp];simp only [aeP];omega,List.getLast?_append]
 refine qzq d ?_ es a
 rcases hs with c|c
 ·rw [ach c];rfl
 ·by_cases hz:abn es=0
  ·rw [ach hz];rfl
  ·rw [Xz hz f];exact (decide_eq_false c:)
def zli (h:qy cpu m b none l=iO es a (qy cpu (m-abn es) bk es.getLast? rest)) (hm:abn es=m):qy cpu m b none l=(es,a,0):=by
 rw [h,show m-abn es=0 by omega]
 show (es++[],a+0,0)=_
 rw [abP]
 rfl
end
def Pf (w:World) (q:List Ev×Nat×Nat) (r:Ending) (d:World):Prop:=(∃A c,r= .returned (.tuple #[.slice A (abn q.1) c,.int .i64 (q.2.1:Int),.int .i64 (q.2.2:Int)])/\d.ownsRow w.heap.size 73 11 (.slice A (abn q.1) c) (abn q.1) (q.1.flatMap eD)/\abn q.1<=c)/\Below w.heap.size w d
def LM {q:List Ev×Nat×Nat} (h:q=([],0,er)) (hb:Below w.heap.size w W):Pf w q (.returned (.tuple #[.slice none 0 0,.int .i64 0,.int .i64 (er:Int)])) W:=by
 subst h
 exact ⟨⟨none,0,rfl,acA _ _ _ _,abr _⟩,hb⟩
def zat {q:List Ev×Nat×Nat} {es:List Ev} {a:Nat} (h:q=(es,a,0)) (d:W.ownsRow w.heap.size 73 11 (.slice A (abn es) c) (abn es) (es.flatMap eD)) (hc:abn es<=c) (hb:Below w.heap.size w W):Pf w q (.returned (.tuple #[.slice A (abn es) c,.int .i64 (a:Int),.int .i64 0])) W:=by
 subst h
 exact ⟨⟨A,c,rfl,d,hc⟩,hb⟩
section
variable {b:Bs} {cpu:Nat} {n:Int} {l:List Nat}
def qz0 (h:n<0):gL b cpu n l=([],0,2):=if_pos h
def qt5 (h:¬n<0) (h1:b.right=false):gL b cpu n l=([],0,70):=by unfold gL;rw [if_neg h,if_pos h1]
theorem Pg {m:Nat} (h1:b.right=true):gL b cpu (m:Int) l=qy cpu m b none l:=by grind [gL]
def qt6 (h:m=0) (h1:b.right=true):gL b cpu (m:Int) l=([],0,0):=by subst h;exact (Pg h1).trans rfl
end
def q39 (W w:World) (p gc q x B cpu:Nat) (y:cpu<256) (b:Bs) (A:Option Addr) (c:Nat) (l:List Nat) (Inv:Bs->List Nat->List Fact->Prop) (Stop:List Fact->Prop) (I:List Fact) (Y:Laid B W) (O:B<=W.heap.size) (hr:Rd W W.heap.size 1 A (abn l) (l.map B8)) (hc:abn l<=c) (hl:∀z∈l,z<256) (hn:abn l<=100000000000)
    (hy:Xy W x cpu Inv Stop) (J:Inv b l I) (g:Mem W w (.blk p b.cells 110:: .blk gc #[.int .u8 (cpu:Int)] 5:: .blk q #[.slice A (abn l) c] 30::I)):
    Calls abo 310 (.func (.yield x) #[] #[]:: [.pointer (some ⟨p,0,none⟩),.pointer (some ⟨gc,0,none⟩),.pointer (some ⟨q,0,none⟩)]).toArray w (zas W Stop):=by
 refine oD Tryz.func310 [.func (.yield x) #[] #[],vP p 0,vP gc 0,vP q 0] [ahS x,(1,vP p 0),(2,vP gc 0),(3,vP q 0)] λa Z=>?_
 refine Jb Z g ((JB) λa Z g=>?_)
 refine qg (λP aS wS=>∃(o:Bs) (d:List Nat) (X:Option Addr) (k:Nat) (F:List Fact),(Inv o d F)/\(Rd W W.heap.size 1 X (abn d) (d.map B8))/\(abn d<=k)/\(∀z∈d,z<256)/\(abn d<=abn l)/\P=abn d/\Fr aS 32 [] [ahS x,(1,vP p 0),(2,vP gc 0),(3,vP q 0)]/\Mem W wS (.blk p o.cells 110::.blk gc #[vB cpu] 5::ahF q X (abn d) k::F)) (m:=abn l) ⟨b,l,A,c,I,J,hr,hc,hl,abr _,rfl,Z.sub kr,g.pt 3 [0,1,2]⟩ ?_
 clear Z g;rintro P a w_ ⟨o,d,X,k,F,hI,Q,C,D,hrn,rfl,Z,g⟩
 obtain ⟨⟨e,m,R⟩,K⟩:∃r,bq o cpu d=r:=⟨_,rfl⟩
 refine Jb Z g ((JB∘JP∘dZ iE O0∘Jc O1∘Jc O2∘JI (h:=by exact λg=>zha o cpu y X (abn d) k d B _ (Y.mem g O) (g.le O) (g.old Q) C D om K)) λyB L=>(Jp 1∘Jx∘Jx∘Jx∘JA aiy) λw5 u=>(JV q7 aO (h1:=by exact qR e)) λS=>(bM 2∘JQ) λa Z g=>?_)
 refine wp_seq ?_
 refine Lm (i:=5) ?_
 refine Jb Z g ((Jp 1∘dZ q7 O0∘Jp 1∘eH #[vI e.seq,vI e.time,vB e.cpu,vB e.kind,vI e.task,vI e.group,vI e.to,vI e.weight,vI e.ticks,vQ e.mask,vI e.got,vI m]∘Jp 1∘Jq) λa Z g=>?_)
 refine uN Z (i:=5) (vs:=[.agg #[vI e.seq,vI e.time,vB e.cpu,vB e.kind,vI e.task,vI e.group,vI e.to,vI e.weight,vI e.ticks,vQ e.mask,vI e.got,vI m],vI R]) rfl rfl rfl rfl rfl rfl de (hy o d F _ _ e m R hI K (aah (F:=[.blk u e.cells 73,.blk p o.cells 110,.blk gc #[vB cpu] 5,ahF q X (abn d) k]) g)) qoq ?_
 clear Z g;rintro v E a ⟨G,g,(⟨T,H,M⟩|⟨H,N⟩)⟩ Z<;>injection H with H<;>subst H
 ·
  replace g:Mem W E (.blk u e.cells 73::.blk p o.cells 110::.blk gc #[vB cpu] 5::ahF q X (abn d) k::G):=aah (es:=[.blk u e.cells 73,.blk p o.cells 110,.blk gc #[vB cpu] 5,ahF q X (abn d) k]) g
  have s:=V4 o cpu d;rw [K] at s;replace s:m<=abn d/\0<m:=⟨s.1,s.2 T⟩
  refine Jb Z g ((Jp 4∘Jo (.bool false) (by rw [T];try rfl)∘Jp 1∘aH∘Jq∘aU∘Vs (.t (.f .n)) [6]) λwd2=>(Vp [3]∘nH 0 q7 O0∘Vc 2 O2∘Vy 4 (v:= .slice (if k=m then X else X.map (·.add (m*1))) (abn d-m) (k-m)) (h:=by exact aae bn (j:=m) rfl rfl rfl om)∘Vo (.slice (if k=m then X else X.map (·.add (m*1))) (abn (d.drop m)) (k-m)) (by rw [abC])∘VI 1 (.t (.f .n)) (h:=by exact λg=>Xj e _)) λFH L=>λa Z g HS=>?_)
  refine s_on Z 5 rfl (bT Z g 1 rfl rfl rfl rfl rfl iE rfl rfl (K7 e.at) λU g=>?_)
  refine ay (g.pt 4 [0,2,3]) (λHS=>?_)
  refine s_on Z 6 rfl (eG Z g 3 λV g=>?_)
  refine dN kr ?_
  refine qe kr ?_
  exact ⟨_,(by rw [abC];omega),e.at,(d.drop m),if k=m then X else X.map (·.add (m*1)),k-m,G,M,by rw [abC];exact Q.E9 s.1 C,by rw [abC];omega,λz hz=>D z (abL hz),by rw [abC];omega,rfl,Z.sub kr,g.pt 4 [1,2,3]⟩
 ·
  replace g:Mem W E (.blk u e.cells 73::.blk p o.cells 110::.blk gc #[vB cpu] 5::ahF q X (abn d) k::G):=aah (es:=[.blk u e.cells 73,.blk p o.cells 110,.blk gc #[vB cpu] 5,ahF q X (abn d) k]) g
  refine Jb Z g ((Jp 5∘aH∘Jq∘JT∘JZ) λa Z g=>?_)
  exact BA rfl Z (⟨_,rfl,G,aap [.blk u e.cells 73,.blk p o.cells 110,.blk gc #[vB cpu] 5,ahF q X (abn d) k] g,N⟩)
def zau (b:Bs) (cpu:Nat) (A:Option Addr) (n c:Nat) (w:World):
    Calls abo 292 #[.agg b.cells,.int .u8 (cpu:Int),.slice A n c] w λr e=>∃a gc d,r= .returned (.func (.func 310) #[] #[.pointer (some ⟨a,0,none⟩),.pointer (some ⟨gc,0,none⟩),.pointer (some ⟨d,0,none⟩)])/\Mem w e [ahF d A n c,.blk gc #[.int .u8 (cpu:Int)] 5,.blk a b.cells 110]:=by
 refine (uU Tryz.func292 8) ?_
 exact (JP∘JE) λk f=>(uT) λl g=>(uT) λm i=>(Jp 1∘Jr∘Jy (h:=by exact Yl.makeFunc (fst:=[]) (caps:=[vP f 0,vP g 0,vP i 0]) rfl rfl rfl)∘Jp 1∘aK∘aP∘bC) λj=>by exact ⟨_,_,_,rfl,j⟩
abbrev ahy:=λa b c d e f g h i j k l m=>(.row (.slice a b c) b d 73 11::.blk e #[.slice a b c] 83::.blk f #[vI 0] 27::.blk g #[vI 0] 3::.blk h #[.slice none 0 0] 83::.blk i #[vI j] 3::.blk k l 110::m:List Fact)
abbrev ahP:=λa b c d e f g h i j k l m=>(.blk a #[.int .i64 b,.int .i64 c,.int .u8 (d:Int),.int .u8 (e:Int),.int .i64 f,.int .i64 g,.int .i64 h,.int .i64 i,.int .i64 j,.int .u64 (k:Int),.int .i64 l,.int .i64 (m:Int)] 424:Fact)
abbrev ah7:=λa b c=>(.blk a #[vI 0] 3::.blk b #[.slice none 0 0] 83::c:List Fact)
def qz1 (b:Bs) (cpu:Nat) (BM:cpu<256) (A:Option Addr) (c:Nat) (n:Int) (hni:aW n) (l:List Nat) (B0:Nat) (w:World) (hL:Laid B0 w) (hB:B0<=w.heap.size) (hr:Rd w w.heap.size 1 A (abn l) (l.map B8)) (hc:abn l<=c) (hl:∀z∈l,z<256) (hn:abn l<=100000000000) (hlim:Oe n l):
    Calls abo 250 #[.agg b.cells,.int .u8 (cpu:Int),.int .i64 n,.slice A (abn l) c] w (Pf w (gL b cpu n l)):=by
 refine Fj (vs:=[.agg b.cells,vB cpu,vI n,.slice A (abn l) c]) Tryz.func250 rfl rfl kr (σ0:=[(0,.agg b.cells),(1,vB cpu),(2,vI n),(3,.slice A (abn l) c)]) rfl ?_
 intro a Z
 have g:=Mem.start w
 refine Jb Z g ((JP∘JE) λw4 D=>(uT) λw6 E=>(JA #[.slice none 0 0]) λw8 G=>(JA #[vI 0]) λw9 H=>(JA #[vI 0]) λqY o=>(Jj∘JQ∘JP∘Jc O3∘Jp 1∘aK∘Jj) (Ji (λPh=>?_) λPh=>?_))
 ·
  refine (JT∘JP∘JW iq aO) λPj=>(JW fJ aO) λBK=>(JW aO aO) λagT=>(aP) λa Z g=>?_
  refine Fp ?_
  exact iN rfl Z (.cell1 (i:=2) Z g rfl rfl kr rfl) (.cell1 (i:=1) Z g rfl rfl kr rfl) (.cell1 (i:=0) Z g rfl rfl kr rfl) (LM (qz0 om) g.below)
 obtain ⟨m,rfl⟩:∃k:Nat,n=(k:Int):=⟨n.toNat,by omega⟩
 refine (aU∘JQ∘JP∘dZ iE O4∘JI (h:=by exact λg=>LD b _)) λuW hbw=>(Jp 1∘bQ∘Jj) (Ju (λT=>?_) λT=>?_)
 ·
  refine (JT∘JP∘JW iq aO) λagU=>(JW fJ aO) λFE=>(JW aO aO) λagV=>(aP) λa Z g=>?_
  refine Fp ?_
  exact iN rfl Z (.cell1 (i:=2) Z g rfl rfl kr rfl) (.cell1 (i:=1) Z g rfl rfl kr rfl) (.cell1 (i:=0) Z g rfl rfl kr rfl) (LM (qt5 om (by simpa using T)) g.below)
 have U:b.right=true:=by simpa using T
 refine (aU∘JQ∘JP∘Jc O3∘Jp 1∘aK∘Jj) (Je (λBP=>?_) λBP=>?_)
 ·
  refine (JT∘JP∘JW iq aO) λagW=>(JW fJ aO) λFP=>(JW aO aO) λagX=>(aP) λa Z g=>?_
  refine Fp ?_
  exact iN rfl Z (.cell1 (i:=2) Z g rfl rfl kr rfl) (.cell1 (i:=1) Z g rfl rfl kr rfl) (.cell1 (i:=0) Z g rfl rfl kr rfl) (LM (qt6 om U) g.below)
 refine (aU∘JP∘JA #[.slice none 0 0]) λuV p=>(Jq∘JC (h:=by exact λg=>g.nil 73 11)∘JG∘JP∘JA #[vI 0]) λyB s=>(JW aO aO) λBN=>(Jj∘JQ∘JP∘dZ iE O7∘Jp 2∘JL (h:=by exact λg=>zau b cpu A (abn l) c _)) ?_
 rintro g _ w25 ⟨gb,gc,gy,rfl,hm⟩
 refine ⟨_,rfl,_,g.join hm,?_⟩
 refine (dY∘Jj∘JB) λa Z g=>?_
 refine Fh Z g (λ_=>False) (λc F=>(c= .ret/\∃(K:Nat),(qy cpu m b none l=([],0,K))/\F=(.blk o #[vI K] 27::ah7 H G [ahJ E m,.blk D b.cells 110]))\/(c=(.exit 0)/\∃(es:List Ev) (j:Nat) (I:Option Addr) (co:Nat),(qy cpu m b none l=(es,j,0))/\(abn es<=co)/\F=(ahJ s j::ahy I (abn es) co (es.flatMap eD) p o H G E m D b.cells []))) rfl kr ?_ ?_ ?_
 ·
  clear Z g;intro L J u w1 hrec g
  have hy:Xy w L cpu (λbk M F=>∃(es:List Ev) (j:Nat) (I:Option Addr) (co:Nat),(qy cpu m b none l=iO es j (qy cpu (m-abn es) bk es.getLast? M))/\(abn es<m)/\(j+abn M<=abn l)/\(abn es+abn M<=abn l)/\(abn es<=co)/\F=(.obj L (.loop (u .ready none)):: .obj J (.deferred (some [])):: (ahJ s j::ahy I (abn es) co (es.flatMap eD) p o H G E m D b.cells []))) (λF=>(∃(K:Nat),(qy cpu m b none l=([],0,K))/\F=(.obj L (.loop (u .done (some .ret))):: .obj J (.deferred (some [])):: (.blk o #[vI K] 27::ah7 H G [ahJ E m,.blk D b.cells 110])))\/(∃(es:List Ev) (j:Nat) (I:Option Addr) (co:Nat),(qy cpu m b none l=(es,j,0))/\(abn es<=co)/\F=(.obj L (.loop (u .done (some (.exit 0)))):: .obj J (.deferred (some [])):: (ahJ s j::ahy I (abn es) co (es.flatMap eD) p o H G E m D b.cells [])))):=by
   rintro bk M F fr w3 e R K ⟨es,j,I,co,N,hem,hal,hel,hco,rfl⟩ hq g
   have agZ:abn es<=1000000000000:=by unfold Oe at hlim;omega
   have htl:=V4 bk cpu M
   rw [hq] at htl
   dsimp only at htl
   obtain ⟨q,FQ⟩:∃q,es.getD (abn es-1) Ev.zero=q:=⟨_,rfl⟩
   replace g:Mem w w3 (ahU L (u .ready none)::ahA J::ahJ s j::ahy I (abn es) co (es.flatMap eD) p o H G E m D b.cells fr):=g
   refine Ll (v1:= .agg #[.int .i64 e.seq,.int .i64 e.time,.int .u8 (e.cpu:Int),.int .u8 (e.kind:Int),.int .i64 e.task,.int .i64 e.group,.int .i64 e.to,.int .i64 e.weight,.int .i64 e.ticks,.int .u64 (e.mask:Int),.int .i64 e.got,.int .i64 (R:Int)]) (v2:=vI K) hrec g de de λa Z=>?_
   refine wpIn_seq ?_
   refine qo ?_
   refine Jb Z g ((JA #[vI 0,vI 0,vB 0,vB 0,vI 0,vI 0,vI 0,vI 0,vI 0,vQ 0,vI 0,vI 0]) λuY S=>(JV zld aO) λAb=>(Jq) λa Z g=>?_)
   refine qo ?_
   refine Jb Z g ((Jp 1∘Jq) λa Z g=>?_)
   refine ⟨(ahP S e.seq e.time e.cpu e.kind e.task e.group e.to e.weight e.ticks e.mask e.got R::ahA J::ahJ s j::ahy I (abn es) co (es.flatMap eD) p o H G E m D b.cells fr),g.pt (fs':=(ahU L (u .ready none)::ahP S e.seq e.time e.cpu e.kind e.task e.group e.to e.weight e.ticks e.mask e.got R::ahA J::ahJ s j::ahy I (abn es) co (es.flatMap eD) p o H G E m D b.cells fr)) 11 [1,0,2,3,4,5,6,7,8,9,10],λw4 g=>?_⟩
   refine wpIn_block ?_
   refine wpIn_seq ?_
   refine wpIn_seq ?_
   refine qo ?_
   refine Jb Z g ((Jp 2∘aK∘Jq) (Jh (λhd29=>?_) λhd29=>?_))
   ·
    intro a Z g
    refine Fe Z rfl ?_
    refine wpIn_seq ?_
    refine qo ?_
    refine Jb Z g ((Jp 1∘JW Fv aO) λFR=>(JW uS aO) λFT=>(JW uh aO) λFU=>(ny∘Jq) λa Z g=>?_)
    refine wpIn_ret ?_
    refine ⟨(ahA J::.blk o #[vI K] 27::ah7 H G (ahJ E m::.blk D b.cells 110::fr)),g.pt (fs':=(ahU L (u .busy none)::ahA J::.blk o #[vI K] 27::ah7 H G (ahJ E m::.blk D b.cells 110::fr))) 11 [0,2,6,7,8,9,10],λw5 g=>?_⟩
    exact ⟨(ahU L (u .done (some .ret))::ahA J::.blk o #[vI K] 27::ah7 H G (ahJ E m::.blk D b.cells 110::[])),g,.inr ⟨rfl,.inl ⟨K,zlh N hem hq om,rfl⟩⟩⟩
   intro a Z g
   have he0:K=0:=by omega
   have hq0:=hq
   rw [he0] at hq0
   have hmm:=htl.2 he0
   refine Fg Z rfl ?_
   refine wpIn_skip ?_
   refine wpIn_seq ?_
   refine q3k (λaS wS=>Fr aS 62 [] [(46,.bool (decide (abn es≠0/\e.seq=q.seq))),(29,.bool false),(14,vI K),(13,vP S 0),(27,vI K),(26,.agg #[.int .i64 e.seq,.int .i64 e.time,.int .u8 (e.cpu:Int),.int .u8 (e.kind:Int),.int .i64 e.task,.int .i64 e.group,.int .i64 e.to,.int .i64 e.weight,.int .i64 e.ticks,.int .u64 (e.mask:Int),.int .i64 e.got,.int .i64 (R:Int)]),(25,.func (.func 310) #[] #[vP gb 0,vP gc 0,vP gy 0]),(12,vP s 0),(11,vP p 0),(21,.bool false),(19,.bool false),(16,.bool false),(10,vP o 0),(9,vP H 0),(8,vP G 0),(6,vP E 0),(4,vP D 0)]/\Mem w wS (ahU L (u .busy none)::ahP S e.seq e.time e.cpu e.kind e.task e.group e.to e.weight e.ticks e.mask e.got R::ahA J::ahJ s j::ahy I (abn es) co (es.flatMap eD) p o H G E m D b.cells fr)) ?_ ?_
   ·
    refine q3j g (ahU L (u .busy none)::ahP S e.seq e.time e.cpu e.kind e.task e.group e.to e.weight e.ticks e.mask e.got R::ahA J::ahJ s j::ahy I (abn es) co (es.flatMap eD) p o H G E m D b.cells fr) 11 [0,1,2,3,4,5,6,7,8,9,10] [] λg P=>?_
    refine dD Z P 0 5 λa Z=>?_
    refine sS Z P 1 λa Z=>?_
    refine ap Z (λ_=>P) [2,3] (bf 16 [0,1,2,3]) [(34,.bool (decide ((abn es:Int)>(0:Int))))] λa Z=>?_
    rcases Z.tf 34 rfl with ⟨V,Z⟩|⟨V,Z⟩
    ·
     have hd34:=of_decide_eq_true V
     refine ap Z (λ_=>P) [4,5] (bf 16 [0,1,2,3,4,5]) [(36,vP S 0)] λa Z=>?_
     refine dD Z P 6 1 (v:=vI e.seq) λa Z=>?_
     refine dD Z P 7 5 λa Z=>?_
     refine dD Z P 8 5 λa Z=>?_
     refine sS Z P 9 λa Z=>?_
     refine pE Z (λ_=>P) (i:=10) rfl rfl (d:=41) rfl de kr (λ_ _ _ h=>h) (v:=vI (IntKind.i64.wrap ((abn es:Int)-1))) (λ_=>Yl.pure kr) λa Z=>?_
     replace Z:=Z.sp 41 (vI (abn es-1:Nat)) rfl (LC om om)
     revert g;revert a;repeat (first|clear Z|clear g)
     intro a Z g
     obtain ⟨Pk,rfl⟩:=g.rat 4 (abn es-1)
     refine gX Z P 11 rfl (v:=vP Pk ((abn es-1)*11)) (Yl.iK Pk (abn es-1) 11 rfl rfl rfl) λa Z=>?_
     refine ap Z (λ_=>P) [12] (bt 16 [13,14,15]) [(43,vP Pk ((abn es-1)*11))] λa Z=>?_
     refine gX Z P 13 rfl (v:=vI ((es.getD (abn es-1) Ev.zero).seq)) (Pd rfl rfl kr (λ_ h=>(by have:=h.qu qU (i:=4) rfl (k:=(abn es-1)) (off:=0) (x:=(es.getD (abn es-1) Ev.zero)) ((getD_at Ev.zero (k:=abn es-1) om)) rfl;simpa using this))) λa Z=>?_
     replace Z:=Z.sp 44 (vI q.seq) rfl (by rw [FQ])
     refine ap Z (λ_=>P) [14,15] (bt 16 []) [(46,.bool ((e.seq:Int)==(q.seq:Int)))] λa Z=>?_
     refine qe kr ?_
     have Z:=Z.sp 46 (.bool (decide (abn es≠0/\e.seq=q.seq))) rfl (nV (by simp only [decide_eq_true_eq,beq_iff_eq];first|omega|exact iff_of_true trivial om|exact iff_of_false id om|exact iff_of_false de om))
     exact ⟨Z.sub kr,g.pt 11 [0,1,2,3,4,5,6,7,8,9,10]⟩
    have hd34:=of_decide_eq_false V
    refine ap Z (λ_=>P) [4,5,6,7,8,9,10,11,12,13,14,15] (bt 16 []) [(46,.bool false)] λa Z=>?_
    refine qe kr ?_
    have Z:=Z.sp 46 (.bool (decide (abn es≠0/\e.seq=q.seq))) rfl (nV (by simp only [decide_eq_true_eq,beq_iff_eq];first|omega|exact iff_of_true trivial om|exact iff_of_false id om|exact iff_of_false de om))
    exact ⟨Z.sub kr,g.pt 11 [0,1,2,3,4,5,6,7,8,9,10]⟩
   clear Z g;rintro a FV ⟨Z,g⟩
   refine Jb Z g (Ju (λO=>?_) λO=>?_)
   ·
    intro a Z g
    have BQ:=of_decide_eq_true O
    have W:=of_decide_eq_true O
    refine Fe Z rfl ?_
    refine wpIn_seq ?_
    refine qo ?_
    refine Jb Z g ((JW Fv aO) λXB=>(JW uS aO) λXC=>(JW uh aO) λFI=>(Jq) λa Z g=>?_)
    refine wpIn_ret ?_
    refine ⟨(ahA J::.blk o #[vI 71] 27::ah7 H G (ahJ E m::.blk D b.cells 110::fr)),g.pt (fs':=(ahU L (u .busy none)::ahA J::.blk o #[vI 71] 27::ah7 H G (ahJ E m::.blk D b.cells 110::fr))) 11 [0,2,6,7,8,9,10],λw5 g=>?_⟩
    exact ⟨(ahU L (u .done (some .ret))::ahA J::.blk o #[vI 71] 27::ah7 H G (ahJ E m::.blk D b.cells 110::[])),g,.inr ⟨rfl,.inl ⟨71,zhb N hem hq0 W.1 FQ W.2,rfl⟩⟩⟩
   intro a Z g
   have BQ:=of_decide_eq_false O
   have W:abn es=0\/e.seq≠q.seq:=by have h:=of_decide_eq_false O;by_cases h0:abn es=0;exact .inl h0;exact .inr λh1=>h ⟨h0,h1⟩
   refine Fg Z rfl ?_
   refine wpIn_skip ?_
   refine wpIn_seq ?_
   refine qo ?_
   refine Jb Z g ((Jc O5∘Jf 0∘Jy (v:= .agg #[vI e.seq,vI e.time,vB e.cpu,vB e.kind,vI e.task,vI e.group,vI e.to,vI e.weight,vI e.ticks,vQ e.mask,vI e.got]) (h:=by exact Pe rfl rfl q7 rfl (λ_ h=>h.sub (i:=1) rfl 0 rfl))∘JU rM #[vI e.seq,vI e.time,vB e.cpu,vB e.kind,vI e.task,vI e.group,vI e.to,vI e.weight,vI e.ticks,vQ e.mask,vI e.got]) λFJ g50=>(JD (eD e) 5 (λ_ _=>sV) rM (hr:=by exact λg=>g.bB (i:=0) (n:=1) (size:=11) rfl rfl) (h1:=by exact qR e)) λLJ y C X=>(JW uh aO) λXD=>(qI∘Jq) λa Z g=>?_)
   have Q:(abn es+1)=abn (es++[e]):=by rw [abp];rfl
   rw [Q] at X
   replace g:=g.aY (i:=5) (ys:=(es++[e]).flatMap eD) rfl Q (by rw [abX,afO])
   replace g:=g.dW (i:=6) (ds:= #[.slice y (abn (es++[e])) C]) rfl (by rw [Q];try rfl)
   refine wpIn_seq ?_
   refine qo ?_
   refine Jb Z g ((Jc O4∘Jg 11 O2∘Ja∘JW rQ aO) λXE=>(nT∘Jq) λa Z g=>?_)
   refine wpIn_seq ?_
   refine qo ?_
   refine Jb Z g ((Jc O6∘Jl∘Jc O10∘Jp 1∘dY∘Jq) (Je (λPn=>?_) λPn=>?_))
   ·
    intro a Z g
    refine Fe Z rfl ?_
    refine wpIn_exit ?_
    refine ⟨(ahA J::ahJ s (j+R:Nat)::ahy y (abn (es++[e])) C ((es++[e]).flatMap eD) p o H G E m D b.cells fr),g.pt (fs':=(ahU L (u .busy none)::ahA J::ahJ s (j+R:Nat)::ahy y (abn (es++[e])) C ((es++[e]).flatMap eD) p o H G E m D b.cells fr)) 12 [1,3,4,5,6,7,8,9,10,11],λw5 g=>?_⟩
    exact ⟨(ahU L (u .done (some (.exit 0)))::ahA J::ahJ s (j+R:Nat)::ahy y (abn (es++[e])) C ((es++[e]).flatMap eD) p o H G E m D b.cells []),g,.inr ⟨rfl,.inr ⟨(es++[e]),(j+R),y,C,zli (XA N hem hq0 FQ W) om,X,rfl⟩⟩⟩
   intro a Z g
   refine Fg Z rfl ?_
   refine wpIn_skip ?_
   refine ⟨(ahA J::ahJ s (j+R:Nat)::ahy y (abn (es++[e])) C ((es++[e]).flatMap eD) p o H G E m D b.cells fr),g.pt (fs':=(ahU L (u .busy none)::ahA J::ahJ s (j+R:Nat)::ahy y (abn (es++[e])) C ((es++[e]).flatMap eD) p o H G E m D b.cells fr)) 12 [1,3,4,5,6,7,8,9,10,11],λw5 g=>?_⟩
   exact ⟨(ahU L (u .ready none)::ahA J::ahJ s (j+R:Nat)::ahy y (abn (es++[e])) C ((es++[e]).flatMap eD) p o H G E m D b.cells []),g,.inl ⟨by omega,rfl,⟨(es++[e]),(j+R),y,C,XA N hem hq0 FQ W,by omega,by rw [abC];omega,by rw [abp,abC];simp only [aeP];omega,X,rfl⟩⟩⟩
  refine (q39 w w1 gb gc gy L B0 cpu BM b A c l _ _ _ hL hB hr hc hl hn hy ⟨[],0,none,0,(q27 cpu m b none l).symm,by show 0<m;omega,by omega,by show 0+_<=_;omega,abr _,rfl⟩ (g.pk [4,3,2,0,1,5,6,7,8,9,10,11,12])).mono ?_
  rintro r w2 ⟨v,rfl,F2,xJ,(⟨K,Y,rfl⟩|⟨es,j,I,co,N,hco,rfl⟩)⟩
  ·exact ⟨v,rfl,.inr ⟨.ret,_,.inl ⟨rfl,K,Y,rfl⟩,xJ⟩⟩
  ·exact ⟨v,rfl,.inr ⟨(.exit 0),_,.inr ⟨rfl,es,j,I,co,N,hco,rfl⟩,xJ⟩⟩
 ·intro _ _ _ _ h;exact h.elim
 ·
  clear Z g;rintro _ B a w6 _ (⟨rfl,K,Y,rfl⟩|⟨rfl,es,j,I,co,N,hco,rfl⟩) Z g
  ·
   refine wp_ret ?_
   refine Bz Z g (i:=0) rfl λa w7 Z g=>?_
   exact iN rfl Z (.cell1 (i:=3) Z g rfl rfl kr rfl) (.cell1 (i:=2) Z g rfl rfl kr rfl) (.cell1 (i:=1) Z g rfl rfl kr rfl) (LM ((Pg U).trans Y) g.below)
  ·
   refine wp_exit (wp_seq ?_)
   refine Jb Z g ((Vs (.t (.t (.t (.t (.t (.t (.f .n))))))) [3,4]) λPo=>(Vc 0 O3∘Vc 1 O1) λa Z g P=>?_)
   refine s_on Z 2 rfl (eG Z g 6 λXF g=>?_)
   refine ay (g.pk [0,1,2,3,4,5,7,8]) (λP=>?_)
   refine s_on Z 3 rfl (eG Z g 5 λXG g=>?_)
   refine dN kr ?_
   refine s_on Z 4 rfl (eG Z g 4 λXH g=>?_)
   refine dN kr ?_
   refine qe kr ?_
   refine Jb Z g ((JZ) λa Z g=>?_)
   refine Bz Z g (i:=0) rfl λa w7 Z g=>?_
   exact iN rfl Z (.cell1 (i:=6) Z g rfl rfl kr rfl) (.cell1 (i:=5) Z g rfl rfl kr rfl) (.cell1 (i:=4) Z g rfl rfl kr rfl) (zat ((Pg U).trans N) (g.own (i:=2) rfl) hco g.below)
def zhc (b:Bs) (cpu:Nat) (a:cpu<256) (A:Option Addr) (n c:Nat) (m:Int) (hm:aW m) (l:List Nat) (B:Nat) (w:World) (f:Laid B w) (g:B<=w.heap.size) (hr:Rd w w.heap.size 1 A n (l.map B8)) (hc:n<=c) (i:∀b∈l,b<256) (j:n<=100000000000) (d:Oe m l) {es:List Ev} {L er:Nat} (h:gL b cpu m l=(es,L,er)):
  Calls abo 250 #[.agg b.cells,.int .u8 (cpu:Int),.int .i64 m,.slice A n c] w λr e=>(∃A c,r= .returned (.tuple #[.slice A (abn es) c,.int .i64 (L:Int),.int .i64 (er:Int)])/\e.ownsRow w.heap.size 73 11 (.slice A (abn es) c) (abn es) (es.flatMap eD)/\abn es<=c)/\Below w.heap.size w e:=by
 obtain rfl:abn l=n:=by simpa using hr.len
 have k:=qz1 b cpu a A c m hm l B w f g hr hc i j d
 rwa [h] at k
structure Bk where
 kind:Nat
 cpu:Nat
 lost:Int
 next:Int
 evs:List Ev
structure Bk.Ok (b:Bk):Prop where
 kind:b.kind<256
 cpu:b.cpu<256
 lost:aW b.lost
 next:aW b.next
 evs:∀e∈b.evs,e.Ok
def Bk.zero:Bk:=⟨0,0,0,0,[]⟩
def Bk.DW (b:Bk):Bool:=match b.evs with
 |[]=>decide (0<b.lost)
 |e::_=>decide (e.cpu=b.cpu)
def Bk.oZ (b:Bk):Bool:=decide ((iU b.evs).2=0/\b.cpu<64/\0<=b.lost/\b.lost<=281474976710656/\b.next=0/\b.DW=true)
def Bk.uo (b:Bk):Bool:=decide (1<=b.next/\b.next<=281474976710657/\b.cpu=0/\b.lost=0/\abn b.evs=0)
def Bk.fits (b:Bk):Bool:=if b.kind=1 then b.oZ else if b.kind=2 then b.uo else false
def Bk.base (b:Bk):Bs:=(b.evs.headD Ev.zero).at
def Bk.body (b:Bk):List Nat:=
 if b.kind=2 then ak b.next.toNat
 else ak b.cpu++ak b.lost.toNat++ak (abn b.evs)++(if abn b.evs=0 then [] else ak b.base.seq.toNat++ak b.base.time.toNat++recs b.base b.evs)
def Bk.raw (b:Bk):List Nat:=qX (12+abn b.body)++[113,116,1,b.kind]++b.body
def Bk.err (b:Bk):Nat:=if b.fits=false then 107 else if 4096<12+abn b.body then 3 else 0
def Bk.out (b:Bk):List Nat:=if b.err=0 then bI b.raw else []
def bg (l:List Nat):Nat×Nat:=if abn l<4 then (0,100) else if jO l<13\/4096<jO l then (0,101) else if abn l<jO l then (0,100) else (jO l,0)
def aZ (most:Nat) (l:List Nat):Bool:=decide ((aD l).2.2=0/\(aD l).1<=most)
def qd (l:List Nat):List Nat:=l.drop (aD l).2.1
def aA (most:Nat) (l:List Nat):Nat:=if most<(aD l).1 then most else (aD l).1
def tq (l:List Nat):Option Bk:=
 if aZ 281474976710657 l=true/\abn (qd l)=0/\Bk.fits ⟨2,0,0,aA 281474976710657 l,[]⟩=true then some ⟨2,0,0,aA 281474976710657 l,[]⟩ else none
def tu (cpu lost:Nat) (l:List Nat) (q:List Ev×Nat×Nat):Option Bk:=
 if q.2.2=0/\(q.1.headD Ev.zero).seq=aA 281474976710656 l/\(q.1.headD Ev.zero).time=aA 281474976710656 (qd l)/\aZ 281474976710656 l=true/\aZ 281474976710656 (qd l)=true/\abn ((qd (qd l)).drop q.2.1)=0/\Bk.fits ⟨1,cpu,lost,0,q.1⟩=true then some ⟨1,cpu,lost,0,q.1⟩ else none
def uq (l:List Nat):Bool:=aZ 63 l&&aZ 281474976710656 (qd l)&&aZ 4096 (qd (qd l))
def zb (l:List Nat):Option Bk:=
 if uq l=true/\0<aA 4096 (qd (qd l)) then
  tu (aA 63 l) (aA 281474976710656 (qd l)) (qd (qd (qd l)))
   (gL ⟨aA 281474976710656 (qd (qd (qd l))),aA 281474976710656 (qd (qd (qd (qd l))))⟩ (aA 63 l) (aA 4096 (qd (qd l))) (qd (qd (qd (qd (qd l))))))
 else if uq l=true/\abn (qd (qd (qd l)))=0/\Bk.fits ⟨1,aA 63 l,aA 281474976710656 (qd l),0,[]⟩=true then some ⟨1,aA 63 l,aA 281474976710656 (qd l),0,[]⟩ else none
def uw (kind:Nat) (l:List Nat):Option Bk:=if kind=2 then tq l else zb l
def fB (l:List Nat):Option Bk×Nat:=
 if zj l=false then (none,102)
 else if ¬(l.getD 4 0=113/\l.getD 5 0=116) then (none,103)
 else if l.getD 6 0≠1 then (none,104)
 else if l.getD 7 0≠1/\l.getD 7 0≠2 then (none,105)
 else match uw (l.getD 7 0) ((l.take (abn l-4)).drop 8) with
  |none=>(none,106)
  |some b=>(some b,0)
def dz (l:List Nat):Bk×Nat×Nat:=
 if (bg l).2≠0 then (Bk.zero,0,(bg l).2)
 else match (fB (l.take (bg l).1)).1 with
  |some b=>(b,(bg l).1,0)
  |none=>(Bk.zero,0,(fB (l.take (bg l).1)).2)
def uZ (a:∀x∈l,x<256):∀x∈qd l,x<256:=λx b=>a x (abL b)
theorem nW {most:Nat} (a:List Nat) (h:x<=most) (b:x<18446744073709551616):aZ most (ak x++a)=true/\aA most (ak x++a)=x/\qd (ak x++a)=a:=by grind [aZ,qd,aA,Pt]
variable {b:Bk}
def XU (h:b.fits=true) (hk:b.kind=2):b.uo=true:=by unfold Bk.fits at h;rwa [if_neg om,if_pos hk] at h
theorem LQ (h:b.fits=true) (hk:b.kind≠2):b.kind=1/\b.oZ=true:=by grind [Bk.fits]
theorem qq7 (b:Bs) (e:Ev):1<=abn (zh b e):=by unfold zh;simp
theorem q4g (b:Bs) (e:Ev):abn (zh b e)<=61:=by grind [Ev.vals,zq,zh,xY,zO,Bj]
theorem XV:∀(l:List Ev) (b:Bs),abn (recs b l)<=61*abn l:=by intro x;induction x<;>grind [q4g,recs]
theorem zhd:∀(l:List Ev) (b:Bs),abn l<=abn (recs b l):=by intro x;induction x<;>grind [qq7,recs]
theorem zll (hk:b.kind≠2):abn b.evs<=abn b.body:=by grind [Bk.body,zhd]
theorem XW {cpu:Nat}:∀(es:List Ev) (p:Option Ev) (b:Bs) (i:Nat),(∀e∈es,e.Ok)->b.right=true->(∀e∈es.head?,b.behind e=true/\e.cpu=cpu)->(∀q,p=some q->b=q.at/\q.cpu=cpu)->(iD p i es).2=0->Chain cpu p b es
 |[],_,_,_,_,_,_,_,_=>trivial
 | e :: r, p, b, i, a, j, k, m, h => by
  rw [iD] at h
  split at h
  ·rename_i f;exact absurd h f
  ·rename_i f
   split at h
   ·cases h
   ·rename_i n
    have hc:e.check=0:=by omega
    obtain ⟨l,g⟩:=k e (by simp)
    refine ⟨⟨j,hc,a e (by simp),l⟩,g,?_,?_⟩
    ·grind [Ev.after]
    ·refine XW r (some e) e.at (i+1) (λx c=>a x (by simp [c])) (LP hc) ?_ (λq d=>by injection d with d;subst d;exact ⟨rfl,g⟩) h
     intro x c
     cases r with
     |nil=>cases c
     |cons y r=>
      grind [Bs.behind,Ev.after,Ev.at,iD]
theorem za1 {l:List Ev} (h:(iU l).2=0) (a:l.head?=some e):e.check=0:=by
 cases l with
 |nil=>cases a
 |cons x r=>
  grind [iD,iU]
theorem qt9 (e:Ev):e.at.behind e=true:=by grind [Bs.behind,Ev.at]
structure BR (b:Bk) (e:Ev) (r:List Ev):Prop where
 evs:b.evs=e::r
 cpu:e.cpu=b.cpu
 base:b.base=e.at
 check:e.check=0
 right:e.at.right=true
 chain:Chain b.cpu none e.at b.evs
theorem qos (c:b.Ok) (h:b.oZ=true) (f:abn b.evs≠0):∃e r,BR b e r:=by
 unfold Bk.oZ at h
 rw [decide_eq_true_eq] at h
 obtain ⟨g,j,k,l,m,d⟩:=h
 cases hev:b.evs with
 |nil=>rw [hev] at f;simp at f
 |cons e r=>
  have hc:e.check=0:=za1 g (by rw [hev];rfl)
  have a:e.cpu=b.cpu:=by unfold Bk.DW at d;rw [hev] at d;simpa using d
  refine ⟨e,r,hev,a,by unfold Bk.base;rw [hev];rfl,hc,LP hc,?_⟩
  refine XW b.evs none e.at 0 c.evs (LP hc) ?_ (λq i=>by cases i) g
  grind [qt9]
def qz3 (a:b.Ok) (h:b.oZ=true) (c:abn b.evs≠0):rJ b.base b.evs=0/\uH b.base b.evs=recs b.base b.evs:=by
 obtain ⟨e,r,g⟩:=qos a h c
 rw [g.base]
 obtain ⟨_,d,f⟩:=XT g.right g.chain
 exact ⟨d,f⟩
theorem zlm (h:e.at.right=true):((e.seq.toNat:Nat):Int)=e.seq/\((e.time.toNat:Nat):Int)=e.time/\e.seq.toNat<=281474976710656/\e.time.toNat<=281474976710656:=by grind [Bs.right,Ev.at]
def zhe (h1:b.kind=1) (a:b.next=0) (l:Nat) (c:(l:Int)=b.lost):(⟨1,b.cpu,(l:Int),0,b.evs⟩:Bk)=b:=by
 cases b
 simp only at h1 a c
 subst h1;subst a;rw [c]
theorem qz4 (i:b.Ok) (h:b.fits=true) (u:abn b.evs<=4096):uw b.kind b.body=some b:=by
 unfold uw
 split
 ·rename_i f
  have O:=h
  have h:=XU h f
  unfold Bk.uo at h
  rw [decide_eq_true_eq] at h
  obtain ⟨v,w,y,z,l⟩:=h
  have A:((b.next.toNat:Nat):Int)=b.next:=by omega
  have P:(⟨2,0,0,((b.next.toNat:Nat):Int),[]⟩:Bk)=b:=by
   rw [A]
   cases b
   grind
  unfold Bk.body tq
  rw [if_pos f]
  obtain ⟨Q,S,T⟩:=nW (most:=281474976710657) (x:=b.next.toNat) [] om om
  grind
 ·rename_i f
  obtain ⟨j,m⟩:=LQ h f
  have c:=m
  unfold Bk.oZ at c
  rw [decide_eq_true_eq] at c
  obtain ⟨v,w,y,z,l,U⟩:=c
  have d:((b.lost.toNat:Nat):Int)=b.lost:=by omega
  have a:=zhe j l b.lost.toNat d
  unfold Bk.body zb
  rw [if_neg f]
  simp only [abu]
  generalize k:(if abn b.evs=0 then [] else ak b.base.seq.toNat++(ak b.base.time.toNat++recs b.base b.evs))=R
  obtain ⟨B,C,D⟩:=nW (most:=63) (x:=b.cpu) (ak b.lost.toNat++(ak (abn b.evs)++R)) om om
  obtain ⟨E,F,G⟩:=nW (most:=281474976710656) (x:=b.lost.toNat) (ak (abn b.evs)++R) om om
  obtain ⟨H,I,J⟩:=nW (most:=4096) (x:=abn b.evs) R u om
  unfold uq
  rw [D,G,J,B,C,E,F,H,I]
  by_cases n:abn b.evs=0
  ·grind
  ·rw [if_neg n] at k
   obtain ⟨e,r,g⟩:=qos i m n
   obtain ⟨o,p,q,s⟩:=zlm g.right
   rw [g.base] at k
   subst k
   obtain ⟨K,L,M⟩:=nW (most:=281474976710656) (x:=e.at.seq.toNat) (ak e.at.time.toNat++recs e.at b.evs) q (by have:=q;show e.seq.toNat<_;omega)
   obtain ⟨e1,e2,e3⟩:=nW (most:=281474976710656) (x:=e.at.time.toNat) (recs e.at b.evs) s (by have:=s;show e.time.toNat<_;omega)
   have N:(⟨((e.at.seq.toNat:Nat):Int),((e.at.time.toNat:Nat):Int)⟩:Bs)=e.at:=by
    show (⟨((e.seq.toNat:Nat):Int),((e.time.toNat:Nat):Int)⟩:Bs)=⟨e.seq,e.time⟩
    rw [o,p]
   have t:=q4f g.right g.chain []
   rw [abP] at t
   rw [if_pos ⟨rfl,by omega⟩]
   unfold tu
   rw [M,L,e2,e3,K,e1,N,t,if_pos]
   ·rw [a]
   ·refine ⟨rfl,?_,?_,rfl,rfl,by simp,by rw [a];exact h⟩
    ·rw [g.evs];exact o.symm
    ·rw [g.evs];exact p.symm
theorem LU (h:x<=281474976710657):aW (x:Int):=by unfold aW;omega
def zbc (b:Bk):b.raw.drop 8=b.body:=by unfold Bk.raw;rfl
def Ym (h:(bg l).2=0):jO l=(bg l).1/\13<=(bg l).1/\(bg l).1<=4096/\(bg l).1<=abn l:=by
 unfold bg at h⊢
 split at h
 ·cases h
 ·split at h
  ·cases h
  ·split at h
   ·cases h
   ·rename_i a b c
    rw [if_neg a,if_neg b,if_neg c]
    omega
def Mf {α:Type} (f:α->List Value) (sz:Nat) (a:∀x,abn (f x)=sz):∀(l:List α) (k:Nat),(l.flatMap f).take (k*sz)=(l.take k).flatMap f
 |[],_=>by simp
 |_::_,0=>by simp
 |x::l,k+1=>by
  rw [abK,List.take_succ_cons,abK,List.take_append,abI (by rw [a,adD];omega),a,<-Mf f sz a l k]
  congr 2
  rw [adD];omega
def rU (x:Sm):List Value:=x.cells.toList
def D6 (x:Sm):abn (rU x)=11:=rfl
def vw:SI abo 280 11:=⟨by kernel_rfl,by kernel_rfl⟩
def Ai:EI abo 111 280 (.agg (Sm.cells ⟨0,0,0,0,0,0,0,0,0,0,0⟩)) 11 48:=⟨by kernel_rfl,by kernel_rfl,rfl,by omega⟩
structure pJ (w:World) (es:List Ev) (r:Ending) (w':World):Prop where
 ret:∃v,r= .returned v/\w'.ownsRow w.heap.size 73 11 v (abn es) (es.flatMap eD)
 below:Below w.heap.size w w'
def zlr (n:Nat) (l:List Sm) (h:abn l=n):abO .i64 (if ((200:Int)<(n:Int)) then 200 else (n:Int))= .int .i64 ((abn (l.take 200):Nat):Int):=by
 congr 1
 rw [abv]
 split<;>omega
def YC {a b d:Nat} (h:w.heap[g]?=some (.cells #[.int .i64 (a:Int),.int .i64 (b:Int),.int .i64 (c:Int),.int .i64 (d:Int)] t (0,0))) {k r:Nat} (hk:k<4) (hr:(if k=0 then a else if k=1 then b else if k=2 then c else d)=r):w.cell? ⟨g,k*1,none⟩=some (.int .i64 (r:Int)):=by
 subst hr
 unfold aea
 rw [h]
 obtain rfl|rfl|rfl|rfl:k=0\/k=1\/k=2\/k=3:=by omega
 all_goals rfl
def q0c (k:Nat):0<rT k/\rT k<=4294967296:=by unfold rT;split<;>(try split)<;>(try split)<;>omega
def q41 (k:Nat):0<stepT k/\stepT k<=4294967296:=by unfold stepT;split<;>(try split)<;>(try split)<;>omega
def go_step {cpu:Nat} {a:Bs} {L:List Sm} {x y:Sm} {z:Ev} (b:L[k]?=some x) (hy:({x with cpu:=cpu}:Sm)=y) (hz:y.ev.moved (a.step x).seq (a.step x).time=z):vv cpu a (L.drop k)=z::vv cpu (a.step x) (L.drop (k+1)):=by
 obtain ⟨c,d⟩:=List.getElem?_eq_some_iff.1 b
 rw [ace c,d,vv,hy,hz]
def q0d (cpu:Nat) (D:cpu<256) (b:Bs) (hb:b.Ok) (A:Option Addr) (c:Nat) (l:List Sm) (hl:∀x∈l,x.Ok) (w:World) (hr:Rd w w.heap.size 11 A (abn l) (l.flatMap rU)) (hc:abn l<=c) (hn:abn l<=9223372036854775807):
    Calls abo 104 #[.int .u8 (cpu:Int),.agg b.cells,.slice A (abn l) c] w (pJ w (lS cpu b l)):=by
 refine (uU Tryz.func104 74) ?_
 refine (JP∘JE) λw4 g4=>(Jp 1∘Jq) ?_
 obtain ⟨_,hb1,hb2,hb3,hb4⟩:=Qc b
 obtain ⟨L,r⟩:∃L,l.take 200=L:=⟨_,rfl⟩
 have O:abn L<=abn l/\abn L<=200:=by rw [<-r,abv];omega
 have P:∀x∈L,x.Ok:=λx E=>hl x (List.mem_of_mem_take (by rw [r];exact E))
 have F:Rd w w.heap.size 11 A (abn L) (L.flatMap rU):=by have h:=hr.upto (k:=abn L) O.1;rwa [Mf rU 11 D6,show l.take (abn L)=L by rw [<-r,abv];rcases Nat.le_total 200 (abn l) with h|h;rw [Nat.min_eq_left h];rw [Nat.min_eq_right h,abI (abr _),abI h]] at h
 refine (JG∘JP∘dZ iE O0∘JL (h:=by exact λe=>q4y b hb _)) ?_
 rintro e _ uY ⟨rfl,B⟩
 refine ⟨_,rfl,_,e.call B,?_⟩
 refine (JA #[vI 0,vI 0]) λw7 g7=>(JV iE aO (h1:=by exact K7 b.based)) λQd=>(bQ∘Jr∘Jg 0 O0∘Jp 1∘Jo (vI (b.based.seq-1)) (by exact mF ⟨by omega,by omega⟩)∘Jf 0) λa Z e=>?_
 refine fo Z 4 rfl rfl ?_
 refine qG Z e (i:=0) rfl rfl rfl rfl kr rfl rfl (by simp [Bs.cells]) λaiR e=>?_
 refine Jb Z e ((nT∘bA 1∘Jq∘JC (h:=by exact λe=>e.nil 73 11)∘JG∘bN 2∘Jl∘Jy (v:=vI (if (200:Int)<(abn l:Int) then 200 else (abn l:Int))) (h:=by exact Yl.min rfl rfl rfl)∘Jo (vI (abn L)) (by rw [<-r];exact zlr _ _ rfl)∘Jy (h:=by exact aag Ai (j:=abn L) rfl rfl rfl om)∘Jl∘bM 1∘JB) λa Z e=>?_)
 refine qg (λmS aS G=>∃(k:Nat) (pre:List Ev) (g:Bs) (Q:Option Addr) (co:Nat),(k<=abn L)/\(vv cpu b.start L=pre++vv cpu g (L.drop k))/\(abn pre=k)/\(abn pre<=co)/\(0<=g.seq/\g.seq<=1099511627776+4294967296*(k:Int)/\0<=g.time/\g.time<=1099511627776+4294967296*(k:Int))/\mS=abn L-k/\Fr aS 74 [] (ahK 24 k 23 (abn L) [(22,.slice A (abn L) c),(8,.slice Q (abn pre) co),(7,vP g7 0),(6,.slice none 0 0),(0,vB cpu)])/\Mem w G [.row (.slice Q (abn pre) co) (abn pre) (pre.flatMap eD) 73 11,.blk g7 g.cells 110]) (m:=abn L-0) ⟨0,[],b.start,none,0,abA _,rfl,rfl,abr _,by show 0<=b.based.seq-1/\b.based.seq-1<=_/\0<=b.based.time/\b.based.time<=_;omega,rfl,Z.sub kr,e.pk [0,1]⟩ ?_
 clear Z e;rintro mS a w_ ⟨k,pre,g,Q,co,hk,H,R,hco,ha,rfl,Z,e⟩
 refine Jb Z e ((cO 1∘JQ) (Ji (λI=>?_) λI=>?_))
 ·
  have C:k<abn L:=by omega
  obtain ⟨x,E⟩:∃x,L[k]?=some x:=⟨_,abq C⟩
  have s:=P x (abH E)
  obtain ⟨y,T⟩:∃y,({x with cpu:=cpu}:Sm)=y:=⟨_,rfl⟩
  have U:y.Ok:=by rw [<-T];exact {s with cpu:=D}
  have V:=q0c x.kind
  have W:=q41 x.kind
  have hm1:=adW x.seq V.1
  have hm2:=adW x.time W.1
  obtain ⟨z,hz⟩:∃z,y.ev.moved (g.step x).seq (g.step x).time=z:=⟨_,rfl⟩
  intro a Z e
  have X:=go_step (a:=g) E T hz
  have hxk:=s.kind
  have hxs:=s.seq
  have hxt:=s.time
  refine Jb Z e ((eO∘JP) ?_)
  obtain ⟨gA,oA,rfl,_⟩:=F.sat k (hk:=C)
  refine (iC k 11 (hy:=C)∘Jy (v:= .agg x.cells) (h:=by exact Pe rfl rfl vw rfl (λ_ h=>(h.old F).qc3 D6 (E)))∘JA #[vB 0,vB 0,vW 0,vW 0,vW 0,vW 0,vW 0,vW 0,vW 0,vW 0,vQ 0]) λqY g10=>(JV vw aO (h1:=by exact zhl x)) λQe=>(bQ∘bA 1∘Jf 1) λa Z e=>?_
  refine fo Z 2 rfl rfl ?_
  refine qG Z e (i:=0) rfl rfl rfl rfl kr rfl rfl (by simp [Sm.cells]) λQf e=>?_
  refine Jb Z e ((nA∘Jr∘Jy (v:= .agg #[vB x.kind,vB cpu,vW x.seq,vW x.time,vW x.task,vW x.group,vW x.to,vW x.weight,vW x.ticks,vW x.got,vQ x.mask]) (h:=by exact Pe rfl rfl vw rfl (λ_ h=>qj (h.blk (i:=0) rfl)))∘Jo (.agg y.cells) (by rw [<-T];try rfl)∘JL (h:=by exact λe=>q4z y U _)) ?_)
  rintro e _ Gc ⟨rfl,B⟩
  refine ⟨_,rfl,_,e.call B,?_⟩
  refine (JA aiy) λuV g11=>(JV ⟨kr,kr⟩ aO (h1:=by exact qR y.ev)) λaiS=>(bQ∘Jj) λa Z e=>?_
  refine wp_seq ?_
  refine Jb Z e ((Vs .n [16]) λQg=>(Vf 0 0∘Vf 2 2∘Vf 6 0∘Vc 1 O3∘Vc 3 O1∘Vw 4 .i64∘Vc 7 O1∘Vp [8]∘Vo (vB (x.kind/16:Nat)) (by exact uf .u8 x.kind (j:=4) (q:=16) rfl rfl)∘Vp [9]∘Vo (vB ((x.kind/16)%4:Nat)) (by exact ze .u8 _ 4)) λa Z e o=>?_)
  refine s_on Z 5 rfl (jl Z e kE [(0,vI 1),(1,vI 3),(2,vI 200),(3,vI 4294967296)] #[vI 1,vI 3,vI 200,vI 4294967296] ?_)
  clear Z e;intro a D5 Y Z e
  refine ay (e.pk [1,2,3,4]) (λo=>?_)
  refine Vb Z e o ((Vy 10 (h:=by exact Yl.iK Y (x.kind/2^4%4) 1 rfl rfl rfl)) λa Z e o=>?_)
  refine s_on Z 11 rfl ?_
  refine Yl.wp (S:=λG=>Mem w G _) (v:=vI (rT x.kind)) (Pd rfl rfl kr (λ_ h=>YC (a:=1) (b:=3) (c:=200) (d:=4294967296) (h.blk (i:=0) rfl) om rfl)) Z e rfl de λa Z=>?_
  refine ay o (λo=>?_)
  refine Vb Z e o ((Vy 12 (v:=vI (x.seq% (rT x.kind):Nat)) (h:=by exact aaw (m:=x.seq) (n:=(rT x.kind)) rfl rfl rfl om)∘Vp [13]∘Vo (vI (1+(x.seq% (rT x.kind)):Nat)) (by exact za om om)∘Vp [14]∘Vo (vI ((g.step x).seq)) (by exact mF (x:=g.seq+((1+x.seq%rT x.kind:Nat):Int)) ⟨by omega,by omega⟩)∘Vf 15 0) λa Z e o=>?_)
  refine s_on Z 16 rfl ?_
  refine qG Z e (i:=4) rfl rfl rfl rfl kr rfl rfl (by simp [Bs.cells]) λYD e=>?_
  refine dN kr ?_
  refine qe kr ?_
  refine wp_seq ?_
  refine Jb Z e ((Vs .n [14]) λrz=>(Vf 0 1∘Vf 2 3∘Vf 6 0∘Vc 1 O4∘Vc 3 O2∘Vw 4 .i64∘Vc 7 O2∘Vp [8]∘Vo (vB (x.kind/64:Nat)) (by exact uf .u8 x.kind (j:=6) (q:=64) rfl rfl)) λa Z e o=>?_)
  refine s_on Z 5 rfl (jl Z e kE [(0,vI 1),(1,vI 300),(2,vI 100000),(3,vI 4294967296)] #[vI 1,vI 300,vI 100000,vI 4294967296] ?_)
  clear Z e;intro a Xo g53 Z e
  refine ay (e.pk [1,2,3,4,5]) (λo=>?_)
  refine Vb Z e o ((Vy 9 (h:=by exact Yl.iK g53 (x.kind/2^6) 1 rfl rfl rfl)) λa Z e o=>?_)
  refine s_on Z 10 rfl ?_
  refine Yl.wp (S:=λG=>Mem w G _) (v:=vI (stepT x.kind)) (Pd rfl rfl kr (λ_ h=>YC (a:=1) (b:=300) (c:=100000) (d:=4294967296) (h.blk (i:=0) rfl) om rfl)) Z e rfl de λa Z=>?_
  refine ay o (λo=>?_)
  refine Vb Z e o ((Vy 11 (v:=vI (x.time% (stepT x.kind):Nat)) (h:=by exact aaw (m:=x.time) (n:=(stepT x.kind)) rfl rfl rfl om)∘Vp [12]∘Vo (vI ((g.step x).time)) (by exact mF (x:=g.time+((x.time%stepT x.kind:Nat):Int)) ⟨by omega,by omega⟩)∘Vf 13 1) λa Z e o=>?_)
  refine s_on Z 14 rfl ?_
  refine qG Z e (i:=5) rfl rfl rfl rfl kr rfl rfl (by simp [Bs.cells]) λN e=>?_
  refine dN kr ?_
  refine qe kr ?_
  refine wp_seq ?_
  refine Jb Z e ((Vs (.t (.t (.f .n))) [7]) λOU=>(Vf 0 0∘Vf 2 1∘Vc 1 O4∘Vf 4 0∘Vc 3 O4) λa Z e o=>?_)
  refine s_on Z 5 rfl ?_
  refine qG Z e (i:=2) rfl rfl rfl rfl kr rfl rfl (by simp [Ev.cells]) λYE e=>?_
  refine ay (e.pk [0,1,3,4,5]) (λo=>?_)
  refine Vb Z e o ((Vf 6 1) λa Z e o=>?_)
  refine s_on Z 7 rfl ?_
  refine qG Z e (i:=2) rfl rfl rfl rfl kr rfl rfl (by simp [Ev.cells]) λYF e=>?_
  refine dN kr ?_
  refine qe kr ?_
  refine Jb Z e ((JR∘Jp 1∘Jy (v:= .agg #[vI ((g.step x).seq),vI ((g.step x).time),vB y.ev.cpu,vB y.ev.kind,vI y.ev.task,vI y.ev.group,vI y.ev.to,vI y.ev.weight,vI y.ev.ticks,vQ y.ev.mask,vI y.ev.got]) (h:=by exact Pe rfl rfl ⟨kr,kr⟩ rfl (λ_ h=>qj (h.blk (i:=2) rfl)))∘Jo (.agg z.cells) (by rw [<-hz];try rfl)∘JU rM z.cells) λw70 g70=>(JD (eD z) 5 (λ_ _=>sV) rM (hr:=by exact λe=>e.bB (i:=0) (n:=1) (size:=11) rfl rfl) (h1:=by exact qR z)) λw71 J K u=>(Jp 1∘aH∘Jq) ?_)
  have p:(abn pre+1)=abn (pre++[z]):=by rw [abp];rfl
  rw [p] at u
  refine (JC (h:=by exact λe=>e.aY (i:=5) (ys:=(pre++[z]).flatMap eD) rfl p (by rw [abX,afO]))∘Jk 8 (.slice J (abn (pre++[z])) K) (h:=by exact iB p)∘JG∘JR∘dx 1∘Jp 1∘aK∘Jq) λa Z e=>?_
  exact ⟨_,om,k+1,(pre++[z]),(g.step x),J,K,by omega,by rw [H,X,abu];rfl,by rw [abp,R];rfl,u,by show 0<=g.seq+((1+x.seq%rT x.kind:Nat):Int)/\g.seq+((1+x.seq%rT x.kind:Nat):Int)<=_/\0<=g.time+((x.time%stepT x.kind:Nat):Int)/\g.time+((x.time%stepT x.kind:Nat):Int)<=_;omega,rfl,Z.sub kr,e.pk [5,6]⟩
 have M:vv cpu b.start L=pre:=by rw [H,adx om];exact abP _
 exact (JF∘JX∘JG∘aJ 2∘aK∘aP∘bC) λe=>by exact ⟨⟨_,rfl,by unfold lS;rw [r,M];exact e.own (i:=0) rfl⟩,e.below⟩
def YG (cpu:Nat) (a:cpu<256) (b:Bs) (hb:b.Ok) (A:Option Addr) (n c:Nat) (l:List Sm) (d:∀x∈l,x.Ok) (w:World) (hr:Rd w w.heap.size 11 A n (l.flatMap rU)) (hc:n<=c) (e:n<=9223372036854775807):
  Calls abo 104 #[.int .u8 (cpu:Int),.agg b.cells,.slice A n c] w (pJ w (lS cpu b l)):=by
 obtain rfl:abn l=n:=by have:=hr.len;rw [qQ rU 11 D6] at this;omega
 exact q0d cpu a b hb A c l d w hr hc e
def gU (xs:Array Value) (i:Nat):Int:=match xs[i]? with
 |some (.int _ n)=>n
 |_=>0
def Pp (P : Program) (f : Field) (i : Nat) : Bool := f.name != "_" && (f.offset == i && (gD P f.type && match P.underlying f.type with
 |some (.int _)=>true
 |_=>false))
def XI {P:Program} (d:Nat) (xs ys:Array Value):∀(c:List Field) (i:Nat) (w:World),(∀j,j<abn c->∃f k a b,c[j]?=some f/\Pp P f (i+j)=true/\xs[i+j]?=some (.int k a)/\ys[i+j]?=some (.int k b))->
  (Op.eqFields (d+1) xs ys c).run P w= .ok ((acp (abn c)).all λj=>gU xs (i+j)==gU ys (i+j)) w
 |[],i,w,_=>rfl
 | f :: c, i, w, h => by
  obtain ⟨B,k,a,b,n,p,g,l⟩:=h 0 (by simp)
  simp only [afI,Option.some.injEq] at n
  subst n
  simp only [Pp,abG,bne_iff_ne,beq_iff_eq,acE] at p
  obtain ⟨u,v,x,t⟩:=p
  rw [acE] at g l
  have y:=XI d xs ys c (i+1) w (λj z=>by
   obtain ⟨f,k,a,b,n,p,g,l⟩:=h (j+1) (by simpa using z)
   refine ⟨f,k,a,b,by simpa using n,?_,?_,?_⟩
   ·rw [show i+1+j=i+(j+1) by omega];exact p
   ·rw [show i+1+j=i+(j+1) by omega];exact g
   ·rw [show i+1+j=i+(j+1) by omega];exact l)
  have q:∃m,P.underlying f.type=some (.int m):=by
   split at t
   ·rename_i m A;exact ⟨m,A⟩
   ·cases t
  obtain ⟨m,q⟩:=q
  have r:gU xs i=a:=by simp [gU,g]
  have s:gU ys i=b:=by simp [gU,l]
  have e:(acp (abn (f::c))).all (λj=>gU xs (i+j)==gU ys (i+j))=((a==b)&& (acp (abn c)).all λj=>gU xs (i+1+j)==gU ys (i+1+j)):=by
   rw [abT,List.range_succ_eq_map,List.all_cons,acE,r,s,List.all_map]
   congr 2
   funext j
   simp only [Function.comp_apply,Nat.succ_eq_add_one]
   rw [show i+(j+1)=i+1+j by omega]
  rw [e]
  unfold Op.eqFields
  rw [if_pos u]
  simp only [abF,part,EZ x,abz,Bool.false_eq_true,if_false,v,g,l,abN,run_equalIn_int w d f.type k m a b q]
  cases hab:(a==b)
  ·simp
  ·simp [y]
def FW (P:Program) (t:TypeId):Bool:= !P.stoodInHeld t&& (!P.eqGuardType P.depth t&& ((P.fieldsOf t).size==11&& ((acp 11).all λi=>match (P.fieldsOf t).toList[i]? with
 |some f=>Pp P f i
 |none=>false)))
def qt7 (h:(P.fieldsOf t).size=11):P.underlying t=some (.struct (P.fieldsOf t)):=by
 unfold Program.fieldsOf at h⊢
 split at h
 ·rename_i b a;rw [a]
 ·cases h
def q4a (e:Ev):∀i,i<11->∃k,e.cells[i]?=some (.int k (gU e.cells i))/\∀a:Ev,a.cells[i]?=some (.int k (gU a.cells i)):=by
 intro i hi
 have h:i=0\/i=1\/i=2\/i=3\/i=4\/i=5\/i=6\/i=7\/i=8\/i=9\/i=10:=by omega
 rcases h with rfl|rfl|rfl|rfl|rfl|rfl|rfl|rfl|rfl|rfl|rfl<;>exact ⟨_,rfl,λ_=>rfl⟩
instance XJ:DecidableEq Ev:=λ⟨c,d,e,f,g,h,i,j,k,l,a⟩ ⟨m,n,p,q,r,s,t,u,v,w,b⟩=>
 decidable_of_iff (c=m/\d=n/\e=p/\f=q/\g=r/\h=s/\i=t/\j=u/\k=v/\l=w/\a=b) (by rw [Ev.mk.injEq])
def zlj (x y:Ev):((acp 11).all λj=>gU x.cells (0+j)==gU y.cells (0+j))=decide (x=y):=by
 rw [abY,decide_eq_true_eq]
 constructor
 ·intro h
  have g:∀j,j<11->gU x.cells j=gU y.cells j:=λj q=>by
   have:=ab3.1 h j (aeA.2 q)
   simpa using this
  obtain ⟨r,s,i,k,t,u,v,w,z,l,a⟩:=x
  obtain ⟨A,B,m,n,C,D,E,F,G,p,b⟩:=y
  have H:r=A:=g 0 de
  have I:s=B:=g 1 de
  have O:(i:Int)=m:=g 2 de
  have Q:(k:Int)=n:=g 3 de
  have J:t=C:=g 4 de
  have K:u=D:=g 5 de
  have L:v=E:=g 6 de
  have M:w=F:=g 7 de
  have N:z=G:=g 8 de
  have R:(l:Int)=p:=g 9 de
  have c:a=b:=g 10 de
  have d:i=m:=by omega
  have e:k=n:=by omega
  have f:l=p:=by omega
  subst H I d e J K L M N f c
  rfl
 ·rintro rfl
  simp
def zav (ht:FW P t=true) (x y:Ev) (w:World):(adb t (.agg x.cells) (.agg y.cells)).run P w= .ok (decide (x=y)) w:=by
 simp only [FW,abG,acF,beq_iff_eq] at ht
 obtain ⟨d,_,a,e⟩:=ht
 unfold adb
 rw [show Op.maxDepth=9998+1+1 from rfl,run_equalIn_struct w 9999 t _ _ (qt7 a) d,XI 9998 _ _ _ 0 w]
 ·rw [acs,a,zlj]
 ·intro j b
  rw [acs,a] at b
  have:=ab3.1 e j (aeA.2 b)
  split at this
  ·rename_i f g
   obtain ⟨k,h,c⟩:=q4a x j b
   rw [ab7]
   exact ⟨f,k,_,_,g,this,h,c y⟩
  ·cases this
def qz2 (ht:FW P t=true) (op:BinOp) (x y:Operand) (a b:Array Value) (w:World):(eqGuard op t x y (.agg a) (.agg b)).run P w= .ok () w:=by
 simp only [FW,abG,acF,beq_iff_eq] at ht
 obtain ⟨_,c,_⟩:=ht
 unfold eqGuard
 cases op<;>simp<;>simp [c]
section
variable {P:Program} {S:World->Prop} {σ:List (Nat×Value)} {o:Oper}
def aa3 {u:TypeId} {p q:Operand} {x y:Ev} (b:o.op= .binOp .neq t p q u) (c:look σ p=some (.agg x.cells)) (hy:look σ q=some (.agg y.cells)) (ht:FW P t=true):Yl P S σ o (.bool (!decide (x=y))):=λa n D Z w d=>by
 unfold execOp
 have e:(binOp .neq t (.agg x.cells) (.agg y.cells)).run P w= .ok (.bool (!decide (x=y))) w:=by
  show ((do Pure.pure (.bool (!(<-adb t (.agg x.cells) (.agg y.cells)))):Sem Value)).run P w=_
  simp [zav ht]
 simp only [b,Z.eval c,Z.eval hy,abF,qz2 ht,abz,e,abN]
end
def Bk.cells (b:Bk) (A:Option Addr) (c:Nat):Array Value:= #[.int .u8 (b.kind:Int),.int .u8 (b.cpu:Int),.int .i64 b.lost,.int .i64 b.next,.slice A (abn b.evs) c]
def tC (b:Bk) (A:Option Addr) (c:Nat):∀v∈(b.cells A c).toList,v.oneCell'=true:=by intro v a;simp [Bk.cells] at a;rcases a with rfl|rfl|rfl|rfl|rfl<;>rfl
def aG:SI abo 85 5:=⟨by kernel_rfl,by kernel_rfl⟩
def FX:EI abo 402 30 (.slice none 0 0) 1 24:=⟨by kernel_rfl,by kernel_rfl,rfl,by omega⟩
def Ac:SI abo 287 2:=⟨by kernel_rfl,by kernel_rfl⟩
structure aT (B:Nat) (w:World):Prop where
 laid:Laid B w
 halves:∀k,k<16->w.cell? ⟨1,k,none⟩=some (.int .u32 ((sQ.getD k 0:Nat):Int))
 FY:1<B
 qZ:w.cell? ⟨0,0,none⟩=some (.int .u8 113)
 ru:w.cell? ⟨0,1,none⟩=some (.int .u8 116)
 BS:0<B
def aT.xX (h:aT B w) (hk:∀p:Addr,p.block<B->W.cell? p=w.cell? p):aT B W:=
 ⟨h.laid.xX hk,λk a=>(hk _ h.FY).trans (h.halves k a),h.FY,(hk _ h.BS).trans h.qZ,(hk _ h.BS).trans h.ru,h.BS⟩
theorem aT.mem (h:aT B W) (a:Mem W w fs) (b:B<=W.heap.size):aT B w:=h.xX λ_ c=>a.below.cell om
def XY (h:aT B W) (a:Mem W w fs) (b:B<=W.heap.size) {k:Nat} (hk:k<16):w.cell? ⟨1,k*1,none⟩=some (.int .u32 ((sQ.getD k 0:Nat):Int)):=by
 rw [acX];exact (h.mem a b).halves k hk
def za2 (h:aT B W) (b:Mem W w fs) (c:B<=W.heap.size):w.rangeAt 0 0 (#[abO .u8 113,.int .u8 116]:Array Value).toList:=λj v a=>by
 have d:=(h.mem b c).qZ
 have e:=(h.mem b c).ru
 rcases j with _|_|j
 ·simp at a;subst a;exact d
 ·simp at a;subst a;exact e
 ·simp at a
theorem XZ (h:abn b.evs≠0):b.DW=decide ((b.evs.getD 0 Ev.zero).cpu=b.cpu):=by grind [Bk.DW]
theorem X0 (h:abn b.evs=0):b.DW=decide (0<b.lost):=by
 unfold Bk.DW
 rw [List.length_eq_zero_iff] at h
 rw [h]
def q4h (b:Bk):b.base=⟨(b.evs.getD 0 Ev.zero).seq,(b.evs.getD 0 Ev.zero).time⟩:=by
 unfold Bk.base Ev.at
 cases b.evs<;>rfl
def zln (k:Nat):k=1\/k=2\/(k≠1/\k≠2):=by omega
def za3 (a:b.Ok) (h:b.fits=true) (hk:b.kind≠2) (c:abn b.evs≠0):0<=b.base.seq/\b.base.seq<=281474976710656/\0<=b.base.time/\b.base.time<=281474976710656:=by
 obtain ⟨e,r,g⟩:=qos a (LQ h hk).2 c
 have:=g.right
 rw [<-g.base] at this
 have d:1<=b.base.seq/\b.base.seq<=281474976710656/\0<=b.base.time/\b.base.time<=281474976710656:=by simpa [Bs.right] using this
 omega
theorem q4i (h:b.fits=true) (hk:b.kind≠2):b.kind=1/\0<=b.lost/\b.lost<=281474976710656/\b.cpu<64/\b.next=0:=by grind [Bk.oZ,LQ]
def X3 (h:b.fits=true) (hk:b.kind=2):1<=b.next/\b.next<=281474976710657/\b.cpu=0/\b.lost=0/\abn b.evs=0:=by
 have a:=XU h hk
 unfold Bk.uo at a
 rw [decide_eq_true_eq] at a
 exact a
section
open Go.ChangeShapes Go.WideShapes
def za4 {B:List Value} {p:List MemPlace}
  (h:DataW.trod (λ_=>()) abo W 0 (λ_=>true) false m 38 B=some (.slice (l.map λz:Nat=> .lit (.int .i64 (z:Int))) [],p)):
  ∃A c,B=[.slice A (abn l) c]/\Rd W W.heap.size 1 A (abn l) (l.map dM):=by
 obtain ⟨a,cap,g,r,d⟩:=open_row (e:=3) kr kr h
 have b:∀i z,l[i]?=some z->W.cell? (a.add i)=some (dM z):=by
  intro i z hz
  obtain ⟨v,n,q,hc,ht⟩:=d i (.lit (.int .i64 (z:Int))) (by rw [ac0,hz];rfl)
  obtain ⟨s,e1,e2,_⟩:=DataW.trod_int (k:= .i64) kr ht
  injection e1 with e1
  injection e2 with e2
  subst e1
  simp only [DataW.lit.injEq,Lit.int.injEq,true_and] at e2
  rw [hc,<-e2]
  rfl
 refine ⟨some a,cap,by rw [g,abx],by simp,λo=>⟨a,rfl,?_,?_⟩⟩
 ·cases l with
  |nil=>simp at o
  |cons z l=>
   have:=aem W _ (b 0 z rfl)
   simpa [Addr.add] using this
 ·intro j u f
  rw [ac0] at f
  cases hz:l[j]? with
  |none=>simp [hz] at f
  |some z=>rw [hz] at f;cases f;exact b j z hz
def qua (h:laidMetH abo Rows.archiveOneRow.laid W):Laid W.heap.size W:=by
 rw [MakeChecks.laidMetH_plain _ _ _ kr] at h
 obtain ⟨T, U, m, V, X, o, p, r, t⟩ := Lib.laidMet.reads h (n := "quantum/event.fields") (d := Rows.laid_quantum_event_fields) (acB ..)
 obtain ⟨Y, Z, u, f2, p2, w, x, y, B⟩ := Lib.laidMet.reads h (n := "quantum/event.uses") (d := Rows.laid_quantum_event_uses) (List.mem_cons_of_mem _ (acB ..))
 have f : Tryz.prog.globalNamed "quantum/event.fields" = some 3 := by kernel_rfl
 have g : Tryz.prog.globalNamed "quantum/event.uses" = some 2 := by kernel_rfl
 obtain rfl:=Option.some.inj (f.symm.trans o)
 obtain rfl:=Option.some.inj (g.symm.trans w)
 have C:(Tryz.prog.globals[3]?).map (·.type)=some 459:=by kernel_rfl
 have D:(Tryz.prog.globals[2]?).map (·.type)=some 410:=by kernel_rfl
 obtain rfl:=Option.some.inj (C.symm.trans p)
 obtain rfl:=Option.some.inj (D.symm.trans x)
 have j:Tryz.prog.cellsOf 9=1:=by kernel_rfl
 have l:Tryz.prog.cellsOf 38=1:=by kernel_rfl
 have N:∀i v,m.toList[i]?=some v->W.cell? ⟨3,i,none⟩=some v:=λi v E=>by
  rw [agx f r i];simpa using E
 have L:∀i v,u.toList[i]?=some v->W.cell? ⟨2,i,none⟩=some v:=λi v E=>by
  rw [agx g y i];simpa using E
 have b:∀(F:List Value) (i:Nat) (v:Value),(F.drop (i*1)).take 1=[v]->F[i]?=some v:=by
  intro F i v h
  have:=congrArg (·[0]?) h
  simpa [List.getElem?_take,ade] using this
 have str:∀i,i<7->∃s:ByteArray,W.cell? ⟨3,i,none⟩=some (.string s):=by
  intro i hi
  obtain ⟨O,d,q,_,ht⟩:=ag8 (n:=7) (e:=9) kr t i hi
  rw [j] at ht
  obtain ⟨s,hs,_⟩:=DataW.trod_string kr ht
  exact ⟨s,N i _ (b _ _ _ hs)⟩
 have row:∀k,k<11->∃A c,W.cell? ⟨2,k,none⟩=some (.slice A (aB k).length c)/\Rd W W.heap.size 1 A (aB k).length ((aB k).map dM):=by
  intro k P
  obtain ⟨O,d,q,G,ht⟩:=ag8 (n:=11) (e:=38) kr B k P
  rw [l] at ht
  by_cases Q:k=0
  ·subst Q
   simp only [afI,Option.some.injEq] at G
   subst G
   rcases DataW.trod_slice (e:=3) kr ht with ⟨hc,_⟩|⟨a,len,cap,H,M,n,_,_,R,_⟩
   ·exact ⟨none,0,L 0 _ (b _ _ _ hc),Rd.nil⟩
   ·simp at R
  ·have I:d= .slice ((aB k).map λz:Nat=> .lit (.int .i64 (z:Int))) []:=by
    have J:k=1\/k=2\/k=3\/k=4\/k=5\/k=6\/k=7\/k=8\/k=9\/k=10:=by omega
    rcases J with rfl|rfl|rfl|rfl|rfl|rfl|rfl|rfl|rfl|rfl<;>exact (Option.some.inj G).symm
   subst I
   obtain ⟨A,c,hc,S⟩:=za4 ht
   exact ⟨A,c,L k _ (b _ _ _ hc),S⟩
 refine ⟨row,?_,str,?_⟩
 ·obtain ⟨A,c,K,_⟩:=row 0 om
  exact aem W _ K
 ·obtain ⟨s,K⟩:=str 0 om
  exact aem W _ K
def X4:Tryz.prog.underlying 61=some (.int .u32):=by kernel_rfl
set_option maxRecDepth 100000 in
theorem qq9 (h:laidMetH Tryz.prog Rows.archiveOneRow.laid W):aT W.heap.size W:=by
 have I:=qua h
 rw [MakeChecks.laidMetH_plain _ _ _ kr] at h
 obtain ⟨M, N, p, O, P, r, s, t, u⟩ := Lib.laidMet.reads h (n := "quantum/crc.halves") (d := Rows.laid_quantum_crc_halves) (List.mem_cons_of_mem _ (List.mem_cons_of_mem _ (List.mem_cons_self ..)))
 obtain ⟨Q, R, w, S, T, x, y, A, B⟩ := Lib.laidMet.reads h (n := "quantum/block.magic") (d := Rows.laid_quantum_block_magic) (List.mem_cons_of_mem _ (List.mem_cons_of_mem _ (List.mem_cons_of_mem _ (List.mem_cons_self ..))))
 have f : Tryz.prog.globalNamed "quantum/crc.halves" = some 1 := by kernel_rfl
 have g : Tryz.prog.globalNamed "quantum/block.magic" = some 0 := by kernel_rfl
 obtain rfl:=Option.some.inj (f.symm.trans r)
 obtain rfl:=Option.some.inj (g.symm.trans x)
 have C:(Tryz.prog.globals[1]?).map (·.type)=some 405:=by kernel_rfl
 have D:(Tryz.prog.globals[0]?).map (·.type)=some 287:=by kernel_rfl
 obtain rfl:=Option.some.inj (C.symm.trans s)
 obtain rfl:=Option.some.inj (D.symm.trans y)
 have j:Tryz.prog.cellsOf 61=1:=by kernel_rfl
 have l:Tryz.prog.cellsOf 5=1:=by kernel_rfl
 have J:∀i v,p.toList[i]?=some v->W.cell? ⟨1,i,none⟩=some v:=λi v E=>by
  rw [World.var?_cell f t i];simpa using E
 have K:∀i v,w.toList[i]?=some v->W.cell? ⟨0,i,none⟩=some v:=λi v E=>by
  rw [World.var?_cell g A i];simpa using E
 have m:∀(F:List Value) (i:Nat) (v:Value),(F.drop (i*1)).take 1=[v]->F[i]?=some v:=by
  intro F i v h
  have:=congrArg (·[0]?) h
  simpa [List.getElem?_take,List.getElem?_drop] using this
 have o:∀k,k<16->W.cell? ⟨1,k,none⟩=some (.int .u32 ((sQ.getD k 0:Nat):Int)):=by
  intro k G
  obtain ⟨L,d,q,H,ht⟩:=Lib.array_elem (n:=16) (e:=61) kr u k G
  rw [j] at ht
  have a:d= .lit (.int .u32 ((sQ.getD k 0:Nat):Int)):=by
   have b:k=0\/k=1\/k=2\/k=3\/k=4\/k=5\/k=6\/k=7\/k=8\/k=9\/k=10\/k=11\/k=12\/k=13\/k=14\/k=15:=by omega
   rcases b with rfl|rfl|rfl|rfl|rfl|rfl|rfl|rfl|rfl|rfl|rfl|rfl|rfl|rfl|rfl|rfl<;>exact (Option.some.inj H).symm
  subst a
  obtain ⟨z,e1,e2,_⟩:=DataW.trod_int X4 ht
  have e2:=congrArg Prod.fst e2
  simp only [DataW.lit.injEq,Lit.int.injEq,true_and] at e2
  exact J k _ (by rw [m _ _ _ e1,<-e2])
 have c:∀k,k<2->W.cell? ⟨0,k,none⟩=some (.int .u8 (([113,116].getD k 0:Nat):Int)):=by
  intro k G
  obtain ⟨L,d,q,H,ht⟩:=Lib.array_elem (n:=2) (e:=5) kr B k G
  rw [l] at ht
  have a:d= .lit (.int .u8 (([113,116].getD k 0:Nat):Int)):=by
   have b:k=0\/k=1:=by omega
   rcases b with rfl|rfl<;>exact (Option.some.inj H).symm
  subst a
  obtain ⟨z,e1,e2,_⟩:=DataW.trod_int EN ht
  have e2:=congrArg Prod.fst e2
  simp only [DataW.lit.injEq,Lit.int.injEq,true_and] at e2
  exact K k _ (by rw [m _ _ _ e1,<-e2])
 exact ⟨I,o,World.block_lt_of_cell? W _ (o 0 om),c 0 om,c 1 om,World.block_lt_of_cell? W _ (c 0 om)⟩
end
def za5 (n:Nat) (q:n<=1000000000000) (w:World):
    Calls abo 276 #[vN,vI n] w λr f=>(∃A c,r= .returned (.slice A 0 c)/\f.ownsRow w.heap.size 5 1 (.slice A 0 c) 0 [])/\Below w.heap.size w f:=by
 refine (jf Tryz.func276 27) ?_
 refine (cO 1∘bN 2∘aK∘Jj) (Ji (λe=>?_) λe=>?_)
 ·
  intro a Z b
  omega
 refine (aU∘bN 2∘Jy (h:=by exact Yl.cap rfl rfl kr)∘Jp 1∘Jl∘Jv 2 [(14,vI (IntKind.i64.wrap ((n:Int)-0)))]∘Jo (vI n) (by exact za om om)∘Jp 1∘aH∘bA 2∘aK∘Jj) (Ji (λd=>?_) λd=>?_)
 ·
  refine (JT∘JR∘Jp 2∘Jy (h:=by exact Yl.cap rfl rfl kr)∘Jy (h:=by exact aag bn (j:=0) rfl rfl rfl om)∘Jp 1) λa Z b=>?_
  refine fo Z 5 rfl rfl ?_
  refine qoh Z b (kn:= .i64) (m:=n) rfl bn kr rfl rfl om om om rfl de ?_
  clear Z b;intro a l o p Z b g
  exact Jb Z b ((Jp 1∘Jl∘Jy (h:=by exact aag bn (j:=0) rfl rfl rfl om)∘Jp 1∘aH∘Jq∘JC (h:=by exact λb=>(b.shrink (i:=0) (k:=0) rfl (abA _) (λh=>by cases h)).dw (i:=0) (ys:=[]) rfl (by simp))∘JG∘aJ 2∘aK∘aP∘bC) λb=>by exact ⟨⟨_,_,rfl,b.own (i:=0) rfl⟩,b.below⟩)
 exact (aU∘aJ 2∘aK∘aP∘bC) λb=>by exact ⟨⟨_,_,rfl,acA _ _ _ _⟩,b.below⟩
abbrev aiF:Part:=⟨none,0,[]⟩
def qz5 (A:Option Addr) (n c:Nat) (ps:List Part) (w:World) (hr:Rd w w.heap.size 1 A n (ps.map aaD)) (L:abn ps=n) (T:n<=1000000) (u:∀p∈ps,Rd w w.heap.size 1 p.A (abn p.l) (p.l.map B8)) (H:abn (ps.flatMap (·.l))<=1000000000000):
    Calls abo 229 #[.slice A n c] w (rO w (ps.flatMap (·.l))):=by
 refine (eF Tryz.func229 36) ?_
 refine (aJ 1∘bA 1∘Jj∘bN 1∘Jl∘bM 1∘JB) λa Z b=>?_
 refine qg (λg y z=>∃(k:Nat),(k<=n)/\g=n-k/\Fr y 36 [] (ahK 11 k 10 n [(9,.slice A n c),(3,vI (abn ((ps.take k).flatMap (·.l)))),(2,vN),(0,.slice A n c)])/\Mem w z []) (m:=n-0) ⟨0,abA _,rfl,Z.sub kr,b.pk []⟩ ?_
 clear Z b;rintro g a M ⟨k,N,rfl,Z,b⟩
 have O:=Fb (l:=ps) k
 have I:=Fb (l:=ps) (k+1)
 refine Jb Z b ((cO 1∘JQ) (Ji (λj=>?_) λj=>?_))
 ·
  have J:k<n:=by omega
  refine (eO∘JP) ?_
  obtain ⟨gA,P,rfl,_⟩:=hr.sat k
  refine (iC k 1∘Jy (v:= .slice ((ps.getD k aiF).A) ((ps.getD k aiF).l.length) ((ps.getD k aiF).c)) (h:=by exact Pd rfl rfl kr (λ_ h=>(h.old hr).Bu (k:=k) (uM (F:=aaD) (k:=k) (x:=(ps.getD k aiF)) ((getD_at aiF (k:=k) (by first|omega|(simp;omega)))))))∘Jp 1∘bQ∘bA 2∘Jl∘Jp 1∘Jo (vI (abn ((ps.take (k+1)).flatMap (·.l)))) (by exact za (by rw [Fa (d:=aiF) om,abp];omega) (by have:=Fb (l:=ps) (k+1);omega))∘Jp 1∘gq∘bA 2∘aK∘Jj) (Ji (λo=>?_) λo=>?_)
  ·
   intro a Z b
   omega
  refine (aU∘JR∘dx 1∘Jp 1∘aK∘Jq) λa Z b=>?_
  exact ⟨_,om,k+1,by omega,rfl,Z.sub kr,b.pk []⟩
 obtain rfl:n=k:=by omega
 refine (JF∘JX∘JG∘aJ 1∘JL (h:=by exact λb=>za5 _ om _)) ?_
 rintro b _ Q ⟨⟨B,C,rfl,R⟩,D⟩
 refine ⟨_,rfl,_,b.bX D R,?_⟩
 refine (Jp 1∘bQ∘Jj∘bN 1∘Jl∘bM 1∘JB) λa Z b=>?_
 refine qg (λg y z=>∃(k:Nat) (E:Option Addr) (t:Nat),(k<=n)/\(abn ((ps.take k).flatMap (·.l))<=t)/\g=n-k/\Fr y 36 [] (ahK 27 k 26 n [(25,.slice A n c),(6,abk E ((ps.take k).flatMap (·.l)) t),(12,.bool false),(11,vI n),(10,vI n),(9,.slice A n c),(3,vI (abn ((ps.take n).flatMap (·.l)))),(2,vN),(0,.slice A n c)])/\Mem w z [abl E ((ps.take k).flatMap (·.l)) t B8 5 1]) (m:=n-0) ⟨0,B,C,abA _,abA _,rfl,Z.sub kr,b.pk [0]⟩ ?_
 clear Z b;rintro g a M ⟨k,E,t,N,G,rfl,Z,b⟩
 refine Jb Z b ((cO 1∘JQ) (Ji (λq=>?_) λq=>?_))
 ·
  have K:k<n:=by omega
  refine (eO∘JP) ?_
  obtain ⟨gA,P,rfl,_⟩:=hr.sat k
  refine (iC k 1∘Jy (v:= .slice ((ps.getD k aiF).A) ((ps.getD k aiF).l.length) ((ps.getD k aiF).c)) (h:=by exact Pd rfl rfl kr (λ_ h=>(h.old hr).Bu (k:=k) (uM (F:=aaD) (k:=k) (x:=(ps.getD k aiF)) ((getD_at aiF (k:=k) (by first|omega|(simp;omega)))))))∘Jp 1∘bQ∘Jj∘JR∘Jp 2∘JD ((ps.getD k aiF).l.map B8) 0 (λ_ _=>aO) bn (hr:=by exact λb=>b.old (u _ (qf _ om))) (h1:=by exact sO _) (hb:=by have:=Fb (l:=ps) (k+1);rw [Fa (d:=aiF) om,abp] at this;omega) (h63:=by have:=Fb (l:=ps) (k+1);rw [Fa (d:=aiF) om,abp] at this;omega)) λS r s f=>(Jp 1∘dY∘Jq) ?_
  have e:abn ((ps.take k).flatMap (·.l))+(ps.getD k aiF).l.length=abn ((ps.take (k+1)).flatMap (·.l)):=by rw [Fa (d:=aiF) om,abp]
  rw [e] at f
  refine (JC (h:=by exact λb=>b.aY (i:=0) (ys:=((ps.take (k+1)).flatMap (·.l)).map B8) rfl e (by rw [Fa (d:=aiF) om,abU]))∘Jk 6 (.slice r (abn ((ps.take (k+1)).flatMap (·.l))) s) (h:=by exact iB e)∘JG∘JR∘dx 1∘Jp 1∘aK∘Jq) λa Z b=>?_
  exact ⟨_,om,k+1,r,s,by omega,f,rfl,Z.sub kr,b.pk [0]⟩
 obtain rfl:n=k:=by omega
 exact (JF∘JX∘JG∘aJ 2∘aK∘aP∘bC) λb=>qqz (b.own (i:=0) rfl) G (by rw [abI om]) (by rw [abI om]) b.below
def qra {a b:List Ev} (h:a.take k=b.take k) (c:k<abn a) (hb:k<abn b) (d:a.getD k Ev.zero=b.getD k Ev.zero):a.take (k+1)=b.take (k+1):=by
 rw [ado,ado,getD_at Ev.zero c,getD_at Ev.zero hb,h,d]
def qub {a b:List Ev} (h:a.take k=b.take k) (c:abn a<=k) (hb:abn b<=k):a=b:=by
 rwa [abI c,abI hb] at h
def q4k (A j:Option Addr) (n m c o:Nat) (es gs:List Ev) (w:World) (hr:Rd w w.heap.size 11 A n (es.flatMap eD)) (e:Rd w w.heap.size 11 j m (gs.flatMap eD)) (l:abn es=n) (r:abn gs=m) (D:n<=1000000000000):
    Calls abo 98 #[.slice A n c,.slice j m o] w (Is w (.bool (decide (es=gs)))):=by
 refine (jf Tryz.func98 26) ?_
 refine (cO 1∘bN 1∘Jl∘Jp 1∘Jl∘Jp 1∘gq∘Jj) (Jh (λf=>?_) λf=>?_)
 ·
  exact (JT∘bF 1∘bC) λd=>by exact ⟨by rw [decide_eq_false (λh=>by rw [h] at l;omega)],d.below⟩
 refine (aU∘bN 1∘Jl∘bM 1∘JB) λa Z d=>?_
 refine qg (λp s t=>∃(k:Nat),(k<=n)/\(es.take k=gs.take k)/\p=n-k/\Fr s 26 [] (ahK 13 k 12 n [(10,.bool false),(4,.bool false),(0,.slice A n c),(1,.slice j m o)])/\Mem w t []) (m:=n-0) ⟨0,abA _,rfl,rfl,Z.sub kr,d.pk []⟩ ?_
 clear Z d;rintro p a E ⟨k,F,heq,rfl,Z,d⟩
 refine Jb Z d ((cO 1∘JQ) (Ji (λg=>?_) λg=>?_))
 ·
  have q:k<n:=by omega
  refine (eO∘aJ 2∘aK∘Jj) λa Z d=>?_
  refine wp_seq ?_
  refine Jb Z d ((Vs .n []) λu=>(Vp [0,1,4,5]) ?_)
  obtain ⟨gA,G,rfl,_⟩:=hr.sat k
  refine (xG 2 k 11∘Vy 3 (v:= .agg ((es.getD k Ev.zero).cells)) (h:=by exact Pe rfl rfl ⟨kr,kr⟩ rfl (λ_ h=>(h.old hr).qc3 qU ((getD_at Ev.zero (k:=k) (by first|omega|(simp;omega))))))) ?_
  obtain ⟨z,B,rfl,_⟩:=e.sat k
  refine (xG 6 k 11∘Vy 7 (v:= .agg ((gs.getD k Ev.zero).cells)) (h:=by exact Pe rfl rfl ⟨kr,kr⟩ rfl (λ_ h=>(h.old e).qc3 qU ((getD_at Ev.zero (k:=k) (by first|omega|(simp;omega))))))∘Vy 8 (v:= .bool (!(decide ((es.getD k Ev.zero)=(gs.getD k Ev.zero))))) (h:=by exact aa3 (x:=(es.getD k Ev.zero)) (y:=(gs.getD k Ev.zero)) rfl rfl rfl kr)∘Vd∘aH) (Ju (λb=>?_) λb=>?_)
  ·
   have i:=of_decide_eq_false ((acF _).mp b)
   exact (JT∘bF 1∘bC) λd=>by exact ⟨by rw [decide_eq_false (λh=>by rw [h] at b;simp at b)],d.below⟩
  have i:=of_decide_eq_true ((ad7 _).mp b)
  refine (aU∘JR∘dx 1∘Jp 1∘aK∘Jq) λa Z d=>?_
  exact ⟨_,om,k+1,by omega,qra heq om om (by simpa using b),rfl,Z.sub kr,d.pk []⟩
 have C:k=n:=by omega
 exact (JF∘JX∘JG∘bF 1∘bC) λd=>by exact ⟨by rw [decide_eq_true (qub heq om om)],d.below⟩
def qz6 (c:Nat) (hc:c<4294967296) (A:Option Addr) (n cp:Nat) (l:List Nat) (B:Nat) (w:World) (g:aT B w) (i:B<=w.heap.size) (hr:Rd w w.heap.size 1 A n (l.map B8)) (r:abn l=n) (z:n<=140737488355328) (o:∀b∈l,b<256):
    Calls abo 238 #[vW c,.slice A n cp] w (Is w (vW (zi c l:Int))):=by
 refine (jf Tryz.func238 33) ?_
 refine (cO 1∘bN 1∘Jl∘bM 1∘JB) λa Z d=>?_
 refine qg (λp s t=>∃(k:Nat),(k<=n)/\p=n-k/\Fr s 33 [] (ahK 9 k 8 n [(7,.slice A n cp),(4,vW 0),(0,vW (zi c (l.take k)))])/\Mem w t []) (m:=n-0) ⟨0,abA _,rfl,Z.sub kr,d.pk []⟩ ?_
 clear Z d;rintro p a C ⟨k,D,rfl,Z,d⟩
 have f:=Lr (l.take k) hc (uP o k)
 refine Jb Z d ((cO 1∘JQ) (Ji (λe=>?_) λe=>?_))
 ·
  refine (eO∘JP) ?_
  obtain ⟨gA,E,rfl,_⟩:=hr.sat k
  refine (iC k 1∘JH (getD_lt o (k:=k) (by first|omega|(simp;omega)))) λu=>(Jy (h:=by exact aad hr k 0 (by first|omega|(simp;omega)) rfl rfl)∘Jp 1∘bQ∘bA 2∘Jw .u32∘Jp 1∘Jo (vW ((zi c (l.take k))^^^ (l.getD k 0):Nat)) (by exact Li (m:=zi c (l.take k)) (n:=(l.getD k 0)) om om)∘Jp 1∘gq∘Jq) ?_
  have x:=Fq f (show l.getD k 0<4294967296 by omega)
  refine (JG∘aJ 2∘Jo (vW (((zi c (l.take k))^^^ (l.getD k 0))/16:Nat)) (by exact uf .u32 ((zi c (l.take k))^^^ (l.getD k 0)) (j:=4) (q:=16) rfl rfl)∘Jp 2∘Jo (vW (((zi c (l.take k))^^^ (l.getD k 0))%16:Nat)) (by exact Ww (n:=15) (j:=4) rfl de om)∘Jy (v:=vP 1 ((((zi c (l.take k))^^^ (l.getD k 0))%16)*1)) (h:=by exact (Yl.sP (ad:=⟨1,0,none⟩) (m:=16) (y:=((zi c (l.take k))^^^ (l.getD k 0))%16) (sz:=1) rfl rfl rfl kr om).as (by rw [acC,ab7]))∘Jy (v:=vW (sQ.getD (((zi c (l.take k))^^^ (l.getD k 0))%16) 0)) (h:=by exact Pd rfl rfl kr (λ_ h=>XY g h i (k:=(((zi c (l.take k))^^^ (l.getD k 0))%16)) om))∘Jp 1∘Jo (vW (qW (zi c (l.take k)^^^l.getD k 0))) (by have h:=Li (m:=(zi c (l.take k)^^^l.getD k 0)/16) (n:=sQ.getD ((zi c (l.take k)^^^l.getD k 0)%16) 0) om (OE _ om);exact h)∘Jp 1∘aH∘Jq) ?_
  have hz:=zlb x
  refine (JG∘JR∘Jp 2∘Jo (vW ((qW (zi c (l.take k)^^^l.getD k 0))/16:Nat)) (by exact uf .u32 (qW (zi c (l.take k)^^^l.getD k 0)) (j:=4) (q:=16) rfl rfl)∘Jp 2∘Jo (vW ((qW (zi c (l.take k)^^^l.getD k 0))%16:Nat)) (by exact Ww (n:=15) (j:=4) rfl de om)∘Jy (v:=vP 1 (((qW (zi c (l.take k)^^^l.getD k 0))%16)*1)) (h:=by exact (Yl.sP (ad:=⟨1,0,none⟩) (m:=16) (y:=(qW (zi c (l.take k)^^^l.getD k 0))%16) (sz:=1) rfl rfl rfl kr om).as (by rw [acC,ab7]))∘Jy (v:=vW (sQ.getD ((qW (zi c (l.take k)^^^l.getD k 0))%16) 0)) (h:=by exact Pd rfl rfl kr (λ_ h=>XY g h i (k:=((qW (zi c (l.take k)^^^l.getD k 0))%16)) om))∘Jp 1∘Jo (vW (zi c (l.take (k+1)))) (by have h:=Li (m:=qW (zi c (l.take k)^^^l.getD k 0)/16) (n:=sQ.getD (qW (zi c (l.take k)^^^l.getD k 0)%16) 0) om (OE _ om);rw [qtu om];exact h)∘Jp 1∘aH∘Jj∘JR∘dx 1∘Jp 1∘aK∘Jq) λa Z d=>?_
  exact ⟨_,om,k+1,by omega,rfl,Z.sub kr,d.pk []⟩
 obtain rfl:n=k:=by omega
 exact (JF∘JX∘JG∘aJ 2∘aK∘aP∘bC) λd=>by exact ⟨by rw [abI om],d.below⟩
def qz7 (c:Nat) (a:c<4294967296) (A:Option Addr) (n cp:Nat) (l:List Nat) (B:Nat) (w:World) (i:aT B w) (f:B<=w.heap.size) (hr:Rd w w.heap.size 1 A n (l.map B8)) (d:abn l=n) (j:n<=140737488355328) (g:∀b∈l,b<256):
    Calls abo 167 #[vW c,.slice A n cp] w (Is w (vW ((zi (c^^^4294967295) l^^^4294967295:Nat):Int))):=by
 refine (jf Tryz.func167 10) ?_
 refine (aJ 1∘Jq) ?_
 have hc:=Fq a (show 4294967295<4294967296 by decide)
 have k:=Lr l hc g
 exact (JG∘aJ 1∘Jy (v:=vW (c^^^4294967295:Nat)) (h:=by exact aaM (m:=c) rfl rfl om)∘Jp 1∘JI (h:=by exact λe=>qz6 _ hc _ _ _ l B _ (i.mem e f) (e.le f) (e.old hr) d j g)) λp o=>(Jy (v:=vW ((zi (c^^^4294967295) l)^^^4294967295:Nat)) (h:=by exact aaM (m:=zi (c^^^4294967295) l) rfl rfl om)∘Jp 1∘kW∘aP) uj
def X5 (A:Option Addr) (n cp:Nat) (l:List Nat) (B:Nat) (w:World) (g:aT B w) (e:B<=w.heap.size) (hr:Rd w w.heap.size 1 A n (l.map B8)) (c:abn l=n) (i:n<=140737488355328) (f:∀b∈l,b<256):
    Calls abo 108 #[.slice A n cp] w (Is w (vW (zu l:Int))):=by
 refine (eF Tryz.func108 5) ?_
 refine (aJ 1∘bA 1∘JL (h:=by exact λa=>qz7 0 de _ _ _ l B _ (g.mem a e) (a.le e) (a.old hr) c i f)) ?_
 rintro a _ j ⟨rfl,d⟩
 rw [show (zi (0^^^4294967295) l^^^4294967295:Nat)=zu l from q97 (Lr l de f)]
 refine ⟨_,rfl,_,a.call d,?_⟩
 exact (Jp 1∘bQ∘aP) uj
def zhf (b:abn l=n) (a:W.ownsRow w.heap.size 5 1 (.slice A (0+n+4) c) (0+n+4) ([]++l.map B8++(qX (zu l)).map B8)) (hc:0+n+4<=c) (hb:Below w.heap.size w W):zr w 0 (bI l) (.returned (.tuple #[.slice A (0+n+4) c,vI 0])) W:=by
 have e:0+n+4=abn (bI l):=by rw [uQ];omega
 rw [e] at a hc⊢
 refine ⟨⟨A,c,rfl,?_,hc⟩,hb⟩
 have e2:([]++l.map B8++(qX (zu l)).map B8)=(bI l).map B8:=by simp [bI]
 rw [e2] at a
 exact a
def Px (A:Option Addr) (n cp:Nat) (l:List Nat) (B:Nat) (w:World) (p:aT B w) (k:B<=w.heap.size) (hr:Rd w w.heap.size 1 A n (l.map B8)) (d:abn l=n) (I:n<=16777216) (r:∀b∈l,b<256):
    Calls abo 48 #[.slice A n cp] w (zr w 0 (bI l)):=by
 refine (eF Tryz.func48 31) ?_
 refine (cO 2∘bN 1∘Jl∘Jp 1∘bQ∘Jj) (Ji (λg=>?_) λg=>?_)
 ·
  intro a Z c
  omega
 refine (aU∘aJ 1∘JI (h:=by exact λc=>X5 _ _ _ l B _ (p.mem c k) (c.le k) (c.old hr) (d) om (r))) λs t=>(Jp 1∘bQ∘Jq) ?_
 have u:=WK l
 refine (JG∘aJ 1∘Jl∘dx 4) λa Z c=>?_
 refine fo Z 3 rfl rfl ?_
 refine zgu Z c (m:=(n+4)) rfl bn rfl rfl om om rfl de ?_
 clear Z c;intro a v x Z c
 exact Jb Z c ((Jp 1∘JD (l.map B8) 0 (λ_ _=>aO) bn (hr:=by exact λc=>c.old hr) (h1:=by exact sO _)) λy z C o=>(Jp 1∘aH∘bA 2∘Jv 1 [(19,vB (IntKind.u8.wrap (zu l:Int)))]∘Jo (vB ((zu l)%256:Nat)) (by exact DK (zu l))∘Jp 2∘Jo (vW ((zu l)/256:Nat)) (by exact uf .u32 (zu l) (j:=8) (q:=256) rfl rfl)∘Jv 1 [(22,vB (IntKind.u8.wrap (((zu l)/256:Nat):Int)))]∘Jo (vB (((zu l)/256)%256:Nat)) (by exact DK ((zu l)/256))∘Jp 2∘Jo (vW ((zu l)/65536:Nat)) (by exact uf .u32 (zu l) (j:=16) (q:=65536) rfl rfl)∘Jv 1 [(25,vB (IntKind.u8.wrap (((zu l)/65536:Nat):Int)))]∘Jo (vB (((zu l)/65536)%256:Nat)) (by exact DK ((zu l)/65536))∘Jp 2∘Jo (vW ((zu l)/16777216:Nat)) (by exact uf .u32 (zu l) (j:=24) (q:=16777216) rfl rfl)∘Jv 1 [(28,vB (IntKind.u8.wrap (((zu l)/16777216:Nat):Int)))]∘Jo (vB (((zu l)/16777216)%256:Nat)) (by exact DK ((zu l)/16777216))∘JU bn #[vB ((zu l)%256:Nat),vB (((zu l)/256)%256:Nat),vB (((zu l)/65536)%256:Nat),vB (((zu l)/16777216)%256:Nat)]) λD E=>(JD ((qX (zu l)).map B8) 1 (λ_ _=>fJ) bn (hr:=by exact λc=>c.bB (i:=0) (n:=4) (size:=1) rfl rfl) (h1:=by exact sO _)) λF G H e=>(bM 2∘JZ∘JM (.f .n)∘bO) λc=>zhf d (c.own (i:=0) rfl) e c.below)
def qz8 (b:abn l=n) (h:4<=n):(((zu (l.take (n-4)):Nat):Int)==((l.getD (n-4) 0+l.getD (n-4+1) 0*256+l.getD (n-4+2) 0*65536+l.getD (n-4+3) 0*16777216:Nat):Int))=zj l:=by
 subst b
 have a:∀i,(l.drop (abn l-4)).getD i 0=l.getD (abn l-4+i) 0:=λi=>by rw [abt,ade,<-abt]
 unfold zj jO
 rw [a,a,a,a,abY,beq_iff_eq,decide_eq_true_eq]
 simp only [acE]
 constructor
 ·intro c;exact ⟨h,by omega⟩
 ·intro c;have:=c.2;omega
def qrb (a:abn l=n) (h:n<4):zj l=false:=by unfold zj;rw [decide_eq_false];omega
def jV (l:List Nat):Nat->Nat
 |0=>0
 |k+1=>jV l k*256+l.getD (3-k) 0
def X6 (l:List Nat):jV l 4=jO l:=by simp [jV,jO];omega
def X7 {l:List Nat} (a:∀b∈l,b<256) (c:4<=abn l):∀k,k<=4->jV l k<256^k
 |0,_=>by show 0<1;decide
 |k+1,h=>by
  have d:=X7 a c k om
  have e:=getD_lt a (k:=3-k) om
  rw [jV,agG]
  omega
def quc (a:∀b∈l,b<256) (c:4<=abn l) {k:Nat} (h:k<=4):jV l k<4294967296:=by
 have d:=X7 a c k h
 have e:(256:Nat)^k<=256^4:=Nat.pow_le_pow_right de h
 omega
def Py (A:Option Addr) (n cp:Nat) (l:List Nat) (B:Nat) (w:World) (s:aT B w) (g:B<=w.heap.size) (hr:Rd w w.heap.size 1 A n (l.map B8)) (hc:n<=cp) (d:abn l=n) (x:n<=140737488355328) (e:∀b∈l,b<256):
    Calls abo 53 #[.slice A n cp] w (Is w (.bool (zj l))):=by
 refine (eF Tryz.func53 43) ?_
 refine (aJ 1∘bA 1∘Jl∘Jp 1∘Jo (vI ((n:Int)-4)) (by exact mF ⟨by omega,by omega⟩)∘Jp 1∘dY∘Jj∘bN 2∘aK∘Jj) (Ji (λf=>?_) λf=>?_)
 ·
  exact (JT∘bF 1∘bC) λc=>by exact ⟨by rw [qrb d om],c.below⟩
 refine (Jk 3 (vI ((n-4:Nat):Int)) (h:=by congr 1;omega)∘aU) λa Z c=>?_
 refine wp_seq ?_
 refine Jb Z c ((Vs .n []) λt=>(Vp [0,1,4,5,9,10,17,18,25,26]∘Vy 2 (h:=by exact aag bn (j:=n-4) rfl rfl rfl om)) ?_)
 obtain ⟨gA,y,rfl,_⟩:=hr.sat (n-4)
 exact (xG 6 (n-4) 1∘VH (getD_lt e (k:=(n-4)) (by first|omega|(simp;omega)))) λi=>(Vy 7 (h:=by exact aad hr (n-4) 0 (by first|omega|(simp;omega)) rfl rfl)∘Vw 8 .u32∘yx 11 1∘xG 12 ((n-4)+1) 1∘VH (getD_lt e (k:=((n-4)+1)) (by first|omega|(simp;omega)))) λo=>(Vy 13 (h:=by exact aad hr ((n-4)+1) 0 (by first|omega|(simp;omega)) rfl rfl)∘Vw 14 .u32∘Vp [15]∘Vo (vW ((l.getD ((n-4)+1) 0)*256:Nat)) (by exact Bw (by rw [show (2:Int)^ (min (8:Int).toNat (afK).bits)=256 from rfl];omega) om)∘Vp [16]∘Vo (vW (l.getD (n-4) 0+l.getD (n-4+1) 0*256:Nat)) (by exact Oz (m:=l.getD (n-4) 0) (n:=l.getD (n-4+1) 0) (j:=8) (p:=256) rfl om om)∘yx 19 2∘xG 20 ((n-4)+2) 1∘VH (getD_lt e (k:=((n-4)+2)) (by first|omega|(simp;omega)))) λq=>(Vy 21 (h:=by exact aad hr ((n-4)+2) 0 (by first|omega|(simp;omega)) rfl rfl)∘Vw 22 .u32∘Vp [23]∘Vo (vW ((l.getD ((n-4)+2) 0)*65536:Nat)) (by exact Bw (by rw [show (2:Int)^ (min (16:Int).toNat (afK).bits)=65536 from rfl];omega) om)∘Vp [24]∘Vo (vW (l.getD (n-4) 0+l.getD (n-4+1) 0*256+l.getD (n-4+2) 0*65536:Nat)) (by exact Oz (m:=l.getD (n-4) 0+l.getD (n-4+1) 0*256) (n:=l.getD (n-4+2) 0) (j:=16) (p:=65536) rfl om om)∘yx 27 3∘xG 28 ((n-4)+3) 1∘VH (getD_lt e (k:=((n-4)+3)) (by first|omega|(simp;omega)))) λr=>(Vy 29 (h:=by exact aad hr ((n-4)+3) 0 (by first|omega|(simp;omega)) rfl rfl)∘Vw 30 .u32∘Vp [31]∘Vo (vW ((l.getD ((n-4)+3) 0)*16777216:Nat)) (by exact Bw (by rw [show (2:Int)^ (min (24:Int).toNat (afK).bits)=16777216 from rfl];omega) om)∘Vp [32]∘Vo (vW (l.getD (n-4) 0+l.getD (n-4+1) 0*256+l.getD (n-4+2) 0*65536+l.getD (n-4+3) 0*16777216:Nat)) (by exact Oz (m:=l.getD (n-4) 0+l.getD (n-4+1) 0*256+l.getD (n-4+2) 0*65536) (n:=l.getD (n-4+3) 0) (j:=24) (p:=16777216) rfl om om)∘VI 3 .n (h:=by exact λc=>X5 _ _ _ (l.take (n-4)) B _ (s.mem c g) (c.le g) ((c.old hr).Bv om) (by rw [abv];omega) om (uP e _))) λu v=>(Vp [33,34]∘Vd∘aH∘JZ∘bC) λc=>by exact ⟨by rw [qz8 d om],c.below⟩
def FZ {e:Nat} (h:bg l=(n,e)) (hb:Below w.heap.size w W):Is w (.tuple #[vI ((bg l).1:Int),vI ((bg l).2:Int)]) (.returned (.tuple #[vI n,vI e])) W:=by rw [h];exact ⟨rfl,hb⟩
def qz9 (A:Option Addr) (n cp:Nat) (l:List Nat) (w:World) (hr:Rd w w.heap.size 1 A n (l.map B8)) (r:abn l=n) (z:n<=9223372036854775807) (o:∀b∈l,b<256):
    Calls abo 181 #[.slice A n cp] w (Is w (.tuple #[vI ((bg l).1:Int),vI ((bg l).2:Int)])):=by
 refine (eF Tryz.func181 34) ?_
 refine (cO 2∘bN 1∘Jl∘Jp 1∘bQ∘Jj) (Ji (λi=>?_) λi=>?_)
 ·
  exact (JT∘bF 2∘bO) λc=>FZ (by unfold bg;rw [if_pos om]) c.below
 refine (aU∘cO 1∘JQ∘cO 1∘JB) λa Z c=>?_
 refine qg (λq s t=>∃(k:Nat),(k<=4)/\q=4-k/\Fr s 34 [] (ahK 5 (3- (k:Int)) 4 (jV l k) [(8,.bool false),(3,vI 0),(2,vI 0),(0,.slice A n cp)])/\Mem w t []) (m:=4-0) ⟨0,abA _,rfl,Z.sub kr,c.pk []⟩ ?_
 clear Z c;rintro q a B ⟨k,u,rfl,Z,c⟩
 have v:=quc o om u
 refine Jb Z c ((bN 2∘aK∘Jj) (Ji (λd=>?_) λd=>?_))
 ·
  have x:k<=3:=by omega
  refine (eO∘JR∘Jp 2∘Jo (vI ((jV l k)*256:Nat)) (by exact za (by rw [show (2:Int)^ (min (8:Int).toNat (IntKind.i64).bits)=256 from rfl];omega) om)∘Jp 2∘Jo (vI (3-k:Nat)) (by congr 1;omega)) ?_
  obtain ⟨gA,C,rfl,_⟩:=hr.sat (3-k)
  refine (iC (3-k) 1∘JH (getD_lt o (k:=(3-k)) (by first|omega|(simp;omega)))) λy=>(Jy (h:=by exact aad hr (3-k) 0 (by first|omega|(simp;omega)) rfl rfl)∘Jw .i64∘Jp 1∘Jo (vI (jV l (k+1))) (by have h:=q94 (m:=jV l k) (n:=l.getD (3-k) 0) (j:=8) (p:=256) rfl om om;exact h)∘Jp 1∘aH∘Jj∘JR∘Jp 2∘Jo (vI (3- ((k+1:Nat):Int))) (by rw [IntWalk.i64_in _ om];congr 1;omega)∘Jp 1∘bQ∘Jq) λa Z c=>?_
  exact ⟨_,om,k+1,by omega,rfl,Z.sub kr,c.pk []⟩
 obtain rfl:k=4:=by omega
 refine (Jk 4 (vI (jO l:Int)) (h:=by rw [X6])) ?_
 rw [X6] at v
 refine (JF∘JX∘JG∘JQ∘JB∘aJ 3) (Ji (λe=>?_) λe=>?_)
 ·
  exact (Jp 4∘aH∘Jj∘JT∘bF 2∘bO) λc=>FZ (by unfold bg;rw [if_neg om,if_pos om]) c.below
 refine (Jp 4∘aH∘Jj) (Ji (λf=>?_) λf=>?_)
 ·
  exact (JT∘bF 2∘bO) λc=>FZ (by unfold bg;rw [if_neg om,if_pos om]) c.below
 refine (JF∘aJ 2∘Jl∘Jp 2∘gq∘Jj) (Ji (λg=>?_) λg=>?_)
 ·
  exact (JT∘bF 2∘bO) λc=>FZ (by unfold bg;rw [if_neg om,if_neg om,if_pos om]) c.below
 exact (aU∘bF 3∘bO) λc=>FZ (by unfold bg;rw [if_neg om,if_neg om,if_neg om]) c.below
end Go.Proofs.YtekiimhdnigmcaaGreatDoor
