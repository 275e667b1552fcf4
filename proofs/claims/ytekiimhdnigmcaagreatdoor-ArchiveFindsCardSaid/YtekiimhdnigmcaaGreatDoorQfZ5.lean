/- Parts. -/
import Derived.Test.YtekiimhdnigmcaaGreatDoorQfBack
import Derived.Test.YtekiimhdnigmcaaGreatDoorQfVarRead
import Derived.Test.YtekiimhdnigmcaaGreatDoorQfZ4
set_option linter.all false
set_option maxRecDepth 100000
set_option maxHeartbeats 4000000
namespace Go.Proofs.YtekiimhdnigmcaaGreatDoor
open Go.RowKit
open List renaming length→abl
open _root_.Go.Proofs.Tryz renaming prog→abm
open _root_.List renaming length_append→abn,getD_eq_getElem?_getD→abo,getElem?_eq_getElem→abp,length_take→abr,length_map→abu,getElem?_eq_some_iff→abv,append_assoc→aby,length_drop→abN,length_set→abO,flatMap_cons→abT,append_nil→abU,map_append→abV,mem_of_mem_drop→abZ,mem_cons→ab0,length_cons→ab1,flatMap_append→ab2,mem_append→ab5,mem_map→ab6,mem_of_mem_take→acg,mem_cons_of_mem→aci,drop_of_length_le→acp,mem_cons_self→acs,getElem_of_mem→acB,mem_flatMap→acE,getElem?_set_self→acO,mem_map_of_mem→ac1,getElem?_map→ac3,mem_append_right→ac5,perm_append_comm→ac7,take_length→ada,getElem?_append_right→adt,length→adz,mem_append_left→adQ,set_set→adX,sublist_append_left→adZ,flatMap_nil→ad9,getElem?_append_left→aea,mem_singleton→aek,sublist_append_right→afb
open Nat renaming le_refl→abq,zero_le→abw,lt_or_ge→ab7,le_of_ble_eq_true→acy,succ_lt_succ→aeZ,lt_of_succ_lt_succ→afM,not_lt_zero→agz,succ_pos→agQ
open _root_.ByteArray renaming mk→abt
open Bool renaming eq_iff_iff→ace,true_and→acz,or_eq_true→adw,not_eq_true'→adA,not_eq_false'→aeX
open Hb renaming b→acZ
open List.Perm renaming append_left→ad5
open Classical renaming not_not→afw
open List.Sublist renaming cons₂→agU
variable {w W:World} {l m:List Pv} {r:Ending} {k c j y x B i:Nat} {A:Option Addr} {q:List Hb} {b:List Nat} {a:List Fact} {p:Pr} {n:Int} {α:Type} {L:List Pl}
def yH (W w:World) (g p:Nat) (e f:Value) (d:Option Addr) (sc:Nat) (l:List jl) (nm:ByteArray) (fs:List Fact) (m:Mem W w (.blk g #[e,vI p,f,.slice d (abl l) sc] 300:: .row (.slice d (abl l) sc) (abl l) (l.flatMap gF) 435 3::fs)) (j:abl l≤1000) {l2:List jl} (h:l++[(⟨nm,kR l,p⟩:jl)]=l2):
  Calls abm 279 #[vP g 0,.string nm] w (λr o=>r= .returned (.tuple #[])∧∃d sc,abl l2≤sc∧Mem W o (.blk g #[e,vI p,f,.slice d (abl l2) sc] 300:: .row (.slice d (abl l2) sc) (abl l2) (l2.flatMap gF) 435 3::fs)):=by
 subst h
 exact zjp W w g p e f d sc l nm fs m j
def Md (W:World) (g:Nat) (A:Option Addr) (c:Nat) (b:List Nat) (fs:List Fact) (r:Ending) (e:World):Prop:=
 (∃p f d h sc,sW b= .ok p∧r= .returned (vI 0)∧abl p.nums≤d∧abl p.secs≤sc∧Mem W e (.blk g #[.slice A (abl b) c,vI ((abl b+4:Nat):Int),.slice f (abl p.nums) d,.slice h (abl p.secs) sc] 300:: .row (.slice f (abl p.nums) d) (abl p.nums) (p.nums.map bq) 41 1:: .row (.slice h (abl p.secs) sc) (abl p.secs) (p.secs.flatMap gF) 435 3::fs))∨(∃k:Nat,sW b= .error k∧r= .returned (vI k)∧Mem W e fs)
section
variable {W w:World} {g g2 c k i n:Nat} {A:Option Addr} {b:List Nat} {fs ks:List Fact} {σ:List (Nat×Value)} {a:Act}
def rG (Z:Fr a n [{target:= .fn (.func 278) [Value.pointer (some ⟨g2,0,none⟩)].toArray,args:= #[]}] σ) (h2:σ.lookup 2=some (vP g2 0)) (d:Mem W w ks) (hi:ks[i]?=some (.blk g2 #[vI 0] fP)) (e:sW b= .error k) (j:List Nat) (f:j.Nodup) (h:picks (ks.set i (.blk g2 #[vI k] fP)) j=fs):
  Leaves abm Tryz.f240 a.tmps (Md W g A c b fs) a.defers (.panicking (pX fP k)) w:=by
 refine qz1 (v:=vI k) Z kr (q5k k 0 w d hi rfl) rfl λm hm=>⟨?_,.inr ⟨k,e,rfl,hm.picks j f h⟩⟩
 have l:=(abv.1 hi).1
 exact lW.cell1 (i:=i) Z hm h2 (acO l) kr rfl
def za5 (Z:Fr a n [{target:= .fn (.func 278) [Value.pointer (some ⟨g2,0,none⟩)].toArray,args:= #[]}] σ) (h2:σ.lookup 2=some (vP g2 0)) (e:Mem W w ks) (hi:ks[i]?=some (.blk g2 #[vI 0] fP)) (hk:∀d,Mem W d (ks.set i (.blk g2 #[vI 0] fP))→Md W g A c b fs (.returned (vI 0)) d):
  Leaves abm Tryz.f240 a.tmps (Md W g A c b fs) a.defers .returning w:=by
 refine q5f (v:=vI 0) Z kr (qz2 0 w e hi rfl) rfl λd hm=>⟨?_,hk d hm⟩
 have f:=(abv.1 hi).1
 exact lW.cell1 (i:=i) Z hm h2 (acO f) kr rfl
end
theorem qxb (nx cp cr gp:Nat) (gs cl cu:List Nat) (tk:Nat) (ts sp:List Nat) (e1 e2 e3 e4 e5 e6 e7:Nat):(⟨nx,cp,cr,gp,gs,cl,cu,tk,ts,sp,e1,e2,e3,e4,e5,e6,e7⟩:Pr).nums=((((((((((([]:List Nat)++[nx])++[cp])++[cr])++[gp])++gs)++cl)++cu)++[tk])++ts)++sp):=by simp [Pr.nums]
def qxc (W w : World) (g : Nat) (A : Option Addr) (c : Nat) (b : List Nat) (HW : Mem W w [.blk g #[.slice A (abl b) c, vI 0, vN, vN] 300]) (j : Rd W W.heap.size 1 A (abl b) (b.map B8)) (l : abl b ≤ c) (F : ∀ z ∈ b, z < 256) (hb : abl b ≤ 16777216) (hb3 : 3 ≤ abl b) :
    Calls abm 240 #[vP g 0] w (Md W g A c b []):=by
 refine qrp (vs:=[vP g 0]) Tryz.func240 rfl rfl kr (σ0:=[(0,vP g 0)]) rfl ?_
 intro a Z
 have d:=Mem.start w
 replace d:=(HW.nil 435 3).nil 41 1
 have hc0:abl ([]:List Nat)≤0:=abq _
 have r:sW b=sW b:=rfl
 have hq0:abl ([]:List Nat)≤3:=abw _
 refine Jb Z d ((JP∘JA #[vI 0]) λw2 g2=>(Jr∘Jy (h:=by exact Yl.makeFunc (fst:=[]) (caps:=[vP g2 0]) rfl rfl rfl)) λa Z d=>?_)
 refine fo Z 1 rfl rfl ?_
 refine zf4 Z (f:=278) (caps:=[vP g2 0]) rfl rfl rfl ?_
 clear Z;intro a Z
 refine Jb Z d ((mW∘Jr∘Jp 1∘Jn∘Jf 1∘JW qD fU) λan0=>(ow∘Jr∘Jp 1∘JL (h:=by exact λd=>yH (l2:=[qf]) W _ g 3 _ _ none 0 ([]:List jl) _ _ (d.pk [3,2,0,1]) (acy rfl) rfl)) ?_)
 rintro d _ tZ ⟨rfl,Hu,k10,hk10,e⟩
 refine ⟨_,rfl,_,e,?_⟩
 refine (mI∘Jq∘JC (h:=by exact λd=>(show Mem W _ [.blk g #[.slice A (abl b) c,vI 3,abh none ([]:List Nat) 0,.slice Hu ([qf].length) k10] 300,.row (.slice Hu ([qf].length) k10) ([qf].length) ([qf].flatMap gF) 435 3,.blk g2 #[vI 0] 27,abj none ([]:List Nat) 0 bq 41 1] from d))∘JG∘JQ) λa Z d=>?_
 rcases DF b 3 with t|⟨nx,e1,t⟩
 ·
  refine Jb Z d ((JR∘Jp 1) λa Z d=>?_)
  refine fo Z 1 rfl rfl ?_
  exact qbv Z [vP g 0] rfl (Ma W _ g 3 A none c 0 b ([]:List Nat) (.slice Hu ([qf].length) k10) _ (d.pk [0,3,1,2]) j l F hb hb3 hq0 t) λw2 d=>rG Z rfl d (i:=1) rfl (r.trans (LA t)) [] de rfl
 ·
  have r:=r.trans t.go1
  have G:=t.in hb3
  have Q:=pq (x:=nx) hq0 G.1
  refine Jb Z d ((JR∘Jp 1∘JL (h:=by exact λd=>L9 W _ g 3 A none c 0 b ([]:List Nat) (.slice Hu ([qf].length) k10) _ (d.pk [0,3,1,2]) j l F hb hb3 hq0 t)) ?_)
  rintro d _ Di ⟨rfl,Hw,c12,an1,e⟩
  refine ⟨_,rfl,_,e,?_⟩
  refine (mI∘Jr∘Jp 1∘JL (h:=by exact λd=>yH (l2:=[qf,⟨qb 0,3,e1⟩]) W _ g e1 _ _ Hu k10 ([qf]) _ _ (d.pk [0,2,1,3]) (acy rfl) rfl)) ?_
  rintro d _ KR ⟨rfl,H,I,an2,e⟩
  refine ⟨_,rfl,_,e,?_⟩
  refine (mI∘Jq∘JC (h:=by exact λd=>(show Mem W _ [.blk g #[.slice A (abl b) c,vI e1,abh Hw (([]:List Nat)++[nx]) c12,.slice H ([qf,⟨qb 0,3,e1⟩].length) I] 300,.row (.slice H ([qf,⟨qb 0,3,e1⟩].length) I) ([qf,⟨qb 0,3,e1⟩].length) ([qf,⟨qb 0,3,e1⟩].flatMap gF) 435 3,abj Hw (([]:List Nat)++[nx]) c12 bq 41 1,.blk g2 #[vI 0] 27] from d))∘JG∘JQ) λa Z d=>?_
  rcases LB b e1 1 64 with p|⟨cp,a1,p,J⟩|⟨cp,a1,p,J⟩
  ·
   refine Jb Z d ((JR∘Jp 1) λa Z d=>?_)
   refine fo Z 1 rfl rfl ?_
   exact qbv Z [vP g 0,vQ 1,vQ 64] rfl (R8 W _ g e1 A Hw c c12 b (([]:List Nat)++[nx]) (.slice H ([qf,⟨qb 0,3,e1⟩].length) I) _ 1 64 de (d.pk [0,2,1,3]) j l F hb G.2 Q p) λw2 d=>rG Z rfl d (i:=1) rfl (r.trans (qos p)) [] de rfl
  ·
   refine Jb Z d ((JR∘Jp 1) λa Z d=>?_)
   refine fo Z 1 rfl rfl ?_
   exact qbv Z [vP g 0,vQ 1,vQ 64] rfl (R7 W _ g e1 A Hw c c12 b (([]:List Nat)++[nx]) (.slice H ([qf,⟨qb 0,3,e1⟩].length) I) _ 1 64 de (d.pk [0,2,1,3]) j l F hb G.2 Q p J) λw2 d=>rG Z rfl d (i:=1) rfl (r.trans (p.bad J)) [] de rfl
  ·
   have r:=r.trans (p.goC J)
   have R:=p.in G.2
   have Y:=pq (x:=cp) Q R.1
   refine Jb Z d ((JR∘Jp 1∘JL (h:=by exact λd=>Mc W _ g e1 A Hw c c12 b (([]:List Nat)++[nx]) (.slice H ([qf,⟨qb 0,3,e1⟩].length) I) _ 1 64 de (d.pk [0,2,1,3]) j l F hb G.2 Q p J)) ?_)
   rintro d _ w16 ⟨rfl,A16,c16,hc16,e⟩
   refine ⟨_,rfl,_,e,?_⟩
   refine (Jp 1∘bH∘Jj∘JQ) λa Z d=>?_
   rcases DF b a1 with u|⟨cr,a2,u⟩
   ·
    refine Jb Z d ((JR∘Jp 1) λa Z d=>?_)
    refine fo Z 1 rfl rfl ?_
    exact qbv Z [vP g 0] rfl (Ma W _ g a1 A A16 c c16 b ((([]:List Nat)++[nx])++[cp]) (.slice H ([qf,⟨qb 0,3,e1⟩].length) I) _ (d.pk [0,1,2,3]) j l F hb R.2 Y u) λw2 d=>rG Z rfl d (i:=1) rfl (r.trans (LA u)) [] de rfl
   ·
    have r:=r.trans u.go1
    have K:=u.in R.2
    have S:=pq (x:=cr) Y K.1
    refine Jb Z d ((JR∘Jp 1∘JL (h:=by exact λd=>L9 W _ g a1 A A16 c c16 b ((([]:List Nat)++[nx])++[cp]) (.slice H ([qf,⟨qb 0,3,e1⟩].length) I) _ (d.pk [0,1,2,3]) j l F hb R.2 Y u)) ?_)
    rintro d _ CY ⟨rfl,Me,c18,hc18,e⟩
    refine ⟨_,rfl,_,e,?_⟩
    refine (mI∘Jj∘JQ) λa Z d=>?_
    rcases LB b a2 1 256 with q|⟨gp,e2,q,L⟩|⟨gp,e2,q,L⟩
    ·
     refine Jb Z d ((JR∘Jp 1) λa Z d=>?_)
     refine fo Z 1 rfl rfl ?_
     exact qbv Z [vP g 0,vQ 1,vQ 256] rfl (R8 W _ g a2 A Me c c18 b (((([]:List Nat)++[nx])++[cp])++[cr]) (.slice H ([qf,⟨qb 0,3,e1⟩].length) I) _ 1 256 de (d.pk [0,1,2,3]) j l F hb K.2 S q) λw2 d=>rG Z rfl d (i:=1) rfl (r.trans (qos q)) [] de rfl
    ·
     refine Jb Z d ((JR∘Jp 1) λa Z d=>?_)
     refine fo Z 1 rfl rfl ?_
     exact qbv Z [vP g 0,vQ 1,vQ 256] rfl (R7 W _ g a2 A Me c c18 b (((([]:List Nat)++[nx])++[cp])++[cr]) (.slice H ([qf,⟨qb 0,3,e1⟩].length) I) _ 1 256 de (d.pk [0,1,2,3]) j l F hb K.2 S q L) λw2 d=>rG Z rfl d (i:=1) rfl (r.trans (q.bad L)) [] de rfl
    ·
     have r:=r.trans (q.goC L)
     have T:=q.in K.2
     have vM:=pq (x:=gp) S T.1
     refine Jb Z d ((JR∘Jp 1∘JL (h:=by exact λd=>Mc W _ g a2 A Me c c18 b (((([]:List Nat)++[nx])++[cp])++[cr]) (.slice H ([qf,⟨qb 0,3,e1⟩].length) I) _ 1 256 de (d.pk [0,1,2,3]) j l F hb K.2 S q L)) ?_)
     rintro d _ OU ⟨rfl,Mf,c20,Hy,e⟩
     refine ⟨_,rfl,_,e,?_⟩
     refine (Jp 1∘bH∘Jq) ?_
     have h3:3*cp*(gp-1)≤192*255:=Nat.mul_le_mul om om
     refine (JG∘JP∘Jp 1∘JL (h:=by exact λd=>yH (l2:=[qf,⟨qb 0,3,e1⟩,⟨qb 1,e1,e2⟩]) W _ g e2 _ _ H I ([qf,⟨qb 0,3,e1⟩]) _ _ (d.pk [0,2,1,3]) (acy rfl) rfl)) ?_
     rintro d _ NC ⟨rfl,Hz,k22,an3,e⟩
     refine ⟨_,rfl,_,e,?_⟩
     refine (mI∘Jq∘JC (h:=by exact λd=>(show Mem W _ [.blk g #[.slice A (abl b) c,vI e2,.slice Mf (abl ((((([]:List Nat)++[nx])++[cp])++[cr])++[gp])) c20,.slice Hz ([qf,⟨qb 0,3,e1⟩,⟨qb 1,e1,e2⟩].length) k22] 300,.row (.slice Hz ([qf,⟨qb 0,3,e1⟩,⟨qb 1,e1,e2⟩].length) k22) ([qf,⟨qb 0,3,e1⟩,⟨qb 1,e1,e2⟩].length) ([qf,⟨qb 0,3,e1⟩,⟨qb 1,e1,e2⟩].flatMap gF) 435 3,.row (.slice Mf (abl ((((([]:List Nat)++[nx])++[cp])++[cr])++[gp])) c20) (abl ((((([]:List Nat)++[nx])++[cp])++[cr])++[gp])) (((((([]:List Nat)++[nx])++[cp])++[cr])++[gp]).map bq) 41 1,.blk g2 #[vI 0] 27] from d))∘JG∘JQ) λa Z d=>?_
     rcases DI b (2*(gp-1)) e2 with v|⟨gs,e3,v⟩
     ·
      refine Jb Z d ((JR∘Jp 2∘yX 1∘Jp 1∘Jo (vI (2*(gp-1):Nat)) (by exact q7 om om)) λa Z d=>?_)
      refine fo Z 4 rfl rfl ?_
      exact qbv Z [vP g 0,vI (2*(gp-1):Nat)] rfl (Ht W _ g e2 A Mf c c20 b ((((([]:List Nat)++[nx])++[cp])++[cr])++[gp]) (.slice Hz ([qf,⟨qb 0,3,e1⟩,⟨qb 1,e1,e2⟩].length) k22) _ (2*(gp-1)) om Hy (d.pk [0,2,1,3]) j l F hb T.2 vM v) λw2 d=>rG Z rfl d (i:=1) rfl (r.trans (DC v)) [] de rfl
     ·
      have r:=r.trans v.goK
      have M:=v.in T.2
      have vO:=pE (xs:=gs) vM M.1 M.2.1
      refine Jb Z d ((JR∘Jp 2∘yX 1∘Jp 1∘Jo (vI (2*(gp-1):Nat)) (by exact q7 om om)∘JL (h:=by exact λd=>Hr W _ g e2 A Mf c c20 b ((((([]:List Nat)++[nx])++[cp])++[cr])++[gp]) (.slice Hz ([qf,⟨qb 0,3,e1⟩,⟨qb 1,e1,e2⟩].length) k22) _ (2*(gp-1)) om Hy (d.pk [0,2,1,3]) j l F hb T.2 vM v)) ?_)
      rintro d _ FV ⟨rfl,Mg,Mh,hc27,e⟩
      refine ⟨_,rfl,_,e,?_⟩
      refine (qE∘Jr∘Jp 1∘JL (h:=by exact λd=>yH (l2:=[qf,⟨qb 0,3,e1⟩,⟨qb 1,e1,e2⟩,⟨qb 2,e2,e3⟩]) W _ g e3 _ _ Hz k22 ([qf,⟨qb 0,3,e1⟩,⟨qb 1,e1,e2⟩]) _ _ (d.pk [0,2,1,3]) (acy rfl) rfl)) ?_
      rintro d _ w29 ⟨rfl,HV,HY,an4,e⟩
      refine ⟨_,rfl,_,e,?_⟩
      refine (mI∘Jq∘JC (h:=by exact λd=>(show Mem W _ [.blk g #[.slice A (abl b) c,vI e3,.slice Mg (abl (((((([]:List Nat)++[nx])++[cp])++[cr])++[gp])++gs)) Mh,.slice HV ([qf,⟨qb 0,3,e1⟩,⟨qb 1,e1,e2⟩,⟨qb 2,e2,e3⟩].length) HY] 300,.row (.slice HV ([qf,⟨qb 0,3,e1⟩,⟨qb 1,e1,e2⟩,⟨qb 2,e2,e3⟩].length) HY) ([qf,⟨qb 0,3,e1⟩,⟨qb 1,e1,e2⟩,⟨qb 2,e2,e3⟩].length) ([qf,⟨qb 0,3,e1⟩,⟨qb 1,e1,e2⟩,⟨qb 2,e2,e3⟩].flatMap gF) 435 3,.row (.slice Mg (abl (((((([]:List Nat)++[nx])++[cp])++[cr])++[gp])++gs)) Mh) (abl (((((([]:List Nat)++[nx])++[cp])++[cr])++[gp])++gs)) ((((((([]:List Nat)++[nx])++[cp])++[cr])++[gp])++gs).map bq) 41 1,.blk g2 #[vI 0] 27] from d))∘JG∘JQ) λa Z d=>?_
      rcases DI b cp e3 with y|⟨cl,e4,y⟩
      ·
       refine Jb Z d ((JR∘Jp 2) λa Z d=>?_)
       refine fo Z 2 rfl rfl ?_
       exact qbv Z [vP g 0,vI cp] rfl (Ht W _ g e3 A Mg c Mh b (((((([]:List Nat)++[nx])++[cp])++[cr])++[gp])++gs) (.slice HV ([qf,⟨qb 0,3,e1⟩,⟨qb 1,e1,e2⟩,⟨qb 2,e2,e3⟩].length) HY) _ cp om hc27 (d.pk [0,2,1,3]) j l F hb M.2.2 vO y) λw2 d=>rG Z rfl d (i:=1) rfl (r.trans (DC y)) [] de rfl
      ·
       have r:=r.trans y.goK
       have N:=y.in M.2.2
       have vR:=pE (xs:=cl) vO N.1 N.2.1
       refine Jb Z d ((JR∘Jp 2∘JL (h:=by exact λd=>Hr W _ g e3 A Mg c Mh b (((((([]:List Nat)++[nx])++[cp])++[cr])++[gp])++gs) (.slice HV ([qf,⟨qb 0,3,e1⟩,⟨qb 1,e1,e2⟩,⟨qb 2,e2,e3⟩].length) HY) _ cp om hc27 (d.pk [0,2,1,3]) j l F hb M.2.2 vO y)) ?_)
       rintro d _ w32 ⟨rfl,Mi,c32,hc32,e⟩
       refine ⟨_,rfl,_,e,?_⟩
       refine (ow∘Jr∘Jp 1∘JL (h:=by exact λd=>yH (l2:=[qf,⟨qb 0,3,e1⟩,⟨qb 1,e1,e2⟩,⟨qb 2,e2,e3⟩,⟨qb 3,e3,e4⟩]) W _ g e4 _ _ HV HY ([qf,⟨qb 0,3,e1⟩,⟨qb 1,e1,e2⟩,⟨qb 2,e2,e3⟩]) _ _ (d.pk [0,2,1,3]) (acy rfl) rfl)) ?_
       rintro d _ w34 ⟨rfl,HZ,H6,an5,e⟩
       refine ⟨_,rfl,_,e,?_⟩
       refine (mI∘Jq∘JC (h:=by exact λd=>(show Mem W _ [.blk g #[.slice A (abl b) c,vI e4,.slice Mi (abl ((((((([]:List Nat)++[nx])++[cp])++[cr])++[gp])++gs)++cl)) c32,.slice HZ ([qf,⟨qb 0,3,e1⟩,⟨qb 1,e1,e2⟩,⟨qb 2,e2,e3⟩,⟨qb 3,e3,e4⟩].length) H6] 300,.row (.slice HZ ([qf,⟨qb 0,3,e1⟩,⟨qb 1,e1,e2⟩,⟨qb 2,e2,e3⟩,⟨qb 3,e3,e4⟩].length) H6) ([qf,⟨qb 0,3,e1⟩,⟨qb 1,e1,e2⟩,⟨qb 2,e2,e3⟩,⟨qb 3,e3,e4⟩].length) ([qf,⟨qb 0,3,e1⟩,⟨qb 1,e1,e2⟩,⟨qb 2,e2,e3⟩,⟨qb 3,e3,e4⟩].flatMap gF) 435 3,.row (.slice Mi (abl ((((((([]:List Nat)++[nx])++[cp])++[cr])++[gp])++gs)++cl)) c32) (abl ((((((([]:List Nat)++[nx])++[cp])++[cr])++[gp])++gs)++cl)) (((((((([]:List Nat)++[nx])++[cp])++[cr])++[gp])++gs)++cl).map bq) 41 1,.blk g2 #[vI 0] 27] from d))∘JG∘JQ) λa Z d=>?_
       rcases DI b cp e4 with B|⟨cu,e5,B⟩
       ·
        refine Jb Z d ((JR∘Jp 2) λa Z d=>?_)
        refine fo Z 2 rfl rfl ?_
        exact qbv Z [vP g 0,vI cp] rfl (Ht W _ g e4 A Mi c c32 b ((((((([]:List Nat)++[nx])++[cp])++[cr])++[gp])++gs)++cl) (.slice HZ ([qf,⟨qb 0,3,e1⟩,⟨qb 1,e1,e2⟩,⟨qb 2,e2,e3⟩,⟨qb 3,e3,e4⟩].length) H6) _ cp om hc32 (d.pk [0,2,1,3]) j l F hb N.2.2 vR B) λw2 d=>rG Z rfl d (i:=1) rfl (r.trans (DC B)) [] de rfl
       ·
        have r:=r.trans B.goK
        have s:=B.in N.2.2
        have O:=pE (xs:=cu) vR s.1 s.2.1
        refine Jb Z d ((JR∘Jp 2∘JL (h:=by exact λd=>Hr W _ g e4 A Mi c c32 b ((((((([]:List Nat)++[nx])++[cp])++[cr])++[gp])++gs)++cl) (.slice HZ ([qf,⟨qb 0,3,e1⟩,⟨qb 1,e1,e2⟩,⟨qb 2,e2,e3⟩,⟨qb 3,e3,e4⟩].length) H6) _ cp om hc32 (d.pk [0,2,1,3]) j l F hb N.2.2 vR B)) ?_)
        rintro d _ Dc ⟨rfl,DT,c37,an6,e⟩
        refine ⟨_,rfl,_,e,?_⟩
        refine (ow∘Jr∘Jp 1∘JL (h:=by exact λd=>yH (l2:=[qf,⟨qb 0,3,e1⟩,⟨qb 1,e1,e2⟩,⟨qb 2,e2,e3⟩,⟨qb 3,e3,e4⟩,⟨qb 4,e4,e5⟩]) W _ g e5 _ _ HZ H6 ([qf,⟨qb 0,3,e1⟩,⟨qb 1,e1,e2⟩,⟨qb 2,e2,e3⟩,⟨qb 3,e3,e4⟩]) _ _ (d.pk [0,2,1,3]) (acy rfl) rfl)) ?_
        rintro d _ Lj ⟨rfl,U,V,an7,e⟩
        refine ⟨_,rfl,_,e,?_⟩
        refine (mI∘Jq∘JC (h:=by exact λd=>(show Mem W _ [.blk g #[.slice A (abl b) c,vI e5,.slice DT (abl (((((((([]:List Nat)++[nx])++[cp])++[cr])++[gp])++gs)++cl)++cu)) c37,.slice U ([qf,⟨qb 0,3,e1⟩,⟨qb 1,e1,e2⟩,⟨qb 2,e2,e3⟩,⟨qb 3,e3,e4⟩,⟨qb 4,e4,e5⟩].length) V] 300,.row (.slice U ([qf,⟨qb 0,3,e1⟩,⟨qb 1,e1,e2⟩,⟨qb 2,e2,e3⟩,⟨qb 3,e3,e4⟩,⟨qb 4,e4,e5⟩].length) V) ([qf,⟨qb 0,3,e1⟩,⟨qb 1,e1,e2⟩,⟨qb 2,e2,e3⟩,⟨qb 3,e3,e4⟩,⟨qb 4,e4,e5⟩].length) ([qf,⟨qb 0,3,e1⟩,⟨qb 1,e1,e2⟩,⟨qb 2,e2,e3⟩,⟨qb 3,e3,e4⟩,⟨qb 4,e4,e5⟩].flatMap gF) 435 3,.row (.slice DT (abl (((((((([]:List Nat)++[nx])++[cp])++[cr])++[gp])++gs)++cl)++cu)) c37) (abl (((((((([]:List Nat)++[nx])++[cp])++[cr])++[gp])++gs)++cl)++cu)) ((((((((([]:List Nat)++[nx])++[cp])++[cr])++[gp])++gs)++cl)++cu).map bq) 41 1,.blk g2 #[vI 0] 27] from d))∘JG∘JQ) λa Z d=>?_
        rcases LB b e5 0 65535 with o|⟨tk,a3,o,C⟩|⟨tk,a3,o,C⟩
        ·
         refine Jb Z d ((JR∘Jp 2) λa Z d=>?_)
         refine fo Z 2 rfl rfl ?_
         exact qbv Z [vP g 0,vQ 0,vQ 65535] rfl (R8 W _ g e5 A DT c c37 b (((((((([]:List Nat)++[nx])++[cp])++[cr])++[gp])++gs)++cl)++cu) (.slice U ([qf,⟨qb 0,3,e1⟩,⟨qb 1,e1,e2⟩,⟨qb 2,e2,e3⟩,⟨qb 3,e3,e4⟩,⟨qb 4,e4,e5⟩].length) V) _ 0 65535 de (d.pk [0,2,1,3]) j l F hb s.2.2 O o) λw2 d=>rG Z rfl d (i:=1) rfl (r.trans (qos o)) [] de rfl
        ·
         refine Jb Z d ((JR∘Jp 2) λa Z d=>?_)
         refine fo Z 2 rfl rfl ?_
         exact qbv Z [vP g 0,vQ 0,vQ 65535] rfl (R7 W _ g e5 A DT c c37 b (((((((([]:List Nat)++[nx])++[cp])++[cr])++[gp])++gs)++cl)++cu) (.slice U ([qf,⟨qb 0,3,e1⟩,⟨qb 1,e1,e2⟩,⟨qb 2,e2,e3⟩,⟨qb 3,e3,e4⟩,⟨qb 4,e4,e5⟩].length) V) _ 0 65535 de (d.pk [0,2,1,3]) j l F hb s.2.2 O o C) λw2 d=>rG Z rfl d (i:=1) rfl (r.trans (o.bad C)) [] de rfl
        ·
         have r:=r.trans (o.goC C)
         have X:=o.in s.2.2
         have vT:=pq (x:=tk) O X.1
         rcases DI b (8*tk) a3 with D|⟨ts,e6,D⟩
         ·
          refine Jb Z d ((JR∘Jp 2∘JL (h:=by exact λd=>Mc W _ g e5 A DT c c37 b (((((((([]:List Nat)++[nx])++[cp])++[cr])++[gp])++gs)++cl)++cu) (.slice U ([qf,⟨qb 0,3,e1⟩,⟨qb 1,e1,e2⟩,⟨qb 2,e2,e3⟩,⟨qb 3,e3,e4⟩,⟨qb 4,e4,e5⟩].length) V) _ 0 65535 de (d.pk [0,2,1,3]) j l F hb s.2.2 O o C)) ?_)
          rintro d _ w42 ⟨rfl,Sc,Sd,Cn,e⟩
          refine ⟨_,rfl,_,e,?_⟩
          refine (Jp 1∘Jo (vI (8*tk:Nat)) (by exact q7 om om)) λa Z d=>?_
          refine fo Z 4 rfl rfl ?_
          exact qbv Z [vP g 0,vI (8*tk:Nat)] rfl (Ht W _ g a3 A Sc c Sd b ((((((((([]:List Nat)++[nx])++[cp])++[cr])++[gp])++gs)++cl)++cu)++[tk]) (.slice U ([qf,⟨qb 0,3,e1⟩,⟨qb 1,e1,e2⟩,⟨qb 2,e2,e3⟩,⟨qb 3,e3,e4⟩,⟨qb 4,e4,e5⟩].length) V) _ (8*tk) om Cn (d.pk [0,1,2,3]) j l F hb X.2 vT D) λw2 d=>rG Z rfl d (i:=1) rfl (r.trans (DC D)) [] de rfl
         ·
          have r:=r.trans D.goK
          have P:=D.in X.2
          have vU:=pE (xs:=ts) vT P.1 P.2.1
          refine Jb Z d ((JR∘Jp 2∘JL (h:=by exact λd=>Mc W _ g e5 A DT c c37 b (((((((([]:List Nat)++[nx])++[cp])++[cr])++[gp])++gs)++cl)++cu) (.slice U ([qf,⟨qb 0,3,e1⟩,⟨qb 1,e1,e2⟩,⟨qb 2,e2,e3⟩,⟨qb 3,e3,e4⟩,⟨qb 4,e4,e5⟩].length) V) _ 0 65535 de (d.pk [0,2,1,3]) j l F hb s.2.2 O o C)) ?_)
          rintro d _ w42 ⟨rfl,Sc,Sd,Cn,e⟩
          refine ⟨_,rfl,_,e,?_⟩
          refine (Jp 1∘Jo (vI (8*tk:Nat)) (by exact q7 om om)∘JL (h:=by exact λd=>Hr W _ g a3 A Sc c Sd b ((((((((([]:List Nat)++[nx])++[cp])++[cr])++[gp])++gs)++cl)++cu)++[tk]) (.slice U ([qf,⟨qb 0,3,e1⟩,⟨qb 1,e1,e2⟩,⟨qb 2,e2,e3⟩,⟨qb 3,e3,e4⟩,⟨qb 4,e4,e5⟩].length) V) _ (8*tk) om Cn (d.pk [0,1,2,3]) j l F hb X.2 vT D)) ?_
          rintro d _ NR ⟨rfl,H7,H8,Co,e⟩
          refine ⟨_,rfl,_,e,?_⟩
          refine (qE∘Jr∘Jp 1∘JL (h:=by exact λd=>yH (l2:=[qf,⟨qb 0,3,e1⟩,⟨qb 1,e1,e2⟩,⟨qb 2,e2,e3⟩,⟨qb 3,e3,e4⟩,⟨qb 4,e4,e5⟩,⟨qb 5,e5,e6⟩]) W _ g e6 _ _ U V ([qf,⟨qb 0,3,e1⟩,⟨qb 1,e1,e2⟩,⟨qb 2,e2,e3⟩,⟨qb 3,e3,e4⟩,⟨qb 4,e4,e5⟩]) _ _ (d.pk [0,2,1,3]) (acy rfl) rfl)) ?_
          rintro d _ EG ⟨rfl,H9,Ia,an9,e⟩
          refine ⟨_,rfl,_,e,?_⟩
          refine (mI∘Jq∘JC (h:=by exact λd=>(show Mem W _ [.blk g #[.slice A (abl b) c,vI e6,.slice H7 (abl (((((((((([]:List Nat)++[nx])++[cp])++[cr])++[gp])++gs)++cl)++cu)++[tk])++ts)) H8,.slice H9 ([qf,⟨qb 0,3,e1⟩,⟨qb 1,e1,e2⟩,⟨qb 2,e2,e3⟩,⟨qb 3,e3,e4⟩,⟨qb 4,e4,e5⟩,⟨qb 5,e5,e6⟩].length) Ia] 300,.row (.slice H9 ([qf,⟨qb 0,3,e1⟩,⟨qb 1,e1,e2⟩,⟨qb 2,e2,e3⟩,⟨qb 3,e3,e4⟩,⟨qb 4,e4,e5⟩,⟨qb 5,e5,e6⟩].length) Ia) ([qf,⟨qb 0,3,e1⟩,⟨qb 1,e1,e2⟩,⟨qb 2,e2,e3⟩,⟨qb 3,e3,e4⟩,⟨qb 4,e4,e5⟩,⟨qb 5,e5,e6⟩].length) ([qf,⟨qb 0,3,e1⟩,⟨qb 1,e1,e2⟩,⟨qb 2,e2,e3⟩,⟨qb 3,e3,e4⟩,⟨qb 4,e4,e5⟩,⟨qb 5,e5,e6⟩].flatMap gF) 435 3,.row (.slice H7 (abl (((((((((([]:List Nat)++[nx])++[cp])++[cr])++[gp])++gs)++cl)++cu)++[tk])++ts)) H8) (abl (((((((((([]:List Nat)++[nx])++[cp])++[cr])++[gp])++gs)++cl)++cu)++[tk])++ts)) ((((((((((([]:List Nat)++[nx])++[cp])++[cr])++[gp])++gs)++cl)++cu)++[tk])++ts).map bq) 41 1,.blk g2 #[vI 0] 27] from d))∘JG∘JQ) λa Z d=>?_
          rcases DI b (cp+3*cp*(gp-1)) e6 with E|⟨sp,e7,E⟩
          ·
           refine Jb Z d ((JR∘Jp 4∘Jo (vI (3*cp:Nat)) (by exact q7 om om)∘Jp 1∘yX 1∘Jp 1∘Jo (vI (3*cp*(gp-1):Nat)) (by exact ZM (m:=3*cp) (n:=gp-1) (by have:=h3;omega))∘Ja) λa Z d=>?_)
           refine fo Z 8 rfl rfl ?_
           exact qbv Z [vP g 0,vI (cp+(3*cp*(gp-1)):Nat)] rfl (Ht W _ g e6 A H7 c H8 b (((((((((([]:List Nat)++[nx])++[cp])++[cr])++[gp])++gs)++cl)++cu)++[tk])++ts) (.slice H9 ([qf,⟨qb 0,3,e1⟩,⟨qb 1,e1,e2⟩,⟨qb 2,e2,e3⟩,⟨qb 3,e3,e4⟩,⟨qb 4,e4,e5⟩,⟨qb 5,e5,e6⟩].length) Ia) _ (cp+(3*cp*(gp-1))) om Co (d.pk [0,2,1,3]) j l F hb P.2.2 vU E) λw2 d=>rG Z rfl d (i:=1) rfl (r.trans (DC E)) [] de rfl
          ·
           have r:=r.trans E.goK
           have Ad:=E.in P.2.2
           have aaR:=pE (xs:=sp) vU Ad.1 Ad.2.1
           refine Jb Z d ((JR∘Jp 4∘Jo (vI (3*cp:Nat)) (by exact q7 om om)∘Jp 1∘yX 1∘Jp 1∘Jo (vI (3*cp*(gp-1):Nat)) (by exact ZM (m:=3*cp) (n:=gp-1) (by have:=h3;omega))∘Ja∘JL (h:=by exact λd=>Hr W _ g e6 A H7 c H8 b (((((((((([]:List Nat)++[nx])++[cp])++[cr])++[gp])++gs)++cl)++cu)++[tk])++ts) (.slice H9 ([qf,⟨qb 0,3,e1⟩,⟨qb 1,e1,e2⟩,⟨qb 2,e2,e3⟩,⟨qb 3,e3,e4⟩,⟨qb 4,e4,e5⟩,⟨qb 5,e5,e6⟩].length) Ia) _ (cp+(3*cp*(gp-1))) om Co (d.pk [0,2,1,3]) j l F hb P.2.2 vU E)) ?_)
           rintro d _ w55 ⟨rfl,Cq,Cr,Ib,e⟩
           refine ⟨_,rfl,_,e,?_⟩
           refine (iE∘Jr∘Jp 1∘JL (h:=by exact λd=>yH (l2:=[qf,⟨qb 0,3,e1⟩,⟨qb 1,e1,e2⟩,⟨qb 2,e2,e3⟩,⟨qb 3,e3,e4⟩,⟨qb 4,e4,e5⟩,⟨qb 5,e5,e6⟩,⟨qb 6,e6,e7⟩]) W _ g e7 _ _ H9 Ia ([qf,⟨qb 0,3,e1⟩,⟨qb 1,e1,e2⟩,⟨qb 2,e2,e3⟩,⟨qb 3,e3,e4⟩,⟨qb 4,e4,e5⟩,⟨qb 5,e5,e6⟩]) _ _ (d.pk [0,2,1,3]) (acy rfl) rfl)) ?_
           rintro d _ w57 ⟨rfl,Ic,Ie,aob,e⟩
           refine ⟨_,rfl,_,e,?_⟩
           refine (qE∘Jq∘JC (h:=by exact λd=>(show Mem W _ [.blk g #[.slice A (abl b) c,vI e7,.slice Cq (abl ((((((((((([]:List Nat)++[nx])++[cp])++[cr])++[gp])++gs)++cl)++cu)++[tk])++ts)++sp)) Cr,.slice Ic ([qf,⟨qb 0,3,e1⟩,⟨qb 1,e1,e2⟩,⟨qb 2,e2,e3⟩,⟨qb 3,e3,e4⟩,⟨qb 4,e4,e5⟩,⟨qb 5,e5,e6⟩,⟨qb 6,e6,e7⟩].length) Ie] 300,.row (.slice Ic ([qf,⟨qb 0,3,e1⟩,⟨qb 1,e1,e2⟩,⟨qb 2,e2,e3⟩,⟨qb 3,e3,e4⟩,⟨qb 4,e4,e5⟩,⟨qb 5,e5,e6⟩,⟨qb 6,e6,e7⟩].length) Ie) ([qf,⟨qb 0,3,e1⟩,⟨qb 1,e1,e2⟩,⟨qb 2,e2,e3⟩,⟨qb 3,e3,e4⟩,⟨qb 4,e4,e5⟩,⟨qb 5,e5,e6⟩,⟨qb 6,e6,e7⟩].length) ([qf,⟨qb 0,3,e1⟩,⟨qb 1,e1,e2⟩,⟨qb 2,e2,e3⟩,⟨qb 3,e3,e4⟩,⟨qb 4,e4,e5⟩,⟨qb 5,e5,e6⟩,⟨qb 6,e6,e7⟩].flatMap gF) 435 3,.row (.slice Cq (abl ((((((((((([]:List Nat)++[nx])++[cp])++[cr])++[gp])++gs)++cl)++cu)++[tk])++ts)++sp)) Cr) (abl ((((((((((([]:List Nat)++[nx])++[cp])++[cr])++[gp])++gs)++cl)++cu)++[tk])++ts)++sp)) (((((((((((([]:List Nat)++[nx])++[cp])++[cr])++[gp])++gs)++cl)++cu)++[tk])++ts)++sp).map bq) 41 1,.blk g2 #[vI 0] 27] from d))∘JG∘JQ) λa Z d=>?_
           refine wp_seq ?_
           refine zf3 ?_
           refine Em d [.blk g #[abh A b c,vI e7,.slice Cq (abl ((((((((((([]:List Nat)++[nx])++[cp])++[cr])++[gp])++gs)++cl)++cu)++[tk])++ts)++sp)) Cr,.slice Ic ([qf,⟨qb 0,3,e1⟩,⟨qb 1,e1,e2⟩,⟨qb 2,e2,e3⟩,⟨qb 3,e3,e4⟩,⟨qb 4,e4,e5⟩,⟨qb 5,e5,e6⟩,⟨qb 6,e6,e7⟩].length) Ie] 300,.row (.slice Ic ([qf,⟨qb 0,3,e1⟩,⟨qb 1,e1,e2⟩,⟨qb 2,e2,e3⟩,⟨qb 3,e3,e4⟩,⟨qb 4,e4,e5⟩,⟨qb 5,e5,e6⟩,⟨qb 6,e6,e7⟩].length) Ie) ([qf,⟨qb 0,3,e1⟩,⟨qb 1,e1,e2⟩,⟨qb 2,e2,e3⟩,⟨qb 3,e3,e4⟩,⟨qb 4,e4,e5⟩,⟨qb 5,e5,e6⟩,⟨qb 6,e6,e7⟩].length) ([qf,⟨qb 0,3,e1⟩,⟨qb 1,e1,e2⟩,⟨qb 2,e2,e3⟩,⟨qb 3,e3,e4⟩,⟨qb 4,e4,e5⟩,⟨qb 5,e5,e6⟩,⟨qb 6,e6,e7⟩].flatMap gF) 435 3,.row (.slice Cq (abl ((((((((((([]:List Nat)++[nx])++[cp])++[cr])++[gp])++gs)++cl)++cu)++[tk])++ts)++sp)) Cr) (abl ((((((((((([]:List Nat)++[nx])++[cp])++[cr])++[gp])++gs)++cl)++cu)++[tk])++ts)++sp)) (((((((((((([]:List Nat)++[nx])++[cp])++[cr])++[gp])++gs)++cl)++cu)++[tk])++ts)++sp).map bq) 41 1,.blk g2 #[vI 0] 27] [0,1,2,3] [] λd HS=>?_
           refine ap Z (λ_=>HS) [0,4] (bf 10 [0,4]) [(62,vP g 0),(58,vP g 0)] λa Z=>?_
           refine nR Z HS 1 λa Z=>?_
           refine ap Z (λ_=>HS) [2] (bf 10 [0,1,2,4]) [(60,vP g 1)] λa Z=>?_
           refine dO Z HS 3 0 λa Z=>?_
           refine nR Z HS 5 λa Z=>?_
           refine ap Z (λ_=>HS) [6] (bt 10 [7,8,9]) [(64,vP g 0)] λa Z=>?_
           refine dO Z HS 7 0 λa Z=>?_
           refine xw Z HS 8 λa Z=>?_
           refine ap Z (λ_=>HS) [9] (bt 10 []) [(67,.bool ((e7:Int) !=(abl b:Int)))] λa Z=>?_
           refine qd kr ?_
           refine Jb Z d (Jh (λBH=>?_) λBH=>?_)
           ·
            have hne:e7≠abl b:=by omega
            refine (JT∘JR) λa Z d=>?_
            refine fo Z 0 rfl rfl ?_
            exact qbv Z [vI 346] rfl (LC 346 _ d) λw2 d=>rG Z rfl d (i:=3) rfl (r.trans (if_pos hne)) [] de rfl
           obtain rfl:e7=abl b:=by omega
           have r:=r.trans (if_neg (λh=>h rfl))
           obtain ⟨qn,Mj⟩:∃qn,((((((((((([]:List Nat)++[nx])++[cp])++[cr])++[gp])++gs)++cl)++cu)++[tk])++ts)++sp)=qn:=⟨_,rfl⟩
           intro a Z d
           rw [Mj] at d Ib
           refine Jb Z d ((JF∘aD∘JP∘Jp 1∘Jn∘Jg 1 O0∘bT 4∘Jn∘Jf 1∘JW aT fU) λaaS=>(iE∘Jr∘Jp 1∘JL (h:=by exact λd=>yH (l2:=[qf,⟨qb 0,3,e1⟩,⟨qb 1,e1,e2⟩,⟨qb 2,e2,e3⟩,⟨qb 3,e3,e4⟩,⟨qb 4,e4,e5⟩,⟨qb 5,e5,e6⟩,⟨qb 6,e6,abl b⟩,⟨⟨#[115,117,109]⟩,abl b,abl b+4⟩]) W _ g (abl b+4:Nat) _ _ Ic Ie ([qf,⟨qb 0,3,e1⟩,⟨qb 1,e1,e2⟩,⟨qb 2,e2,e3⟩,⟨qb 3,e3,e4⟩,⟨qb 4,e4,e5⟩,⟨qb 5,e5,e6⟩,⟨qb 6,e6,abl b⟩]) _ _ (d.pk [0,1,2,3]) (acy rfl) rfl)) ?_)
           rintro d _ Ql ⟨rfl,Sg,Si,Sj,e⟩
           refine ⟨_,rfl,_,e,?_⟩
           refine (mI∘Jq∘JC (h:=by exact λd=>(show Mem W _ [.blk g #[.slice A (abl b) c,vI (abl b+4:Nat),abh Cq qn Cr,.slice Sg ([qf,⟨qb 0,3,e1⟩,⟨qb 1,e1,e2⟩,⟨qb 2,e2,e3⟩,⟨qb 3,e3,e4⟩,⟨qb 4,e4,e5⟩,⟨qb 5,e5,e6⟩,⟨qb 6,e6,abl b⟩,⟨⟨#[115,117,109]⟩,abl b,abl b+4⟩].length) Si] 300,.row (.slice Sg ([qf,⟨qb 0,3,e1⟩,⟨qb 1,e1,e2⟩,⟨qb 2,e2,e3⟩,⟨qb 3,e3,e4⟩,⟨qb 4,e4,e5⟩,⟨qb 5,e5,e6⟩,⟨qb 6,e6,abl b⟩,⟨⟨#[115,117,109]⟩,abl b,abl b+4⟩].length) Si) ([qf,⟨qb 0,3,e1⟩,⟨qb 1,e1,e2⟩,⟨qb 2,e2,e3⟩,⟨qb 3,e3,e4⟩,⟨qb 4,e4,e5⟩,⟨qb 5,e5,e6⟩,⟨qb 6,e6,abl b⟩,⟨⟨#[115,117,109]⟩,abl b,abl b+4⟩].length) ([qf,⟨qb 0,3,e1⟩,⟨qb 1,e1,e2⟩,⟨qb 2,e2,e3⟩,⟨qb 3,e3,e4⟩,⟨qb 4,e4,e5⟩,⟨qb 5,e5,e6⟩,⟨qb 6,e6,abl b⟩,⟨⟨#[115,117,109]⟩,abl b,abl b+4⟩].flatMap gF) 435 3,abj Cq qn Cr bq 41 1,.blk g2 #[vI 0] 27] from d))∘JG∘JP∘JW qD aT) λaaT=>(aG∘Jj∘JZ) λa Z d=>?_
           exact za5 Z rfl d (i:=3) rfl λw3 d=> .inl ⟨(⟨nx,cp,cr,gp,gs,cl,cu,tk,ts,sp,e1,e2,e3,e4,e5,e6,abl b⟩:Pr),Cq,Cr,Sg,Si,r,rfl,by subst Mj;rw [qxb];exact Ib,Sj,by subst Mj;rw [qxb];exact d.pk [0,2,1]⟩
def zgp (W w:World) (g:Nat) (A:Option Addr) (c:Nat) (b:List Nat) (m:Mem W w [.blk g #[.slice A (abl b) c,vI 0,vN,vN] 300]) (f:Rd W W.heap.size 1 A (abl b) (b.map B8)) (i:abl b≤c) (n:∀z∈b,z<256) (hb:abl b≤16777216) (j:3≤abl b) {p:Pr} (h:sW b= .ok p):Calls abm 240 #[vP g 0] w (λr l=>r= .returned (vI 0)∧∃d a e sc,abl p.nums≤a∧abl p.secs≤sc∧Mem W l [.blk g #[.slice A (abl b) c,vI ((abl b+4:Nat):Int),.slice d (abl p.nums) a,.slice e (abl p.secs) sc] 300,.row (.slice d (abl p.nums) a) (abl p.nums) (p.nums.map bq) 41 1,.row (.slice e (abl p.secs) sc) (abl p.secs) (p.secs.flatMap gF) 435 3]):=
 (qxc W w g A c b m f i n hb j).mono λr l h1 => by
  rcases h1 with ⟨o,d,a,e,sc,h2,h3,h4,h5,h6⟩|⟨k,h2,_⟩
  ·obtain rfl:o=p:=by rw [h] at h2;injection h2 with h2;exact h2.symm
   exact ⟨h3,d,a,e,sc,h4,h5,h6⟩
  ·rw [h] at h2;cases h2
def zgq (W w:World) (g:Nat) (A:Option Addr) (c:Nat) (b:List Nat) (i:Mem W w [.blk g #[.slice A (abl b) c,vI 0,vN,vN] 300]) (a:Rd W W.heap.size 1 A (abl b) (b.map B8)) (d:abl b≤c) (j:∀z∈b,z<256) (hb:abl b≤16777216) (e:3≤abl b) {k:Nat} (h:sW b= .error k):Calls abm 240 #[vP g 0] w (λr f=>r= .returned (vI k)∧Mem W f []):=
 (qxc W w g A c b i a d j hb e).mono λr f h1 => by
  rcases h1 with ⟨m,n,o,p,sc,h2,_⟩|⟨l,h2,h3,h4⟩
  ·rw [h] at h2;cases h2
  ·obtain rfl:l=k:=by rw [h] at h2;injection h2 with h2;exact h2.symm
   exact ⟨h3,h4⟩
def Ae (w:World) (l:List Nat) (r:Ending) (b:World):Prop:=(∃p,fq l= .ok p∧∃g e f c a d sc,r= .returned (.tuple #[vP g 0,vI 0])∧abl p.nums≤a∧abl p.secs≤sc∧Mem w b [.blk g #[e,f,.slice c (abl p.nums) a,.slice d (abl p.secs) sc] 300,.row (.slice c (abl p.nums) a) (abl p.nums) (p.nums.map bq) 41 1,.row (.slice d (abl p.secs) sc) (abl p.secs) (p.secs.flatMap gF) 435 3])∨(∃k:Nat,fq l= .error k∧Is w (.tuple #[.pointer none,vI k]) r b)
def Ct {l:List Nat} (n:Int) (h:fq l= .error k) (hk:n=k) (hr:r= .returned (.tuple #[.pointer none,vI n])) (hb:Below w.heap.size w W):Ae w l r W:= .inr ⟨k,h,by rw [hr,hk],hb⟩
def qxd (A:Option Addr) (c:Nat) (l:List Nat) (B:Nat) (w:World) (K:aM B w) (I:B≤w.heap.size) (hr:Rd w w.heap.size 1 A (abl l) (l.map B8)) (hc:abl l≤c) (S:abl l≤100000000) (J:∀z∈l,z<256):
    Calls abm 169 #[.slice A (abl l) c] w (Ae w l):=by
 refine (dV Tryz.func169 47) ?_
 refine (JP∘Jp 2∘Jj∘JQ∘JB∘JP∘Jp 1∘Jl∘Jp 2∘dQ∘Jj) (Ji (λD=>?_) λD=>?_)
 ·
  exact (JT∘JP∘Jp 2∘Jj∘JZ∘bG) λd=>Ct _ (q5j om) rfl rfl d.below
 refine (JF∘JP∘Jp 1∘Jl∘Jp 2∘dQ∘Jj) (Ji (λn=>?_) λn=>?_)
 ·
  exact (JT∘JP∘Jp 2∘Jj∘JZ∘bG) λd=>Ct _ (zao om om) rfl rfl d.below
 refine (JF∘JP∘Jp 1∘JI (h:=by exact λd=>NM A (abl l) c l B _ (K.mem d I) (d.le I) (d.old hr) hc rfl om J)) λL M=>(Jp 2∘dQ∘Jj) (Ju (λg=>?_) λg=>?_)
 ·
  have e:zl l=false:=by simpa using g
  exact (JT∘JP∘Jp 2∘Jj∘JZ∘bG) λd=>Ct _ (zf7 om om e) rfl rfl d.below
 have e:zl l=true:=by simpa using g
 refine (JF∘JP∘Jp 1) ?_
 obtain ⟨gA,f,rfl,_⟩:=hr.sat 0
 refine (Jy (v:=vP gA f) (h:=by exact Yl.indexAddr (ad:=⟨gA,f,none⟩) (y:=0) (sz:=1) rfl rfl rfl om kr)∘Jy (h:=by exact aad hr 0 0 (by first|omega|(simp;omega)) rfl rfl)∘Jp 2) (Jh (λo=>?_) λo=>?_)
 ·
  exact (Jp 6∘aG∘Jj∘JT∘JP∘Jp 2∘Jj∘JZ∘bG) λd=>Ct _ (ZO om om e om) rfl rfl d.below
 refine (Jp 1∘Jy (v:=vP gA (f+1)) (h:=by exact Yl.indexAddr (ad:=⟨gA,f,none⟩) (y:=1) (sz:=1) rfl rfl rfl om kr)∘Jy (h:=by exact aad hr 1 0 (by first|omega|(simp;omega)) rfl rfl)∘Jp 3∘aG∘Jj) (Jh (λq=>?_) λq=>?_)
 ·
  exact (JT∘JP∘Jp 2∘Jj∘JZ∘bG) λd=>Ct _ (ZO om om e om) rfl rfl d.below
 refine (JF∘JP∘Jp 1∘Jy (v:=vP gA (f+2)) (h:=by exact Yl.indexAddr (ad:=⟨gA,f,none⟩) (y:=2) (sz:=1) rfl rfl rfl om kr)∘Jy (h:=by exact aad hr 2 0 (by first|omega|(simp;omega)) rfl rfl)∘Jp 2∘gu∘Jj) (Jh (λr=>?_) λr=>?_)
 ·
  exact (JT∘JP∘Jp 2∘Jj∘JZ∘bG) λd=>Ct _ (quf om om e om om) rfl rfl d.below
 refine (JF∘aD∘JQ) ?_
 obtain ⟨b,i⟩:∃b,l.take (abl l-4)=b:=⟨_,rfl⟩
 have s:abl b=abl l-4:=by rw [←i,abr];omega
 have t:Rd w w.heap.size 1 (some ⟨gA,f,none⟩) (abl b) (b.map B8):=by rw [s,←i];exact hr.Az om
 have u:∀z∈b,z<256:=λz hz=>J z (acg (i▸hz))
 have m:=zf8 om om e om om
 rw [i] at m
 intro a Z d
 skip
 ·
  refine Jb Z d ((JR∘Jp 2∘Jl∘yX 4∘Jy (v:= .slice (some ⟨gA,f,none⟩) (abl l-4) c) (h:=by exact aag aV (j:=abl l-4) rfl rfl rfl om)∘Jo (.slice (some ⟨gA,f,none⟩) (abl b) c) (by rw [s])∘fu #[abh (some ⟨gA,f,none⟩) b c,vI 0,vN,vN]∘JE) λN x=>(Jp 1∘aG∘Jj∘JQ∘JQ) λa Z d=>?_)
  rcases hpr:sW b with k|p
  ·
   have O:=ZN hpr
   refine Jb Z d ((JR∘Jp 1∘JO (h:=by exact λd=>zgq w _ x (some ⟨gA,f,none⟩) c b (d.pk [0]) t om u om om hpr)) λE=>(Jp 1∘bH∘Jr∘Jp 2∘aK∘Jj) (Jh (λC=>?_) λC=>?_))
   ·
    exact (JT∘JP∘Jp 3∘Jj∘JZ∘bG) λd=>Ct _ (m.trans hpr) rfl rfl d.below
   intro a Z d
   exfalso;omega
  ·
   refine Jb Z d ((JR∘Jp 1∘JL (h:=by exact λd=>zgp w _ x (some ⟨gA,f,none⟩) c b (d.pk [0]) t om u om om hpr)) ?_)
   rintro d _ E ⟨rfl,P,Q,R,sc,F,G,H⟩
   refine ⟨_,rfl,_,H,?_⟩
   exact (Jp 1∘bH∘Jr∘Jv 2 [(44,.bool false)]∘Jj∘JF∘aD∘JP∘Jp 3∘Jj∘JZ∘bG) λd=>by exact .inl ⟨p,m.trans hpr,_,_,_,P,Q,R,sc,rfl,F,G,d⟩
def zgr (A:Option Addr) (c:Nat) (l:List Nat) (B:Nat) (w:World) (f:aM B w) (i:B≤w.heap.size) (hr:Rd w w.heap.size 1 A (abl l) (l.map B8)) (hc:abl l≤c) (j:abl l≤100000000) (m:∀z∈l,z<256) {p:Pr} (h:fq l= .ok p):Calls abm 169 #[.slice A (abl l) c] w (λr b=>∃g n o d a e sc,r= .returned (.tuple #[vP g 0,vI 0])∧abl p.nums≤a∧abl p.secs≤sc∧Mem w b [.blk g #[n,o,.slice d (abl p.nums) a,.slice e (abl p.secs) sc] 300,.row (.slice d (abl p.nums) a) (abl p.nums) (p.nums.map bq) 41 1,.row (.slice e (abl p.secs) sc) (abl p.secs) (p.secs.flatMap gF) 435 3]):=
 (qxd A c l B w f i hr hc j m).mono λr b h1 => by
  rcases h1 with ⟨q,h2,h3⟩|⟨k,h2,_⟩
  ·obtain rfl:q=p:=by rw [h] at h2;injection h2 with h2;exact h2.symm
   exact h3
  ·rw [h] at h2;cases h2
def zgs (A:Option Addr) (c:Nat) (l:List Nat) (B:Nat) (w:World) (a:aM B w) (b:B≤w.heap.size) (hr:Rd w w.heap.size 1 A (abl l) (l.map B8)) (hc:abl l≤c) (d:abl l≤100000000) (e:∀z∈l,z<256) {k:Nat} (h:fq l= .error k):Calls abm 169 #[.slice A (abl l) c] w (Is w (.tuple #[.pointer none,vI k])):=
 (qxd A c l B w a b hr hc d e).mono λr g h1 => by
  rcases h1 with ⟨i,h2,_⟩|⟨f,h2,h3⟩
  ·rw [h] at h2;cases h2
  ·obtain rfl:f=k:=by rw [h] at h2;injection h2 with h2;exact h2.symm
   exact h3
def G6 (W:World) (g k:Nat) (b:Option Addr) (a:Nat) (q:List Nat) (o:Bool) (fs:List Fact) (v:Value) (r:Ending) (c:World):Prop:=r= .returned v∧Mem W c (.blk g #[.slice (dA b a k) (abl q-k) (a-k),.bool o] 302:: .row (.slice b (abl q) a) (abl q) (q.map bq) 41 1::fs)
def qnb {g:Nat} {q:List Nat} {o b:Bool} {fs:List Fact} {v:Value} (hr:r= .returned v) (a:b=o) (d:Mem W w (.blk g #[.slice (dA A c k) (abl q-k) (c-k),.bool b] 302:: .row (.slice A (abl q) c) (abl q) (q.map bq) 41 1::fs)):G6 W g k A c q o fs v r w:=by subst a;exact ⟨hr,d⟩
theorem zay (x m:Nat):decide ((x:Int)≤(m:Int))=dle x m:=decide_eq_decide.2 Int.ofNat_le
def qw5 (m:Nat) (W w:World) (g k:Nat) (f:Option Addr) (b:Nat) (q:List Nat) (o:Bool) (fs:List Fact) (s:Mem W w (.blk g #[.slice (dA f b k) (abl q-k) (b-k),.bool o] 302:: abj f q b bq 41 1::fs)) (l:abl q≤b) (hk:k<abl q):
    Calls abm 242 #[vP g 0,vQ m] w (G6 W g (k+1) f b q (o&&dle (q.getD k 0) m) fs (vQ (q.getD k 0:Int))):=by
 refine (iX Tryz.func242 33) ?_
 intro a Z d
 replace d:=s
 obtain ⟨n,oS,p,_⟩:=Rd.Um (Rh (d.rd (i:=1) rfl) l k om) om de
 refine Jb Z d ((JP∘Jp 1∘Jr∘Jp 1∘Jn∘Jf 0∘Jc O0∘Jo (.slice (some ⟨n,oS,none⟩) (abl q-k) (b-k)) (by rw [p];try rfl)∘Jy (v:=vP n oS) (h:=by exact Yl.indexAddr (ad:=⟨n,oS,none⟩) (y:=0) (sz:=1) rfl rfl rfl om kr)∘Jy (v:=vQ (q.getD k 0)) (h:=by exact Pd rfl rfl kr (λ_ h=>zi7 (h.rd (i:=1) rfl) l hk p))∘Jp 1∘aG∘Jr∘Jp 2∘Jn∘Jg 0 O0∘Jy (v:= .slice (if b-k=1 then dA f b k else (dA f b k:Option Addr).map (·.add (1*1))) ((abl q-k)-1) ((b-k)-1)) (h:=by exact aaf kK (j:=1) rfl rfl rfl om)∘Jo (.slice (dA f b (k+1)) (abl q- (k+1)) (b- (k+1))) (by exact rfl)∘Jn∘Jf 0∘JW aT aT) λr=>(iE∘Jr∘Jp 2∘Jn∘Jg 1 O0∘Jp 1) (Ju (λc=>?_) λc=>?_))
 ·
  exact (Jp 4∘Jn∘Jf 1∘JW aT fU) λe=>(iE∘Jr∘Jp 2∘aG∘Jj∘JZ∘aZ) λd=>qnb rfl (by rw [c,acz];exact zay _ _) d
 exact (Jp 4∘Jn∘Jf 1∘JW aT fU) λe=>(iE∘Jr∘Jp 2∘aG∘Jj∘JZ∘aZ) λd=>qnb rfl (by rw [c];rfl) d
def yE (m:Nat) (W w:World) (g k:Nat) (b:Option Addr) (a:Nat) (q:List Nat) (o:Bool) (fs:List Fact) (d:Mem W w (.blk g #[.slice (dA b a k) (abl q-k) (a-k),.bool o] 302:: .row (.slice b (abl q) a) (abl q) (q.map bq) 41 1::fs)) (c:abl q≤a) (hk:k<abl q) {x k2:Nat} {o2:Bool} (e:q.getD k 0=x) (h2:k+1=k2) (f:(o&&dle x m)=o2):Calls abm 242 #[vP g 0,vQ m] w (G6 W g k2 b a q o2 fs (vQ x)):=by
 subst e;subst h2;subst f
 exact qw5 m W w g k b a q o fs d c hk
def q52 (W w:World) (g k:Nat) (b:Option Addr) (a:Nat) (q:List Nat) (o:Bool) (fs:List Fact) (e:Mem W w (.blk g #[.slice (dA b a k) (abl q-k) (a-k),.bool o] 302:: abj b q a bq 41 1::fs)) (d:abl q≤a) (hk:k<abl q):
    Calls abm 241 #[vP g 0] w (G6 W g (k+1) b a q (o&&dle (q.getD k 0) aA) fs (vI (bE (q.getD k 0)))):=by
 refine (dV Tryz.func241 6) ?_
 exact (JC (h:=by exact λc=>e)∘JP∘Jp 1∘Jr∘Jp 1∘JO (h:=by exact λc=>qw5 aA W _ g k b a q o fs c d hk)) λf=>(Jv 1 [(5,vI (IntKind.i64.wrap (q.getD k 0:Int)))]∘Jo (vI (bE (q.getD k 0))) (by exact rfl)∘Jp 1∘dQ∘Jj∘JZ∘aZ) λc=>by exact ⟨rfl,c⟩
theorem tu (W w:World) (g k:Nat) (b:Option Addr) (a:Nat) (q:List Nat) (o:Bool) (fs:List Fact) (d:Mem W w (.blk g #[.slice (dA b a k) (abl q-k) (a-k),.bool o] 302:: .row (.slice b (abl q) a) (abl q) (q.map bq) 41 1::fs)) (c:abl q≤a) (hk:k<abl q) {x k2:Nat} {o2:Bool} {v:Int} (e:q.getD k 0=x) (h2:k+1=k2) (f:(o&&dle x aA)=o2) (h:bE x=v):Calls abm 241 #[vP g 0] w (G6 W g k2 b a q o2 fs (vI v)):=by
 subst e;subst h2;subst f;subst h
 exact q52 W w g k b a q o fs d c hk
def aa2 {f r1 a b c d:Fact} {fs rs:List Fact} (h:Mem W w (f::r1::a::b::c::d::(fs++rs))):Mem W w (f::(fs++([r1,a,b,c,d]++rs))):=h.perm ((List.perm_append_comm_assoc [r1,a,b,c,d] fs rs).cons f)
def zgn (x:Nat):((x:Int)==(1:Int))=decide (x=1):=by
 rw [ace,beq_iff_eq,decide_eq_true_eq]
 omega
theorem zaz (h:0<j):p.oF (j+1)=((p.oF j&&dle (p.gs.getD (2*(j-1)) 0) aA)&&dle (p.gs.getD (2*(j-1)+1) 0) aA):=if_neg om
theorem q54 (h:j=0):p.oF (j+1)=p.oF j:=by subst h;rfl
theorem G7 (h:y=0):p.so y (x+1)=p.so y x+1:=by subst h;rw [yw,yw]
theorem G8 (h:0<y):p.so y (x+1)=p.so y x+3:=by rw [sH h,sH h];omega
theorem G9 {b:Bool} (h:y=0):p.lG b y (x+1)=(p.lG b y x&&dle (p.sn y x 0) 18446744073709551615):=if_pos h
theorem He {b:Bool} (h:0<y):p.lG b y (x+1)=(((p.lG b y x&&dle (p.sn y x 0) 18446744073709551615)&&dle (p.sn y x 1) 4294967295)&&dle (p.sn y x 2) 18446744073709551615):=if_neg om
def za0 (W:World) (g:Nat) (p:Pr) (fs:List Fact) (r:Ending) (a:World):Prop:=∃(z:cO) (A:Option Addr) (n c:Nat),r= .returned (.agg z.cells)∧eD p.pY z∧eP z.st∧Mem W a (.blk g #[.slice A n c,.bool p.okB] 302::(fs++jr z.st))
def qz5 (W w:World) (g:Nat) (e:Option Addr) (d:Nat) (p:Pr) (h:p.Fit) (fs:List Fact) (HW:Mem W w (.blk g #[abh e p.nums d,.bool true] 302:: abj e p.nums d bq 41 1::fs)) (o:abl p.nums≤d):
    Calls abm 170 #[vP g 0] w (za0 W g p fs):=by
 obtain ⟨hnl,hsl⟩:=zas h
 have n0:=zar p
 have eC:p.oC=4+2*(p.gp-1):=rfl
 have eT:p.oT=p.oC+2*p.cp:=rfl
 have eS:p.oS=p.oT+1+8*p.tk:=rfl
 have c1:=h.cp1;have c2:=h.cp2;have c3:=h.ZQ;have c4:=h.GL;have c5:=h.tk
 refine (dV Tryz.func170 191) ?_
 refine (JC (h:=by exact λb=>HW)∘JP∘JA #[vI 0,vI 0,vQ 0,vN,vN,vN,vN,vN]) λw2 O=>(Jr∘Jp 1∘JO (h:=by exact λb=>tu W _ g 0 e d p.nums true _ (b.pt 3 [1,2,0]) o om (x:=p.nx) (k2:=1) (o2:=true&&dle p.nx aA) (n0.1) (rfl) (rfl) (rfl))) λwL=>(fu #[vI (bE p.nx),vI 0,vQ 0,vN,vN,vN,vN,vN]∘JA #[vI 0,vI 0,vQ 0,vN,vN,vN,vN,vN]) λw3 F=>(JV zn aT) λOW=>(dQ∘Jr∘Jf 1∘Jp 1∘aK∘Jr∘Jp 3∘JO (h:=by exact λb=>tu W _ g 1 e d p.nums (true&&dle p.nx aA) _ (b.pt 4 [1,2,0,3]) o om (x:=p.cp) (k2:=2) (o2:=(true&&dle p.nx aA)&&dle p.cp aA) (n0.2.1) (rfl) (rfl) (Ri om))) λQg=>(Jp 1∘JO (h:=by exact λb=>yE 18446744073709551615 W _ g 2 e d p.nums ((true&&dle p.nx aA)&&dle p.cp aA) _ (b.pt 4 [0,1,2,3]) o om (x:=p.cr) (k2:=3) (o2:=((true&&dle p.nx aA)&&dle p.cp aA)&&dle p.cr 18446744073709551615) (n0.2.2.1) (rfl) (rfl))) λGa=>(Jn∘Jf 0∘Jf 0∘JW iM fU) λane=>(Jn∘Jf 0∘Jf 1∘JW iM iM) λaaA=>(iE∘Jj∘JQ∘JP∘Jp 1∘JO (h:=by exact λb=>tu W _ g 3 e d p.nums (((true&&dle p.nx aA)&&dle p.cp aA)&&dle p.cr 18446744073709551615) _ (b.pt 4 [0,1,2,3]) o om (x:=p.gp) (k2:=4+2*(0-1)) (o2:=p.oF 0) (n0.2.2.2) (rfl) (rfl) (Ri om))) λw29=>(Jp 1∘Jq∘JC (h:=by exact λb=>b.nil 198 2)∘JG∘JB) λa Z b=>?_
 refine qg (λV aS wS=>∃(j:Nat) (G:List Gr) (B:Option Addr) (r:Nat),(j≤p.gp)∧(G=bO j p.gX)∧(abl G=j)∧(abl G≤r)∧V=p.gp-j∧Fr aS 191 [] [(30,vI j),(29,vI p.gp),(4,vP F 1),(3,vP F 0),(2,vP O 0),(0,vP g 0)]∧Mem W wS (abk B G r eO 198 2:: .blk g #[.slice (dA e d (4+2*(j-1))) (abl p.nums- (4+2*(j-1))) (d- (4+2*(j-1))),.bool (p.oF j)] 302:: abj e p.nums d bq 41 1:: .blk F #[vI (bE p.nx),vI p.cp,vQ p.cr,abh B G r,vN,vN,vN,vN] 50:: .blk O #[vI 0,vI 0,vQ 0,vN,vN,vN,vN,vN] 50::fs)) (m:=p.gp-0) ⟨0,[],none,0,abw _,rfl,rfl,abq _,rfl,Z.sub kr,b.pt 5 [0,1,2,3,4]⟩ ?_
 clear Z b;rintro V a w_ ⟨j,G,B,r,hj,hG,hGl,hGc,rfl,Z,b⟩
 refine Jb Z b ((JP∘Jp 1∘Jj∘JQ) (Ji (λhd31=>?_) λhd31=>?_))
 ·
  refine (JT∘aD∘JQ∘JB∘JP∘Jp 2∘aK∘Jr∘fu #[vI 0,vI 1]∘JA #[vI 0,vI 0]) λw6 g6=>(JV lq aT) λOj=>(aK∘Jj∘JQ∘JP∘Jp 2∘aK∘Jj) (Ji (λRF=>?_) λRF=>?_)
  ·
   have hgr:p.gX j=⟨bE (p.gs.getD (2*(j-1)) 0),bE (p.gs.getD (2*(j-1)+1) 0)⟩:=if_neg om
   refine (JT∘JR∘Jp 1∘JO (h:=by exact λb=>tu W _ g (4+2*(j-1)) e d p.nums (p.oF j) _ (b.pt 6 [2,3,0,1,4,5]) o om (x:=p.gs.getD (2*(j-1)) 0) (k2:=4+(2*(j-1)+1)) (o2:=p.oF j&&dle (p.gs.getD (2*(j-1)) 0) aA) (ZT h (j:=2*(j-1)) om) (rfl) (rfl) (rfl))) λDc=>(Jp 1∘JO (h:=by exact λb=>tu W _ g (4+(2*(j-1)+1)) e d p.nums (p.oF j&&dle (p.gs.getD (2*(j-1)) 0) aA) _ (b.pt 6 [0,1,2,3,4,5]) o om (x:=p.gs.getD (2*(j-1)+1) 0) (k2:=4+2*(j+1-1)) (o2:=(p.oF j&&dle (p.gs.getD (2*(j-1)) 0) aA)&&dle (p.gs.getD (2*(j-1)+1) 0) aA) (ZT h (j:=2*(j-1)+1) om) om (rfl) (rfl))) λLj=>(Jf 0∘JW iM aT) λRG=>(Jf 1∘JW iM fU) λanh=>(iE∘Jq∘JC (h:=by exact λb=>(show Mem W _ (.blk g #[.slice (dA e d (4+2*(j+1-1))) (abl p.nums- (4+2*(j+1-1))) (d- (4+2*(j+1-1))),.bool ((p.oF j&&dle (p.gs.getD (2*(j-1)) 0) aA)&&dle (p.gs.getD (2*(j-1)+1) 0) aA)] 302:: abj e p.nums d bq 41 1:: .blk g6 #[vI (bE (p.gs.getD (2*(j-1)) 0)),vI (bE (p.gs.getD (2*(j-1)+1) 0))] 198:: abk B G r eO 198 2:: .blk F #[vI (bE p.nx),vI p.cp,vQ p.cr,abh B G r,vN,vN,vN,vN] 50:: .blk O #[vI 0,vI 0,vQ 0,vN,vN,vN,vN,vN] 50::fs) from b))∘JG∘Vs (.t (.t (.t (.f .n)))) [12]) λqI=>(Vp [0,1]∘Vn 2∘Vf 3 0∘Vf 4 2∘Vc 5 O3∘qF 6 lq O2) λa Z b I=>?_
   refine s_on Z 7 rfl (iT Z b iO [(0,.agg #[vI (bE (p.gs.getD (2*(j-1)) 0)),vI (bE (p.gs.getD (2*(j-1)+1) 0))])] #[vI (bE (p.gs.getD (2*(j-1)) 0)),vI (bE (p.gs.getD (2*(j-1)+1) 0))] ?_)
   clear Z b;intro a Bv g49 Z b
   refine ay (b.pt 7 [1,2,3,5,6]) (λI=>?_)
   refine s_on Z 8 rfl (p9 Z b (i:=4) rfl iO rfl rfl rfl (news:=([(⟨bE (p.gs.getD (2*(j-1)) 0),bE (p.gs.getD (2*(j-1)+1) 0)⟩:Gr)].flatMap eO)) (b.aX (i:=0) (n:=1) (size:=2) rfl rfl) (FQ _) om om rfl de ?_)
   clear Z b;intro a VU Ch Ci Z b X
   refine ay (b.pt 7 [1,2,3,5,6]) (λI=>?_)
   refine Vb Z b I ((Vn 9∘Vf 10 0∘Vf 11 2) λa Z b I=>?_)
   refine s_on Z 12 rfl (fE Z b 5 λCj b=>?_)
   refine dJ kr ?_
   refine qd kr ?_
   have s:abl G+1=abl (G++[p.gX j]):=nk rfl
   rw [s] at X
   replace b:=b.aY (i:=4) (ys:=(G++[p.gX j]).flatMap eO) rfl s (by rw [hgr];exact List.flatMap_append.symm)
   replace Z:=Z.sp 50 (abh Ch (G++[p.gX j]) Ci) rfl (iy s)
   replace b:=b.dL (i:=5) (ds:= #[vI (bE p.nx),vI p.cp,vQ p.cr,abh Ch (G++[p.gX j]) Ci,vN,vN,vN,vN]) rfl (by rw [s];try rfl)
   refine Jb Z b ((JG∘JR∘bT 1∘Jp 1∘aK∘Jq) λa Z b=>?_)
   replace b:=b.dL (i:=1) (ds:= #[.slice (dA e d (4+2*(j+1-1))) (abl p.nums- (4+2*(j+1-1))) (d- (4+2*(j+1-1))),.bool (p.oF (j+1))]) rfl (by rw [zaz om])
   exact ⟨_,om,j+1,(G++[p.gX j]),Ch,Ci,by omega,by rw [hG,yt],by rw [abn,hGl];rfl,X,rfl,Z.sub kr,b.pt 7 [4,1,2,5,6]⟩
  have hgr:p.gX j=⟨0,1⟩:=if_pos om
  refine (JF∘aD∘Vs (.t (.f .n)) [12]) λqI=>(Vp [0,1]∘Vn 2∘Vf 3 0∘Vf 4 2∘Vc 5 O3∘qF 6 lq O0) λa Z b I=>?_
  refine s_on Z 7 rfl (iT Z b iO [(0,.agg #[vI 0,vI 1])] #[vI 0,vI 1] ?_)
  clear Z b;intro a Bv g49 Z b
  refine ay (b.pt 7 [1,3,4,5,6]) (λI=>?_)
  refine s_on Z 8 rfl (p9 Z b (i:=2) rfl iO rfl rfl rfl (news:=([(⟨0,1⟩:Gr)].flatMap eO)) (b.aX (i:=0) (n:=1) (size:=2) rfl rfl) (FQ _) om om rfl de ?_)
  clear Z b;intro a VU Ch Ci Z b X
  refine ay (b.pt 7 [1,3,4,5,6]) (λI=>?_)
  refine Vb Z b I ((Vn 9∘Vf 10 0∘Vf 11 2) λa Z b I=>?_)
  refine s_on Z 12 rfl (fE Z b 5 λCj b=>?_)
  refine dJ kr ?_
  refine qd kr ?_
  have s:abl G+1=abl (G++[p.gX j]):=nk rfl
  rw [s] at X
  replace b:=b.aY (i:=2) (ys:=(G++[p.gX j]).flatMap eO) rfl s (by rw [hgr];exact List.flatMap_append.symm)
  replace Z:=Z.sp 50 (abh Ch (G++[p.gX j]) Ci) rfl (iy s)
  replace b:=b.dL (i:=5) (ds:= #[vI (bE p.nx),vI p.cp,vQ p.cr,abh Ch (G++[p.gX j]) Ci,vN,vN,vN,vN]) rfl (by rw [s];try rfl)
  refine Jb Z b ((JG∘JR∘bT 1∘Jp 1∘aK∘Jq) λa Z b=>?_)
  replace b:=b.dL (i:=3) (ds:= #[.slice (dA e d (4+2*(j+1-1))) (abl p.nums- (4+2*(j+1-1))) (d- (4+2*(j+1-1))),.bool (p.oF (j+1))]) rfl (by rw [q54 om,show 4+2*(j+1-1)=4+2*(j-1) by omega])
  exact ⟨_,om,j+1,(G++[p.gX j]),Ch,Ci,by omega,by rw [hG,yt],by rw [abn,hGl];rfl,X,rfl,Z.sub kr,b.pt 7 [2,3,4,5,6]⟩
 refine (JF∘JX∘JG∘JQ∘JP∘Jp 1∘Jn∘Jf 0∘Jg 0 O3∘Jp 1∘Jq∘JC (h:=by exact λb=>b.nil 3 1)∘JC (h:=by exact λb=>b.dL (i:=2) (ds:= #[.slice (dA e d (p.oC+0)) (abl p.nums- (p.oC+0)) (d- (p.oC+0)),.bool (p.yu 0)]) rfl (by rw [show j=p.gp by omega];rfl))∘JG∘JB) λa Z b=>?_
 refine qg (λV aS wS=>∃(k:Nat) (C:List Int) (D:Option Addr) (cl:Nat),(k≤p.cp)∧(C=bO k λi=>bE (p.cl.getD i 0))∧(abl C=k)∧(abl C≤cl)∧V=p.cp-k∧Fr aS 191 [] [(60,vI k),(59,vI p.cp),(31,.bool false),(30,vI j),(29,vI p.gp),(4,vP F 1),(3,vP F 0),(2,vP O 0),(0,vP g 0)]∧Mem W wS (abj D C cl aP 3 1:: abk B G r eO 198 2:: .blk g #[.slice (dA e d (p.oC+k)) (abl p.nums- (p.oC+k)) (d- (p.oC+k)),.bool (p.yu k)] 302:: abj e p.nums d bq 41 1:: .blk F #[vI (bE p.nx),vI p.cp,vQ p.cr,abh B G r,abh D C cl,vN,vN,vN] 50:: .blk O #[vI 0,vI 0,vQ 0,vN,vN,vN,vN,vN] 50::fs)) (m:=p.cp-0) ⟨0,[],none,0,abw _,rfl,rfl,abq _,rfl,Z.sub kr,b.pt 6 [0,1,2,3,4,5]⟩ ?_
 clear Z b;rintro V a w_ ⟨k,C,D,cl,hk,hC,hCl,hCc,rfl,Z,b⟩
 refine Jb Z b ((JP∘Jp 1∘Jj∘JQ) (Ji (λBr=>?_) λBr=>?_))
 ·
  refine (JT∘aD∘JQ∘JB∘Vs (.f (.t (.f .n))) [11]) λBA=>(Vp [0,1,5]∘Vn 2∘Vf 3 3∘Vc 4 O2) λa Z b I=>?_
  refine s_on Z 6 rfl ?_
  refine EA Z [vP g 0] (tu W _ g (p.oC+k) e d p.nums (p.yu k) _ (b.pt 6 [2,3,0,1,4,5]) o om (x:=p.cl.getD k 0) (k2:=p.oC+(k+1)) (o2:=p.yu (k+1)) (zga h om) (rfl) (rfl) (rfl)) λLh b a Z=>?_
  refine ay (b.pt 6 [3,1,4,5]) (λI=>?_)
  refine s_on Z 7 rfl (iT Z b zu [(0,vI (bE (p.cl.getD k 0)))] #[vI (bE (p.cl.getD k 0))] ?_)
  clear Z b;intro a w69 g69 Z b
  refine ay (b.pt 7 [4,2,5,6]) (λI=>?_)
  refine s_on Z 8 rfl (p9 Z b (i:=3) rfl zu rfl rfl rfl (news:=([bE (p.cl.getD k 0)].map aP)) (b.aX (i:=0) (n:=1) (size:=1) rfl rfl) (Pg _) om om rfl de ?_)
  clear Z b;intro a w70 RH c70 Z b Hf
  refine ay (b.pt 7 [4,2,5,6]) (λI=>?_)
  refine Vb Z b I ((Vn 9∘Vf 10 3) λa Z b I=>?_)
  refine s_on Z 11 rfl (fE Z b 5 λRI b=>?_)
  refine dJ kr ?_
  refine qd kr ?_
  have P:abl C+1=abl (C++[bE (p.cl.getD k 0)]):=nk rfl
  rw [P] at Hf
  replace b:=b.aY (i:=3) (ys:=(C++[bE (p.cl.getD k 0)]).map aP) rfl P (by exact List.map_append.symm)
  replace Z:=Z.sp 70 (abh RH (C++[bE (p.cl.getD k 0)]) c70) rfl (iy P)
  replace b:=b.dL (i:=5) (ds:= #[vI (bE p.nx),vI p.cp,vQ p.cr,abh B G r,abh RH (C++[bE (p.cl.getD k 0)]) c70,vN,vN,vN]) rfl (by rw [P];try rfl)
  refine Jb Z b ((JG∘JR∘bT 1∘Jp 1∘aK∘Jq) λa Z b=>?_)
  exact ⟨_,om,k+1,(C++[bE (p.cl.getD k 0)]),RH,c70,by omega,by rw [hC,yt],by rw [abn,hCl];rfl,Hf,rfl,Z.sub kr,b.pt 7 [3,4,1,2,5,6]⟩
 refine (JF∘JX∘JG∘JQ∘JP∘Jp 1∘Jn∘Jf 0∘Jg 0 O4∘Jp 1∘Jq∘JC (h:=by exact λb=>b.nil 3 1)∘JC (h:=by exact λb=>b.dL (i:=3) (ds:= #[.slice (dA e d (p.oC+p.cp+0)) (abl p.nums- (p.oC+p.cp+0)) (d- (p.oC+p.cp+0)),.bool (p.vo 0)]) rfl (by rw [show k=p.cp by omega];rfl))∘JG∘JB) λa Z b=>?_
 refine qg (λV aS wS=>∃(u:Nat) (U:List Int) (E:Option Addr) (cu:Nat),(u≤p.cp)∧(U=bO u λi=>bE (p.cu.getD i 0))∧(abl U=u)∧(abl U≤cu)∧V=p.cp-u∧Fr aS 191 [] [(79,vI u),(78,vI p.cp),(61,.bool false),(60,vI k),(59,vI p.cp),(31,.bool false),(30,vI j),(29,vI p.gp),(4,vP F 1),(3,vP F 0),(2,vP O 0),(0,vP g 0)]∧Mem W wS (abj E U cu aP 3 1:: abj D C cl aP 3 1:: abk B G r eO 198 2:: .blk g #[.slice (dA e d (p.oC+p.cp+u)) (abl p.nums- (p.oC+p.cp+u)) (d- (p.oC+p.cp+u)),.bool (p.vo u)] 302:: abj e p.nums d bq 41 1:: .blk F #[vI (bE p.nx),vI p.cp,vQ p.cr,abh B G r,abh D C cl,abh E U cu,vN,vN] 50:: .blk O #[vI 0,vI 0,vQ 0,vN,vN,vN,vN,vN] 50::fs)) (m:=p.cp-0) ⟨0,[],none,0,abw _,rfl,rfl,abq _,rfl,Z.sub kr,b.pt 7 [0,1,2,3,4,5,6]⟩ ?_
 clear Z b;rintro V a w_ ⟨u,U,E,cu,hu,hU,hUl,hUc,rfl,Z,b⟩
 refine Jb Z b ((JP∘Jp 1∘Jj∘JQ) (Ji (λRJ=>?_) λRJ=>?_))
 ·
  refine (JT∘aD∘JQ∘JB∘Vs (.f (.t (.t (.f .n)))) [11]) λQf=>(Vp [0,1,5]∘Vn 2∘Vf 3 4∘Vc 4 O3) λa Z b I=>?_
  refine s_on Z 6 rfl ?_
  refine EA Z [vP g 0] (tu W _ g (p.oC+p.cp+u) e d p.nums (p.vo u) _ (b.pt 7 [3,4,0,1,2,5,6]) o om (x:=p.cu.getD u 0) (k2:=p.oC+p.cp+(u+1)) (o2:=p.vo (u+1)) (zgb h om) (rfl) (rfl) (rfl)) λLm b a Z=>?_
  refine ay (b.pt 7 [3,4,1,5,6]) (λI=>?_)
  refine s_on Z 7 rfl (iT Z b zu [(0,vI (bE (p.cu.getD u 0)))] #[vI (bE (p.cu.getD u 0))] ?_)
  clear Z b;intro a w88 RL Z b
  refine ay (b.pt 8 [4,5,2,6,7]) (λI=>?_)
  refine s_on Z 8 rfl (p9 Z b (i:=3) rfl zu rfl rfl rfl (news:=([bE (p.cu.getD u 0)].map aP)) (b.aX (i:=0) (n:=1) (size:=1) rfl rfl) (Pg _) om om rfl de ?_)
  clear Z b;intro a Qc LZ L6 Z b Ck
  refine ay (b.pt 8 [4,5,2,6,7]) (λI=>?_)
  refine Vb Z b I ((Vn 9∘Vf 10 4) λa Z b I=>?_)
  refine s_on Z 11 rfl (fE Z b 6 λRN b=>?_)
  refine dJ kr ?_
  refine qd kr ?_
  have Q:abl U+1=abl (U++[bE (p.cu.getD u 0)]):=nk rfl
  rw [Q] at Ck
  replace b:=b.aY (i:=3) (ys:=(U++[bE (p.cu.getD u 0)]).map aP) rfl Q (by exact List.map_append.symm)
  replace Z:=Z.sp 89 (abh LZ (U++[bE (p.cu.getD u 0)]) L6) rfl (iy Q)
  replace b:=b.dL (i:=6) (ds:= #[vI (bE p.nx),vI p.cp,vQ p.cr,abh B G r,abh D C cl,abh LZ (U++[bE (p.cu.getD u 0)]) L6,vN,vN]) rfl (by rw [Q];try rfl)
  refine Jb Z b ((JG∘JR∘bT 1∘Jp 1∘aK∘Jq) λa Z b=>?_)
  exact ⟨_,om,u+1,(U++[bE (p.cu.getD u 0)]),LZ,L6,by omega,by rw [hU,yt],by rw [abn,hUl];rfl,Ck,rfl,Z.sub kr,b.pt 8 [3,4,5,1,2,6,7]⟩
 refine (JF∘JX∘JG∘JP∘Jp 1∘Jq∘JC (h:=by exact λb=>b.dL (i:=3) (ds:= #[.slice (dA e d p.oT) (abl p.nums-p.oT) (d-p.oT),.bool (p.vo p.cp)]) rfl (by rw [show u=p.cp by omega,show p.oC+p.cp+p.cp=p.oT by omega]))∘JG∘JQ∘JP∘Jp 1∘JO (h:=by exact λb=>tu W _ g p.oT e d p.nums (p.vo p.cp) _ (b.pt 7 [3,4,0,1,2,5,6]) o om (x:=p.tk) (k2:=p.oT+1+8*0) (o2:=p.jA 0) (zgc h) (rfl) (rfl) (Ri om))) λw94=>(Jp 1∘Jq∘JC (h:=by exact λb=>b.nil 232 8)∘JG∘JB) λa Z b=>?_
 refine qg (λV aS wS=>∃(i:Nat) (T:List Tk) (At:Option Addr) (H:Nat),(i≤p.tk)∧(T=bO i p.sG)∧(abl T=i)∧(abl T≤H)∧V=p.tk-i∧Fr aS 191 [] [(95,vI i),(94,vI p.tk),(7,vI (p.rC i)),(80,.bool false),(79,vI u),(78,vI p.cp),(61,.bool false),(60,vI k),(59,vI p.cp),(31,.bool false),(30,vI j),(29,vI p.gp),(4,vP F 1),(3,vP F 0),(2,vP O 0),(0,vP g 0)]∧Mem W wS (abk At T H bI 232 8:: .blk g #[.slice (dA e d (p.oT+1+8*i)) (abl p.nums- (p.oT+1+8*i)) (d- (p.oT+1+8*i)),.bool (p.jA i)] 302:: abj e p.nums d bq 41 1:: abj E U cu aP 3 1:: abj D C cl aP 3 1:: abk B G r eO 198 2:: .blk F #[vI (bE p.nx),vI p.cp,vQ p.cr,abh B G r,abh D C cl,abh E U cu,abh At T H,vN] 50:: .blk O #[vI 0,vI 0,vQ 0,vN,vN,vN,vN,vN] 50::fs)) (m:=p.tk-0) ⟨0,[],none,0,abw _,rfl,rfl,abq _,rfl,Z.sub kr,b.pt 8 [0,1,2,3,4,5,6,7]⟩ ?_
 clear Z b;rintro V a w_ ⟨i,T,At,H,hi,hT,hTl,hTc,rfl,Z,b⟩
 refine Jb Z b ((JP∘Jp 1∘Jj∘JQ) (Ji (λhd96=>?_) λhd96=>?_))
 ·
  refine (JT∘aD∘JQ∘JB∘JP∘Jp 2∘JO (h:=by exact λb=>tu W _ g (p.oT+1+8*i) e d p.nums (p.jA i) _ (b.pt 8 [1,2,0,3,4,5,6,7]) o om (x:=p.tn i 0) (k2:=p.oT+1+(8*i+1)) (o2:=p.jA i&&dle (p.tn i 0) aA) (zS h (j:=8*i) om) (rfl) (rfl) (rfl))) λw99=>(Jp 1∘Jo (vI (p.lF i)) (by exact rfl)∘Jp 1∘gu∘Jr∘Jp 2∘JO (h:=by exact λb=>tu W _ g (p.oT+1+(8*i+1)) e d p.nums (p.jA i&&dle (p.tn i 0) aA) _ (b.pt 8 [0,1,2,3,4,5,6,7]) o om (x:=p.tn i 1) (k2:=p.oT+1+(8*i+2)) (o2:=(p.jA i&&dle (p.tn i 0) aA)&&dle (p.tn i 1) aA) (zS h (j:=8*i+1) om) (rfl) (rfl) (rfl))) λRO=>(Jp 1∘JO (h:=by exact λb=>tu W _ g (p.oT+1+(8*i+2)) e d p.nums ((p.jA i&&dle (p.tn i 0) aA)&&dle (p.tn i 1) aA) _ (b.pt 8 [0,1,2,3,4,5,6,7]) o om (x:=p.tn i 2) (k2:=p.oT+1+(8*i+3)) (o2:=((p.jA i&&dle (p.tn i 0) aA)&&dle (p.tn i 1) aA)&&dle (p.tn i 2) aA) (zS h (j:=8*i+2) om) (rfl) (rfl) (rfl))) λGt=>(Jp 1∘JO (h:=by exact λb=>tu W _ g (p.oT+1+(8*i+3)) e d p.nums (((p.jA i&&dle (p.tn i 0) aA)&&dle (p.tn i 1) aA)&&dle (p.tn i 2) aA) _ (b.pt 8 [0,1,2,3,4,5,6,7]) o om (x:=p.tn i 3) (k2:=p.oT+1+(8*i+4)) (o2:=(((p.jA i&&dle (p.tn i 0) aA)&&dle (p.tn i 1) aA)&&dle (p.tn i 2) aA)&&dle (p.tn i 3) aA) (zS h (j:=8*i+3) om) (rfl) (rfl) (rfl))) λanq=>(Jp 1∘JO (h:=by exact λb=>yE 18446744073709551615 W _ g (p.oT+1+(8*i+4)) e d p.nums ((((p.jA i&&dle (p.tn i 0) aA)&&dle (p.tn i 1) aA)&&dle (p.tn i 2) aA)&&dle (p.tn i 3) aA) _ (b.pt 8 [0,1,2,3,4,5,6,7]) o om (x:=p.tn i 4) (k2:=p.oT+1+(8*i+5)) (o2:=((((p.jA i&&dle (p.tn i 0) aA)&&dle (p.tn i 1) aA)&&dle (p.tn i 2) aA)&&dle (p.tn i 3) aA)&&dle (p.tn i 4) 18446744073709551615) (zS h (j:=8*i+4) om) (rfl) (rfl))) λQE=>(fu #[vI (p.lF i),vI (bE (p.tn i 1)),vI (bE (p.tn i 2)),vI (bE (p.tn i 3)),vQ (p.tn i 4),.bool false,vQ 0,vW 0]∘JA #[vI 0,vI 0,vI 0,vI 0,vQ 0,.bool false,vQ 0,vW 0]) λw8 g8=>(JV eU aT) λRP=>(aG∘Jq∘JC (h:=by exact λb=>(show Mem W _ (.blk g8 #[vI (p.lF i),vI (bE (p.tn i 1)),vI (bE (p.tn i 2)),vI (bE (p.tn i 3)),vQ (p.tn i 4),.bool false,vQ 0,vW 0] 232:: .blk g #[.slice (dA e d (p.oT+1+(8*i+5))) (abl p.nums- (p.oT+1+(8*i+5))) (d- (p.oT+1+(8*i+5))),.bool (((((p.jA i&&dle (p.tn i 0) aA)&&dle (p.tn i 1) aA)&&dle (p.tn i 2) aA)&&dle (p.tn i 3) aA)&&dle (p.tn i 4) 18446744073709551615)] 302:: abj e p.nums d bq 41 1:: abk At T H bI 232 8:: abj E U cu aP 3 1:: abj D C cl aP 3 1:: abk B G r eO 198 2:: .blk F #[vI (bE p.nx),vI p.cp,vQ p.cr,abh B G r,abh D C cl,abh E U cu,abh At T H,vN] 50:: .blk O #[vI 0,vI 0,vQ 0,vN,vN,vN,vN,vN] 50::fs) from b))∘JG∘JP∘Jp 1∘JO (h:=by exact λb=>yE 1 W _ g (p.oT+1+(8*i+5)) e d p.nums (((((p.jA i&&dle (p.tn i 0) aA)&&dle (p.tn i 1) aA)&&dle (p.tn i 2) aA)&&dle (p.tn i 3) aA)&&dle (p.tn i 4) 18446744073709551615) _ (b.pt 9 [1,2,0,3,4,5,6,7,8]) o om (x:=p.tn i 5) (k2:=p.oT+1+(8*i+6)) (o2:=(((((p.jA i&&dle (p.tn i 0) aA)&&dle (p.tn i 1) aA)&&dle (p.tn i 2) aA)&&dle (p.tn i 3) aA)&&dle (p.tn i 4) 18446744073709551615)&&dle (p.tn i 5) 1) (zS h (j:=8*i+5) om) (rfl) (rfl))) λanr=>(Jp 1∘Jo (.bool (decide (p.tn i 5=1))) (by exact congrArg Value.bool (zgn _))∘Jp 1∘JO (h:=by exact λb=>yE 18446744073709551615 W _ g (p.oT+1+(8*i+6)) e d p.nums ((((((p.jA i&&dle (p.tn i 0) aA)&&dle (p.tn i 1) aA)&&dle (p.tn i 2) aA)&&dle (p.tn i 3) aA)&&dle (p.tn i 4) 18446744073709551615)&&dle (p.tn i 5) 1) _ (b.pt 9 [0,1,2,3,4,5,6,7,8]) o om (x:=p.tn i 6) (k2:=p.oT+1+(8*i+7)) (o2:=((((((p.jA i&&dle (p.tn i 0) aA)&&dle (p.tn i 1) aA)&&dle (p.tn i 2) aA)&&dle (p.tn i 3) aA)&&dle (p.tn i 4) 18446744073709551615)&&dle (p.tn i 5) 1)&&dle (p.tn i 6) 18446744073709551615) (zS h (j:=8*i+6) om) (rfl) (rfl))) λQF=>(Jp 1∘JO (h:=by exact λb=>yE 4294967295 W _ g (p.oT+1+(8*i+7)) e d p.nums (((((((p.jA i&&dle (p.tn i 0) aA)&&dle (p.tn i 1) aA)&&dle (p.tn i 2) aA)&&dle (p.tn i 3) aA)&&dle (p.tn i 4) 18446744073709551615)&&dle (p.tn i 5) 1)&&dle (p.tn i 6) 18446744073709551615) _ (b.pt 9 [0,1,2,3,4,5,6,7,8]) o om (x:=p.tn i 7) (k2:=p.oT+1+8*(i+1)) (o2:=(((((((p.jA i&&dle (p.tn i 0) aA)&&dle (p.tn i 1) aA)&&dle (p.tn i 2) aA)&&dle (p.tn i 3) aA)&&dle (p.tn i 4) 18446744073709551615)&&dle (p.tn i 5) 1)&&dle (p.tn i 6) 18446744073709551615)&&dle (p.tn i 7) 4294967295) (zS h (j:=8*i+7) om) om (rfl))) λant=>(Jv 1 [(118,vW (IntKind.u32.wrap (p.tn i 7:Int)))]∘Jo (vW ((p.tn i 7)%4294967296:Nat)) (by exact Us (p.tn i 7))∘Jf 5∘JW iM tX) λaaD=>(Jf 6∘JW iM xA) λRQ=>(Jf 7∘JW iM xB) λRS=>(iE∘Jq∘JC (h:=by exact λb=>(show Mem W _ (.blk g #[.slice (dA e d (p.oT+1+8*(i+1))) (abl p.nums- (p.oT+1+8*(i+1))) (d- (p.oT+1+8*(i+1))),.bool ((((((((p.jA i&&dle (p.tn i 0) aA)&&dle (p.tn i 1) aA)&&dle (p.tn i 2) aA)&&dle (p.tn i 3) aA)&&dle (p.tn i 4) 18446744073709551615)&&dle (p.tn i 5) 1)&&dle (p.tn i 6) 18446744073709551615)&&dle (p.tn i 7) 4294967295)] 302:: abj e p.nums d bq 41 1:: .blk g8 #[vI (p.lF i),vI (bE (p.tn i 1)),vI (bE (p.tn i 2)),vI (bE (p.tn i 3)),vQ (p.tn i 4),.bool (decide (p.tn i 5=1)),vQ (p.tn i 6),vW ((p.tn i 7)%4294967296:Nat)] 232:: abk At T H bI 232 8:: abj E U cu aP 3 1:: abj D C cl aP 3 1:: abk B G r eO 198 2:: .blk F #[vI (bE p.nx),vI p.cp,vQ p.cr,abh B G r,abh D C cl,abh E U cu,abh At T H,vN] 50:: .blk O #[vI 0,vI 0,vQ 0,vN,vN,vN,vN,vN] 50::fs) from b))) λa Z b=>?_
  refine wp_seq ?_
  refine Jb Z b ((Vs (.t (.t (.t (.f .n)))) [10]) λanu=>(Vp [0,1]∘Vn 2∘Vf 3 5∘Vc 4 O6∘qF 5 eU O2) λa Z b I=>?_)
  refine s_on Z 6 rfl (iT Z b bW [(0,.agg #[vI (p.lF i),vI (bE (p.tn i 1)),vI (bE (p.tn i 2)),vI (bE (p.tn i 3)),vQ (p.tn i 4),.bool (decide (p.tn i 5=1)),vQ (p.tn i 6),vW ((p.tn i 7)%4294967296:Nat)])] #[vI (p.lF i),vI (bE (p.tn i 1)),vI (bE (p.tn i 2)),vI (bE (p.tn i 3)),vQ (p.tn i 4),.bool (decide (p.tn i 5=1)),vQ (p.tn i 6),vW ((p.tn i 7)%4294967296:Nat)] ?_)
  clear Z b;intro a anv anw Z b
  refine ay (b.pt 10 [1,2,3,5,6,7,8,9]) (λI=>?_)
  refine s_on Z 7 rfl (p9 Z b (i:=4) rfl bW rfl rfl rfl (news:=([p.sG i].flatMap bI)) (b.aX (i:=0) (n:=1) (size:=8) rfl rfl) (FR _) om om rfl de ?_)
  clear Z b;intro a anx yF yG Z b vH
  refine ay (b.pt 10 [1,2,3,5,6,7,8,9]) (λI=>?_)
  refine Vb Z b I ((Vn 8∘Vf 9 5) λa Z b I=>?_)
  refine s_on Z 10 rfl (fE Z b 8 λRU b=>?_)
  refine dJ kr ?_
  refine qd kr ?_
  have M:abl T+1=abl (T++[p.sG i]):=nk rfl
  rw [M] at vH
  replace b:=b.aY (i:=4) (ys:=(T++[p.sG i]).flatMap bI) rfl M (by exact List.flatMap_append.symm)
  replace Z:=Z.sp 129 (abh yF (T++[p.sG i]) yG) rfl (iy M)
  replace b:=b.dL (i:=8) (ds:= #[vI (bE p.nx),vI p.cp,vQ p.cr,abh B G r,abh D C cl,abh E U cu,abh yF (T++[p.sG i]) yG,vN]) rfl (by rw [M];try rfl)
  refine Jb Z b ((JP∘Jp 2∘Jn∘Jg 1 O1∘Jp 1) (Ju (λvJ=>?_) λvJ=>?_))
  ·
   refine (Jp 3∘Jn∘Jf 1∘JW fU fU) λCm=>(iE∘Jj∘JR∘Jp 1∘Jy (v:=vI (if (65535:Int)<(p.lF i:Int) then 65535 else p.lF i)) (h:=by exact Yl.min rfl rfl rfl)∘Jo (vI (p.rC (i+1))) (by exact rfl)∘Jp 1∘aG∘Jj∘JR∘bT 1∘Jp 1∘aK∘Jq) λa Z b=>?_
   replace b:=b.dL (i:=1) (ds:= #[.slice (dA e d (p.oT+1+8*(i+1))) (abl p.nums- (p.oT+1+8*(i+1))) (d- (p.oT+1+8*(i+1))),.bool (p.jA (i+1))]) rfl (by rw [show p.jA (i+1)=(((((((((p.jA i&&dle (p.tn i 0) aA)&&dle (p.tn i 1) aA)&&dle (p.tn i 2) aA)&&dle (p.tn i 3) aA)&&dle (p.tn i 4) 18446744073709551615)&&dle (p.tn i 5) 1)&&dle (p.tn i 6) 18446744073709551615)&&dle (p.tn i 7) 4294967295)&&decide (p.lF i≤65535)) from rfl,vJ];rfl)
   exact ⟨_,om,i+1,(T++[p.sG i]),yF,yG,by omega,by rw [hT,yt],by rw [abn,hTl];rfl,vH,rfl,Z.sub kr,b.pt 10 [4,1,2,5,6,7,8,9]⟩
  refine (Jp 3∘Jn∘Jf 1∘JW fU fU) λCm=>(iE∘Jj∘JR∘Jp 1∘Jy (v:=vI (if (65535:Int)<(p.lF i:Int) then 65535 else p.lF i)) (h:=by exact Yl.min rfl rfl rfl)∘Jo (vI (p.rC (i+1))) (by exact rfl)∘Jp 1∘aG∘Jj∘JR∘bT 1∘Jp 1∘aK∘Jq) λa Z b=>?_
  replace b:=b.dL (i:=1) (ds:= #[.slice (dA e d (p.oT+1+8*(i+1))) (abl p.nums- (p.oT+1+8*(i+1))) (d- (p.oT+1+8*(i+1))),.bool (p.jA (i+1))]) rfl (by rw [show p.jA (i+1)=(((((((((p.jA i&&dle (p.tn i 0) aA)&&dle (p.tn i 1) aA)&&dle (p.tn i 2) aA)&&dle (p.tn i 3) aA)&&dle (p.tn i 4) 18446744073709551615)&&dle (p.tn i 5) 1)&&dle (p.tn i 6) 18446744073709551615)&&dle (p.tn i 7) 4294967295)&&decide (p.lF i≤65535)) from rfl,vJ];rfl)
  exact ⟨_,om,i+1,(T++[p.sG i]),yF,yG,by omega,by rw [hT,yt],by rw [abn,hTl];rfl,vH,rfl,Z.sub kr,b.pt 10 [4,1,2,5,6,7,8,9]⟩
 refine (JF∘JX∘JG∘JQ∘JP∘Jp 1∘Jn∘Jf 0∘Jg 2 O6∘Jl∘Jp 1∘Jq∘JC (h:=by exact λb=>b.dL (i:=1) (ds:= #[.slice (dA e d (p.oS+p.so 0 0)) (abl p.nums- (p.oS+p.so 0 0)) (d- (p.oS+p.so 0 0)),.bool (p.mD 0)]) rfl (by rw [show i=p.tk by omega];rfl))∘JC (h:=by exact λb=>b.nil 176 1)∘JC (h:=by exact λb=>b.nQ 200 3)∘JC (h:=by exact λb=>(show Mem W _ (.row (vN) 0 [] 176 1:: abk At T H bI 232 8:: .blk g #[.slice (dA e d (p.oS+p.so 0 0)) (abl p.nums- (p.oS+p.so 0 0)) (d- (p.oS+p.so 0 0)),.bool (p.mD 0)] 302:: abj e p.nums d bq 41 1:: abj E U cu aP 3 1:: abj D C cl aP 3 1:: abk B G r eO 198 2:: .blk F #[vI (bE p.nx),vI p.cp,vQ p.cr,abh B G r,abh D C cl,abh E U cu,abh At T H,vN] 50:: .blk O #[vI 0,vI 0,vQ 0,vN,vN,vN,vN,vN] 50::(fs++(kI 200 []))) from b))∘JG∘JB) λa Z b=>?_
 refine qg (λV aS wS=>∃(y:Nat) (z:List Rw) (As:Option Addr) (cs:Nat),(y≤abl G)∧(abl z=y)∧(z.map Rw.l=bO y p.row)∧(∀q∈z,abl q.l≤q.c)∧(abl z≤cs)∧V=abl G-y∧Fr aS 191 [] [(152,vI y),(151,vI (abl G)),(96,.bool false),(95,vI i),(94,vI p.tk),(7,vI (p.rC i)),(80,.bool false),(79,vI u),(78,vI p.cp),(61,.bool false),(60,vI k),(59,vI p.cp),(31,.bool false),(30,vI j),(29,vI p.gp),(4,vP F 1),(3,vP F 0),(2,vP O 0),(0,vP g 0)]∧Mem W wS (abj As z cs aac 176 1:: abk At T H bI 232 8:: .blk g #[.slice (dA e d (p.oS+p.so y 0)) (abl p.nums- (p.oS+p.so y 0)) (d- (p.oS+p.so y 0)),.bool (p.mD y)] 302:: abj e p.nums d bq 41 1:: abj E U cu aP 3 1:: abj D C cl aP 3 1:: abk B G r eO 198 2:: .blk F #[vI (bE p.nx),vI p.cp,vQ p.cr,abh B G r,abh D C cl,abh E U cu,abh At T H,abh As z cs] 50:: .blk O #[vI 0,vI 0,vQ 0,vN,vN,vN,vN,vN] 50::(fs++(kI 200 z)))) (m:=abl G-0) ⟨0,[],none,0,abw _,rfl,rfl,(λq h=>by cases h),abq _,rfl,Z.sub kr,b.pt 9 [0,1,2,3,4,5,6,7,8]⟩ ?_
 clear Z b;rintro V a w_ ⟨y,z,As,cs,hy,hzl,hz,hzc,hcs,rfl,Z,b⟩
 refine Jb Z b ((JP∘Jp 1∘Jj∘JQ) (Ji (λhd153=>?_) λhd153=>?_))
 ·
  have hyg:y<p.gp:=by omega
  refine (JT∘aD∘JQ∘JB∘JP∘Jp 2∘aK∘Jr∘Jp 1∘Jq∘JC (h:=by exact λb=>b.nil 200 3)∘JG∘JQ∘JP∘Jp 1∘Jn∘Jf 0∘Jg 0 O8∘Jp 1∘Jj∘JB) λa Z b=>?_
  refine qg (λV aS wS=>∃(x:Nat) (R:List Sp) (J:Option Addr) (cr:Nat),(x≤p.cp)∧(R=bO x (p.qO y))∧(abl R=x)∧(abl R≤cr)∧V=p.cp-x∧Fr aS 191 [] [(160,vI x),(159,vI p.cp),(10,abh J R cr),(9,vI y),(153,.bool true),(152,vI y),(151,vI (abl G)),(96,.bool false),(95,vI i),(94,vI p.tk),(7,vI (p.rC i)),(80,.bool false),(79,vI u),(78,vI p.cp),(61,.bool false),(60,vI k),(59,vI p.cp),(31,.bool false),(30,vI j),(29,vI p.gp),(4,vP F 1),(3,vP F 0),(2,vP O 0),(0,vP g 0)]∧Mem W wS (abk J R cr iQ 200 3:: abj As z cs aac 176 1:: abk At T H bI 232 8:: .blk g #[.slice (dA e d (p.oS+p.so y x)) (abl p.nums- (p.oS+p.so y x)) (d- (p.oS+p.so y x)),.bool (p.lG (p.mD y) y x)] 302:: abj e p.nums d bq 41 1:: abj E U cu aP 3 1:: abj D C cl aP 3 1:: abk B G r eO 198 2:: .blk F #[vI (bE p.nx),vI p.cp,vQ p.cr,abh B G r,abh D C cl,abh E U cu,abh At T H,abh As z cs] 50:: .blk O #[vI 0,vI 0,vQ 0,vN,vN,vN,vN,vN] 50::(fs++(kI 200 z)))) (m:=p.cp-0) ⟨0,[],none,0,abw _,rfl,rfl,abq _,rfl,Z.sub kr,b.pt 10 [0,1,2,3,4,5,6,7,8,9]⟩ ?_
  clear Z b;rintro V a w_ ⟨x,R,J,cr,hx,hR,hRl,hRc,rfl,Z,b⟩
  refine Jb Z b ((JP∘Jp 1∘Jj∘JQ) (Ji (λHg=>?_) λHg=>?_))
  ·
   have hxc:x<p.cp:=by omega
   have hin:=GN h hyg hxc
   refine (JT∘aD∘JQ∘JB∘JP∘JA #[vQ 0,vW 0,vQ 0]) λwK g11=>(Jj∘JQ∘JP∘Jp 2∘aK∘Jj) (Ji (λHl=>?_) λHl=>?_)
   ·
    rw [if_neg om] at hin
    have hsp:p.qO y x=⟨p.sn y x 0,p.sn y x 1%4294967296,p.sn y x 2⟩:=if_neg om
    refine (JT∘JR∘Jp 1∘JO (h:=by exact λb=>yE 18446744073709551615 W _ g (p.oS+p.so y x) e d p.nums (p.lG (p.mD y) y x) _ (b.pt 11 [4,5,0,1,2,3,6,7,8,9,10]) o om (x:=p.sn y x 0) (k2:=p.oS+(p.so y x+1)) (o2:=p.lG (p.mD y) y x&&dle (p.sn y x 0) 18446744073709551615) (LG h (p.so y x)) (rfl) (rfl))) λanA=>(Jp 1∘JO (h:=by exact λb=>yE 4294967295 W _ g (p.oS+(p.so y x+1)) e d p.nums (p.lG (p.mD y) y x&&dle (p.sn y x 0) 18446744073709551615) _ (b.pt 11 [0,1,2,3,4,5,6,7,8,9,10]) o om (x:=p.sn y x 1) (k2:=p.oS+(p.so y x+2)) (o2:=(p.lG (p.mD y) y x&&dle (p.sn y x 0) 18446744073709551615)&&dle (p.sn y x 1) 4294967295) (LG h (p.so y x+1)) (rfl) (rfl))) λanB=>(Jv 1 [(168,vW (IntKind.u32.wrap (p.sn y x 1:Int)))]∘Jo (vW ((p.sn y x 1)%4294967296:Nat)) (by exact Us (p.sn y x 1))∘Jf 0∘JW iM aT) λaaE=>(Jf 1∘JW iM fU) λaaF=>(iE∘Jq∘JC (h:=by exact λb=>(show Mem W _ (.blk g #[.slice (dA e d (p.oS+(p.so y x+2))) (abl p.nums- (p.oS+(p.so y x+2))) (d- (p.oS+(p.so y x+2))),.bool ((p.lG (p.mD y) y x&&dle (p.sn y x 0) 18446744073709551615)&&dle (p.sn y x 1) 4294967295)] 302:: abj e p.nums d bq 41 1:: .blk g11 #[vQ (p.sn y x 0),vW ((p.sn y x 1)%4294967296:Nat),vQ 0] 200:: abk J R cr iQ 200 3:: abj As z cs aac 176 1:: abk At T H bI 232 8:: abj E U cu aP 3 1:: abj D C cl aP 3 1:: abk B G r eO 198 2:: .blk F #[vI (bE p.nx),vI p.cp,vQ p.cr,abh B G r,abh D C cl,abh E U cu,abh At T H,abh As z cs] 50:: .blk O #[vI 0,vI 0,vQ 0,vN,vN,vN,vN,vN] 50::(fs++(kI 200 z))) from b))∘JG∘JP∘Jp 1∘JO (h:=by exact λb=>yE 18446744073709551615 W _ g (p.oS+(p.so y x+2)) e d p.nums ((p.lG (p.mD y) y x&&dle (p.sn y x 0) 18446744073709551615)&&dle (p.sn y x 1) 4294967295) _ (b.pt 11 [0,1,2,3,4,5,6,7,8,9,10]) o om (x:=p.sn y x 2) (k2:=p.oS+p.so y (x+1)) (o2:=p.lG (p.mD y) y (x+1)) (LG h (p.so y x+2)) (by rw [G8 om];rfl) ((He om).symm))) λRV=>(Jf 2∘JW iM iM) λHo=>(wI∘Jq∘JC (h:=by exact λb=>(show Mem W _ (.blk g #[.slice (dA e d (p.oS+p.so y (x+1))) (abl p.nums- (p.oS+p.so y (x+1))) (d- (p.oS+p.so y (x+1))),.bool (p.lG (p.mD y) y (x+1))] 302:: abj e p.nums d bq 41 1:: .blk g11 #[vQ (p.sn y x 0),vW ((p.sn y x 1)%4294967296:Nat),vQ (p.sn y x 2)] 200:: abk J R cr iQ 200 3:: abj As z cs aac 176 1:: abk At T H bI 232 8:: abj E U cu aP 3 1:: abj D C cl aP 3 1:: abk B G r eO 198 2:: .blk F #[vI (bE p.nx),vI p.cp,vQ p.cr,abh B G r,abh D C cl,abh E U cu,abh At T H,abh As z cs] 50:: .blk O #[vI 0,vI 0,vQ 0,vN,vN,vN,vN,vN] 50::(fs++(kI 200 z))) from b))∘JG∘JR∘Jp 1∘d9 nI O2∘JU lu #[vQ (p.sn y x 0),vW ((p.sn y x 1)%4294967296:Nat),vQ (p.sn y x 2)]) λRX RY=>(JD ([(⟨p.sn y x 0,p.sn y x 1%4294967296,p.sn y x 2⟩:Sp)].flatMap iQ) 4 (λ_ _=>rW) lu (hr:=by exact λb=>b.aX (i:=0) (n:=1) (size:=3) rfl rfl) (h1:=by exact Pf _)) λRZ Y vK N=>(Jp 1∘gu∘Jq) ?_
    have A:abl R+1=abl (R++[p.qO y x]):=nk rfl
    rw [A] at N
    refine (JC (h:=by exact λb=>b.aY (i:=4) (ys:=(R++[p.qO y x]).flatMap iQ) rfl A (by rw [hsp];exact List.flatMap_append.symm))∘Jk 10 (.slice Y (abl (R++[p.qO y x])) vK) (h:=by exact iy A)∘JG∘JR∘bT 1∘Jp 1∘aK∘Jq) λa Z b=>?_
    exact ⟨_,om,x+1,(R++[p.qO y x]),Y,vK,by omega,by rw [hR,yt],by rw [abn,hRl];rfl,N,rfl,Z.sub kr,b.pt 12 [4,5,6,1,2,7,8,9,10,11]⟩
   rw [if_pos om] at hin
   have hsp:p.qO y x=⟨0,0,p.sn y x 0⟩:=if_pos om
   refine (JF∘aD∘JP∘Jp 1∘JO (h:=by exact λb=>yE 18446744073709551615 W _ g (p.oS+p.so y x) e d p.nums (p.lG (p.mD y) y x) _ (b.pt 11 [4,5,0,1,2,3,6,7,8,9,10]) o om (x:=p.sn y x 0) (k2:=p.oS+p.so y (x+1)) (o2:=p.lG (p.mD y) y (x+1)) (LG h (p.so y x)) (by rw [G7 om];rfl) ((G9 om).symm))) λRV=>(Jf 2∘JW iM iM) λHo=>(ow∘Jq∘JC (h:=by exact λb=>(show Mem W _ (.blk g #[.slice (dA e d (p.oS+p.so y (x+1))) (abl p.nums- (p.oS+p.so y (x+1))) (d- (p.oS+p.so y (x+1))),.bool (p.lG (p.mD y) y (x+1))] 302:: abj e p.nums d bq 41 1:: .blk g11 #[vQ 0,vW 0,vQ (p.sn y x 0)] 200:: abk J R cr iQ 200 3:: abj As z cs aac 176 1:: abk At T H bI 232 8:: abj E U cu aP 3 1:: abj D C cl aP 3 1:: abk B G r eO 198 2:: .blk F #[vI (bE p.nx),vI p.cp,vQ p.cr,abh B G r,abh D C cl,abh E U cu,abh At T H,abh As z cs] 50:: .blk O #[vI 0,vI 0,vQ 0,vN,vN,vN,vN,vN] 50::(fs++(kI 200 z))) from b))∘JG∘JR∘Jp 1∘d9 nI O2∘JU lu #[vQ 0,vW 0,vQ (p.sn y x 0)]) λRX RY=>(JD ([(⟨0,0,p.sn y x 0⟩:Sp)].flatMap iQ) 4 (λ_ _=>rW) lu (hr:=by exact λb=>b.aX (i:=0) (n:=1) (size:=3) rfl rfl) (h1:=by exact Pf _)) λRZ Y vK N=>(Jp 1∘gu∘Jq) ?_
   have A:abl R+1=abl (R++[p.qO y x]):=nk rfl
   rw [A] at N
   refine (JC (h:=by exact λb=>b.aY (i:=4) (ys:=(R++[p.qO y x]).flatMap iQ) rfl A (by rw [hsp];exact List.flatMap_append.symm))∘Jk 10 (.slice Y (abl (R++[p.qO y x])) vK) (h:=by exact iy A)∘JG∘JR∘bT 1∘Jp 1∘aK∘Jq) λa Z b=>?_
   exact ⟨_,om,x+1,(R++[p.qO y x]),Y,vK,by omega,by rw [hR,yt],by rw [abn,hRl];rfl,N,rfl,Z.sub kr,b.pt 12 [4,5,6,1,2,7,8,9,10,11]⟩
  refine (JF∘JX∘JG∘JR∘Jp 2∘Jn∘Jg 6 O8∘Jp 1∘JU nJ #[abh J R cr]) λanC anD=>(JD ([(⟨J,cr,R⟩:Rw)].map aac) 2 (λ_ _=>iM) nJ (hr:=by exact λb=>b.aX (i:=0) (n:=1) (size:=1) rfl rfl) (h1:=by exact XU _)) λanE K L Ac=>(Jn∘Jf 6∘JW Ns xB) λR3=>(iE∘Jq) ?_
  have S:abl z+1=abl (z++[(⟨J,cr,R⟩:Rw)]):=nk rfl
  rw [S] at Ac
  refine (JC (h:=by exact λb=>b.aY (i:=2) (ys:=(z++[(⟨J,cr,R⟩:Rw)]).map aac) rfl S (by exact List.map_append.symm))∘JC (h:=by exact λb=>b.dL (i:=9) (ds:= #[vI (bE p.nx),vI p.cp,vQ p.cr,abh B G r,abh D C cl,abh E U cu,abh At T H,abh K (z++[(⟨J,cr,R⟩:Rw)]) L]) rfl (by rw [S];try rfl))∘JC (h:=by exact λb=>b.pt (fs':=(abk J R cr iQ 200 3:: abj K (z++[(⟨J,cr,R⟩:Rw)]) L aac 176 1:: abk At T H bI 232 8:: .blk g #[.slice (dA e d (p.oS+p.so y x)) (abl p.nums- (p.oS+p.so y x)) (d- (p.oS+p.so y x)),.bool (p.lG (p.mD y) y x)] 302:: abj e p.nums d bq 41 1:: abj E U cu aP 3 1:: abj D C cl aP 3 1:: abk B G r eO 198 2:: .blk F #[vI (bE p.nx),vI p.cp,vQ p.cr,abh B G r,abh D C cl,abh E U cu,abh At T H,abh K (z++[(⟨J,cr,R⟩:Rw)]) L] 50:: .blk O #[vI 0,vI 0,vQ 0,vN,vN,vN,vN,vN] 50::(fs++(kI 200 z)))) 11 [1,2,3,4,5,6,7,8,9,10])∘JC (h:=by exact λb=>aaH (fs:=(abj K (z++[(⟨J,cr,R⟩:Rw)]) L aac 176 1:: abk At T H bI 232 8:: .blk g #[.slice (dA e d (p.oS+p.so y x)) (abl p.nums- (p.oS+p.so y x)) (d- (p.oS+p.so y x)),.bool (p.lG (p.mD y) y x)] 302:: abj e p.nums d bq 41 1:: abj E U cu aP 3 1:: abj D C cl aP 3 1:: abk B G r eO 198 2:: .blk F #[vI (bE p.nx),vI p.cp,vQ p.cr,abh B G r,abh D C cl,abh E U cu,abh At T H,abh K (z++[(⟨J,cr,R⟩:Rw)]) L] 50:: .blk O #[vI 0,vI 0,vQ 0,vN,vN,vN,vN,vN] 50::fs)) b)∘JC (h:=by exact λb=>(show Mem W _ (abj K (z++[(⟨J,cr,R⟩:Rw)]) L aac 176 1:: abk At T H bI 232 8:: .blk g #[.slice (dA e d (p.oS+p.so y x)) (abl p.nums- (p.oS+p.so y x)) (d- (p.oS+p.so y x)),.bool (p.lG (p.mD y) y x)] 302:: abj e p.nums d bq 41 1:: abj E U cu aP 3 1:: abj D C cl aP 3 1:: abk B G r eO 198 2:: .blk F #[vI (bE p.nx),vI p.cp,vQ p.cr,abh B G r,abh D C cl,abh E U cu,abh At T H,abh K (z++[(⟨J,cr,R⟩:Rw)]) L] 50:: .blk O #[vI 0,vI 0,vQ 0,vN,vN,vN,vN,vN] 50::(fs++(kI 200 (z++[(⟨J,cr,R⟩:Rw)])))) from b))∘JG∘JR∘bT 1∘Jp 1∘gu∘Jq) λa Z b=>?_
  replace b:=b.dL (i:=2) (ds:= #[.slice (dA e d (p.oS+p.so (y+1) 0)) (abl p.nums- (p.oS+p.so (y+1) 0)) (d- (p.oS+p.so (y+1) 0)),.bool (p.mD (y+1))]) rfl (by rw [LH,show x=p.cp by omega];rfl)
  exact ⟨_,om,y+1,(z++[(⟨J,cr,R⟩:Rw)]),K,L,by omega,by rw [abn,hzl];rfl,by rw [abV,hz,yt,hR,show x=p.cp by omega];rfl,λq h=>(ab5.1 h).elim (hzc q) (λh=>by rw [aek] at h;subst h;exact hRc),Ac,rfl,Z.sub kr,b.pt 9 [0,1,2,3,4,5,6,7,8]⟩
 have e0:y=p.gp:=by omega
 have e1:bO p.gp p.gX=G:=by rw [hG,show j=p.gp by omega]
 have e2:p.cl.map bE=C:=by rw [hC,show k=p.cp by omega];exact (ZR h.cl bE).symm
 have e3:p.cu.map bE=U:=by rw [hU,show u=p.cp by omega];exact (ZR h.cu bE).symm
 have e4:bO p.tk p.sG=T:=by rw [hT,show i=p.tk by omega]
 have e5:(bO p.gp λg=>(⟨none,0,p.row g⟩:Rw)).map Rw.l=z.map Rw.l:=by rw [hz,e0];exact zaq _ _ _
 refine (JF∘JX∘JG∘JP∘d9 zn O7∘JV zn Nr) λaaG=>(mW∘Jq∘JC (h:=by exact λb=>b.dL (i:=2) (ds:= #[.slice (dA e d (p.oS+p.so p.gp 0)) (abl p.nums- (p.oS+p.so p.gp 0)) (d- (p.oS+p.so p.gp 0)),.bool p.okB]) rfl (by rw [e0];try rfl))∘JG∘JZ) λa Z b=>?_
 exact iq rfl Z (.cellS (i:=8) Z b rfl rfl zn rfl) (⟨(⟨bE p.nx,⟨(p.cp:Int),p.cr,B,r,G,D,cl,C,E,cu,U,At,H,T,As,cs,z⟩⟩:cO),_,_,_,rfl,uP rfl ⟨⟨rfl,rfl,e1⟩,e2,e3,e4,e5⟩,⟨hGc,hCc,hUc,hTc,hcs,hzc⟩,aa2 (b.pt 9 [2,6,5,4,1,0])⟩)
def q6a (A:Option Addr) (c:Nat) (l:List Nat) (B:Nat) (w:World) (x:aM B w) (o:B≤w.heap.size) (hr:Rd w w.heap.size 1 A (abl l) (l.map B8)) (hc:abl l≤c) (y:abl l≤100000000) (q:∀z∈l,z<256):
    Calls abm 112 #[.slice A (abl l) c] w (LV w (oh l) (lH l)):=by
 refine (dV Tryz.func112 37) ?_
 refine (JP∘JA #[vI 0,vI 0,vQ 0,vN,vN,vN,vN,vN]) λR C=>(Jp 1∘Jj∘JQ) λa Z b=>?_
 rcases hop:fq l with k|p
 ·
  have I:=Rb hop
  refine Jb Z b ((JR∘Jp 1∘JI (h:=by exact λb=>zgs A c l B _ (x.mem b o) (b.le o) (b.old hr) hc y q hop)) λr s=>(Jp 1∘Jx∘Jx∘Jp 2∘Jj∘JQ∘JP∘Jp 2∘aK∘Jj) (Jh (λg=>?_) λg=>?_))
  ·
   refine (JT∘JP∘fu #[vI 0,vI 0,vQ 0,vN,vN,vN,vN,vN]∘Jp 1∘JV zn aT) λD=>(Jp 1∘bH∘Jj∘JZ) λa Z b=>?_
   exact eZ rfl Z (.cellS (i:=0) Z b rfl rfl zn rfl) (.tmp Z rfl) (Rq (vE hop) rfl (b.pk []))
  intro a Z b
  exfalso;omega
 ·
  have e:=(Ro q hop).2.2.1
  refine Jb Z b ((JR∘Jp 1∘JL (h:=by exact λb=>zgr A c l B _ (x.mem b o) (b.le o) (b.old hr) hc y q hop)) ?_)
  rintro b _ r ⟨J,S,T,E,F,U,sc,rfl,t,K,hm⟩
  refine ⟨_,rfl,_,b.join hm,?_⟩
  refine (Jp 1∘Jx∘Jx∘Jp 2∘Jj∘JQ∘JP∘Jv 2 [(14,.bool false)]∘Jj∘JF∘aD∘JP∘Jp 1∘Jn∘Jg 2 O0∘fu #[abh E p.nums F,.bool true]∘JE) λL j=>(Jp 1∘l8∘Jr∘Jp 1∘JL (h:=by exact λb=>qz5 _ _ j E F p e [.blk C #[vI 0,vI 0,vQ 0,vN,vN,vN,vN,vN] 50] (b.pk [0,2,4]) t)) ?_
  rintro b _ M ⟨z,u,N,O,rfl,hz,f,v⟩
  refine ⟨_,rfl,_,v,?_⟩
  refine (JA #[vI 0,vI 0,vQ 0,vN,vN,vN,vN,vN]) λV P=>(JV zn aT (h1:=by exact KO z)) λG=>(bH∘Jj∘JQ∘JP∘Jp 1∘Jn∘Jg 1 O1∘Jp 2) (Ju (λd=>?_) λd=>?_)
  ·
   refine (Jp 4∘aG∘Jj∘JT∘JP∘fu #[vI 0,vI 0,vQ 0,vN,vN,vN,vN,vN]∘JV zn iM) λm=>(Jp 1∘aK∘Jj∘JZ) λa Z b=>?_
   exact eZ rfl Z (.cellS (i:=2) Z b rfl rfl zn rfl) (.tmp Z rfl) (Rq (LU hop (λh=>by rw [h.1] at d;cases d)) rfl (b.pk []))
  refine (d9 zn O0∘JI (h:=by exact λb=>R5 z (zc6 hz (zc5 e)) (XZ (KX hz) (Rn e _ (.inl rfl))) f _ (b.stX 3 rfl))) λQ s=>(Jp 2∘aG∘Jj) (Jh (λn=>?_) λn=>?_)
  ·
   refine (JT∘JP∘fu #[vI 0,vI 0,vQ 0,vN,vN,vN,vN,vN]∘JV zn iM) λm=>(Jp 1∘aK∘Jj∘JZ) λa Z b=>?_
   exact eZ rfl Z (.cellS (i:=2) Z b rfl rfl zn rfl) (.tmp Z rfl) (Rq (LU hop (λh=>by have h2:=h.2;rw [←FT hz] at h2;omega)) rfl (b.pk []))
  refine (JF∘aD∘JP∘d9 zn O0∘JV zn iM (h1:=by exact KO z)) λH=>(Jp 1∘aK∘Jj∘JZ) λa Z b=>?_
  exact eZ rfl Z (.cellS (i:=2) Z b rfl rfl zn rfl) (.tmp Z rfl) (q5t (Rp hop ⟨by simpa using d,by rw [←FT hz];omega⟩) rfl hz f (b.mV (afb ([.blk P z.cells 50,.blk j #[.slice u N O,.bool p.okB] 302,.blk C z.cells 50]:List Fact) _)))
section
variable {l:List Nat}
def Ig (c:∀z∈l,z<256) (h:oh l=0):(lH l).st.av.Ok∧bN (lH l).st∧1≤(lH l).next∧(lH l).next≤281474976710657:=by
 have hc:=(xQ (zjj c h).1).1
 refine ⟨?_,?_,by omega,by omega⟩
 all_goals
  cases ho:fq l with
  |error k=>
   rw [(vE ho).1] at h
   have:=Rb ho
   omega
  | ok p =>
   have a:=(Ro c ho).2.2.1
   by_cases h2:p.okB=true∧bV p.pY=0
   ·rw [(Rp ho h2).2]
    first|exact zc5 a|exact Rn a _ (.inl rfl)
   ·rw [(LU ho h2).1] at h
    cases h
def Af (bs:List Bk):Prop:=(∀b∈bs,b.Ok∧abl b.evs≤4096)∧abl bs≤1000000
def qr1:∀(f:Nat) (l:List Nat),13*(qw f l).1.length≤abl l
 |0,l=>abw _
 | f + 1, l => by
  rw [qw]
  split
  ·exact abw _
  ·split
   ·exact abw _
   ·rename_i h
    obtain ⟨h1,h2,_⟩:=Kt (l:=l) (b:=(dw l).1) (m:=(dw l).2.1) (by rw [←afw.1 h])
    have h3:=qr1 f (l.drop (dw l).2.1)
    rw [abN] at h3
    show 13*((qw f _).1.length+1)≤_
    omega
def quu (h:(readAll l).2=0):(readAll l).1.length≤1000000:=by
 rcases ab7 524288 (abl l) with h5|h5
 ·rw [WI h5] at h;cases h
 ·have h1:=qr1 (abl l) l
  by_cases a:(qw (abl l) l).2.2=0
  ·rw [WK om a];show (qw (abl l) l).1.length≤_;omega
  ·rw [WJ om rfl a];exact abw _
def qnd:∀(f:Nat) (l:List Nat),iF l→∀b∈(qw f l).1,b.Ok∧abl b.evs≤4096
 |0,l,_=>λb a=>by cases a
 | f + 1, l, c => by
  rw [qw]
  split
  ·exact λb a=>by cases a
  ·split
   ·exact λb a=>by cases a
   ·rename_i h
    obtain ⟨h1,h2⟩:=q2f (b:=(dw l).1) (m:=(dw l).2.1) c (by rw [←afw.1 h])
    intro b a
    rcases ab0.1 a with rfl|a
    ·exact ⟨h1,by rw [h2];exact abw _⟩
    ·exact qnd f _ (c.drop _) b a
theorem q6b (hk:iF l) (h:(readAll l).2=0):Af (readAll l).1:=by
 refine ⟨λb a=>?_,quu h⟩
 unfold readAll at a
 split at a
 ·cases a
 ·unfold Bc at a
  split at a
  ·cases a
  ·exact qnd _ _ hk b a
end
def Sk (w:World) (b:List Nat) (x:Pl) (r:Ending) (w':World):Prop:=∃p:Pm,r= .returned (.tuple #[.agg p.cells,.int .i64 (jZ b x:Int)])∧(jZ b x=0→eD (lH (bS b x.sn x.st)) p.z∧p.q.map acZ=(readAll (bS b x.st x.en)).1)∧gK p∧Mem w w' (j5 p)
theorem q6d:gK Pm.zero:=by
 refine ⟨⟨?_,?_,?_,?_,?_,?_,?_⟩,⟨?_,?_,?_,?_,?_,?_⟩,qw0,?_,?_,?_,?_,?_⟩
 all_goals first|exact abw _|(intro z hz;cases hz)|(show (0:Nat)<_;decide)|(show aR (0:Int);unfold aR;decide)
section
variable {W w w':World} {F T:List Fact} {b:List Nat} {x:Pl}
theorem Mem.vV (h:Mem W w []):Mem W w (j5 Pm.zero):=by
 exact ((((((h.nil 85 5).nil 176 1).nil 232 8).nil 3 1).nil 3 1).nil 198 2)
def Sl (c:(jZ b x:Int)=n) (a:n≠0) (d:Mem W w []):Sk W b x (.returned (.tuple #[.agg Pm.zero.cells,.int .i64 n])) w:=by
 subst c
 exact ⟨Pm.zero,rfl,λh=>absurd (by rw [h];rfl) a,q6d,d.vV⟩
def za6 {z:cO} (hb:∀y∈b,y<256) (h1:oh (bS b x.sn x.st)=0) (h2:(lH (bS b x.sn x.st)).next=(x.nx:Int)) (h3:(readAll (bS b x.st x.en)).2=0) (hz:eD (lH (bS b x.sn x.st)) z) (a:eP z.st) (d:q.map acZ=(readAll (bS b x.st x.en)).1) (hc:abl q≤c) (h5:Af (readAll (bS b x.st x.en)).1) (i:Mem W w (j5 ⟨z,A,c,q⟩)):Sk W b x (.returned (.tuple #[.agg (Pm.cells ⟨z,A,c,q⟩),.int .i64 0])) w:=by
 have j:jZ b x=0:=(q5v h1 h2).trans h3
 have e:=Rx hb x.sn x.st
 obtain ⟨o1,k,n,o⟩:=Ig e h1
 obtain ⟨r1,m⟩:=h5
 have f:abl q=(readAll (bS b x.st x.en)).1.length:=by rw [←d,abu]
 refine ⟨⟨z,A,c,q⟩,by rw [j];rfl,λ_=>⟨hz,d⟩,⟨zc6 hz o1,XZ (KX hz) k,a,?_,λh g=>?_,λh g=>?_,by rw [f];exact m,hc⟩,i⟩
 ·show aR z.next
  rw [←hz.1]
  unfold aR
  omega
 ·exact (r1 h.b (by rw [←d];exact ac1 g)).1
 ·have:=(r1 h.b (by rw [←d];exact ac1 g)).2
  omega
end
def Ij (b:List Nat) (x:Pl) (p:Pm):Prop:=jZ b x=0→eD (lH (bS b x.sn x.st)) p.z∧p.q.map acZ=(readAll (bS b x.st x.en)).1
section
variable {W w w':World} {a pa T F G es fr:List Fact} {p:Pm} {q:List Pm}
theorem Mem.j3 (n:Nat) (h:Mem W w F) (k:Mem w w' G) (b:F.drop n=T):Mem W w' (F.take n++(G++T)):=by
 have h2:=h.oZ k
 rw [←List.take_append_drop n F,b,aby] at h2
 exact h2.perm (ad5 _ ac7)
end
def tC (L:List Pl) (next:Int):Nat→Int×Nat
 |0=>(0,6)
 |k+1=>if ((L.getD k Pl.zero).nx:Int)≤next then ((k:Int),0) else tC L next k
def iD (b:List Nat) (next:Int):Int×Nat:=if (dK b).2≠0 then (0,(dK b).2) else tC (dK b).1 next (dK b).1.length
def jB (b:List Nat) (i:Int):Nat:=if (dK b).2≠0 then (dK b).2 else if i<0∨((dK b).1.length:Int)≤i then 2 else jZ b ((dK b).1.getD i.toNat Pl.zero)
def Ik (w:World) (b:List Nat) (i:Int) (r:Ending) (a:World):Prop:=∃p:Pm,r= .returned (.tuple #[.agg p.cells,.int .i64 (jB b i:Int)])∧(jB b i=0→Ij b ((dK b).1.getD i.toNat Pl.zero) p)∧gK p∧Mem w a (j5 p)
section
variable {W w:World} {b:List Nat} {L:List Pl} {i:Int} {ie k:Nat}
def Sr {e:Nat} (c:jB b i=e) (d:n=(e:Int)) (a:e≠0) (f:Mem W w []):Ik W b i (.returned (.tuple #[.agg Pm.zero.cells,.int .i64 n])) w:=by
 subst c d
 exact ⟨Pm.zero,rfl,λh=>absurd h a,q6d,f.vV⟩
def za7 {x:Pl} {p:Pm} (hi:dK b=(L,0)) (h:i=(k:Int)) (hk:k<abl L) (a:L.getD k Pl.zero=x) (c:Ij b x p) (d:gK p) (e:Mem W w (j5 p)):Ik W b i (.returned (.tuple #[.agg p.cells,.int .i64 (jZ b x:Int)])) w:=by
 subst h a
 have f:jB b (k:Int)=jZ b (L.getD k Pl.zero):=by unfold jB;rw [hi,if_neg (λh=>h rfl),if_neg (by show ¬((k:Int)<0∨(abl L:Int)≤(k:Int));omega)];rfl
 refine ⟨p,by rw [f],λ_=>?_,d,e⟩
 rw [hi]
 exact c
def za8 (hi:dK b=(L,ie)) (h:ie≠0):jB b i=ie:=by unfold jB;rw [hi];exact if_pos h
def qxe (hi:dK b=(L,0)) (h:i<0∨(abl L:Int)≤i):jB b i=2:=by grind [jB]
def za9 (hi:dK b=(L,ie)) (h:ie≠0):iD b n=(0,ie):=by unfold iD;rw [hi];exact if_pos h
theorem q6h (hi:dK b=(L,0)):iD b n=tC L n (abl L):=by unfold iD;rw [hi];exact if_neg (λh=>h rfl)
end
def kF (next:Int):cO:=⟨next,⟨1,0,none,1,[⟨0,1⟩],none,1,[0],none,1,[0],none,0,[],none,1,[⟨none,1,[⟨0,0,0⟩]⟩]⟩⟩
def pI (next:Int):Pv:=⟨kF next,[kg 7]⟩
def bY:List Nat:=(nH [pI 1]).1
def zda (w:World) (next:Int) (r:Ending) (a:World):Prop:=∃p:Pm,r= .returned (.agg p.cells)∧eD (kF next) p.z∧p.q.map acZ=[kg 7]∧gK p∧Mem w a (j5 p)
def Cw (x y:Pv):Prop:=eD x.s y.s∧x.bs=y.bs
inductive jT:List Pv→List Pv→Prop where
 |nil:jT [] []
 |cons {x y:Pv} {l m:List Pv} (h:Cw x y) (t:jT l m):jT (x::l) (y::m)
theorem q6i:∀{l m:List Pv} (last:Int) (i:Nat),jT l m→kU m last i=kU l last i
 |_,_,_,_,.nil=>rfl
 |_,_,last,i,.cons h t=>by
  rw [kU,kU,FT h.1,h.2,h.1.1,q6i _ _ t]
theorem zdb (h:jT l m):abl m=abl l:=by induction h<;>grind
theorem Sv (h:jT l m):oH m=oH l:=by
 unfold oH
 rw [zdb h,q6i _ _ h]
theorem q6j (h:jT l m) (i:Nat):Cw (l.getD i Pv.zero) (m.getD i Pv.zero):=by
 induction h generalizing i with
 |nil=>exact ⟨qrv _,rfl⟩
 |cons h _ a=>
  cases i with
  |zero=>exact h
  |succ i=>exact a i
theorem zdc (h:jT l m):∀i,stA m i=stA l i
 |0=>rfl
 |i+1=>by
  rw [stA,stA,zdc h i]
  unfold pF
  rw [XY (q6j h i).1,(q6j h i).2]
theorem zba (h:jT l m):m.flatMap jk=l.flatMap jk:=by
 induction h with
 |nil=>rfl
 |cons h _ a=>
  rw [abT,abT,a]
  unfold jk
  rw [XY h.1,h.2,h.1.1]
theorem q6k (h:jT l m):nH m=nH l:=by grind [Sv,headA,zdb,lI,zba,zdc,nH]
theorem nN {p:Pm} (h:eD (kF n) p.z) (a:p.q.map acZ=[kg 7]):Cw (pI n) p.v:=⟨h,a.symm⟩
set_option maxRecDepth 100000 in
theorem zbb:nH [pI 1]=(bY,0):=by kernel_rfl
set_option maxRecDepth 100000 in
theorem Sw:dK bY=([⟨1,11,26,39⟩],0):=by kernel_rfl
set_option maxRecDepth 100000 in
theorem zjq:jZ bY ⟨1,11,26,39⟩=0:=by kernel_rfl
set_option maxRecDepth 100000 in
theorem Il:(readAll (bS bY 26 39)).1=[kg 7]:=by kernel_rfl
set_option maxRecDepth 100000 in
theorem Im:oH [pI 1,pI 0]=(1,330):=by kernel_rfl
set_option maxRecDepth 100000 in
theorem Io:oH [pI 1,pI 5,pI 4]=(2,411):=by kernel_rfl
def II (n:Int) (a b c d e f:Nat):Pm:=⟨⟨n,(Mv a b c d e).st⟩,some ⟨f,0,none⟩,1,[⟨kg 7,none,0⟩]⟩
section
variable {W w w':World} {n:Int} {a b c d e f:Nat} {F S S2 T:List Fact} {p q s:Pm} {r:Ending}
def IJ (g:aR n) (h:Mem W w [.blk a #[.int .i64 0,.int .i64 1] 198,.blk b #[.int .i64 0] 3,.blk c #[.int .i64 0] 3,.blk e #[.slice (some ⟨d,0,none⟩) 1 1] 176,.blk d #[.int .u64 0,.int .u32 0,.int .u64 0] 200,.blk f #[.int .u8 2,.int .u8 0,.int .i64 0,.int .i64 7,.slice none 0 0] 85]):zda W n (.returned (.agg (II n a b c d e f).cells)) w:=by
 have h1:=h.dY (i:=0) (n:=1) (size:=2) rfl rfl de
 have h2:=h1.dY (i:=1) (n:=1) (size:=1) rfl rfl de
 have h3:=h2.dY (i:=2) (n:=1) (size:=1) rfl rfl de
 have h4:=h3.dY (i:=3) (n:=1) (size:=1) rfl rfl de
 have h5:=h4.dY (i:=4) (n:=1) (size:=3) rfl rfl de
 have h6:=h5.dY (i:=5) (n:=1) (size:=5) rfl rfl de
 have h7:=(h6.nil 232 8).nil 73 11
 exact ⟨II n a b c d e f,rfl,uP rfl ⟨⟨rfl,rfl,rfl⟩,rfl,rfl,rfl,rfl⟩,rfl,⟨zjz,zg9,zha,g,wW (zel (by unfold aR;decide)),wW (abw _),by show 1≤1000000;decide,abq _⟩,h7.picks [2,3,4,1,5,6,7,0] de rfl⟩
theorem Mem.SH (n:Nat) (h:Mem W w F) (g:F.drop n=j5 p++T):gq w p:=h.yD λf i=>abZ (g▸adQ _ i)
theorem Mem.IK (n:Nat) (h:Mem W w F) (g:F.drop n=S++(j5 p++T)):gq w p:=h.yD λf i=>abZ (g▸ac5 _ (adQ _ i))
theorem Mem.SK (n:Nat) (h:Mem W w F) (g:F.drop n=S++(S2++(j5 p++T))):gq w p:=h.yD λf i=>abZ (g▸ac5 _ (ac5 _ (adQ _ i)))
def zhb (h:gK p) (k:gq w p):∀x∈[p],gK x∧gq w x:=wW (p:=λx=>gK x∧gq w x) ⟨h,k⟩
def zhc (h:gK p) (k:gq w p) (h2:gK q) (k2:gq w q):∀x∈[p,q],gK x∧gq w x:=by grind
def zhd (h:gK p) (k:gq w p) (h2:gK q) (k2:gq w q) (h3:gK s) (g:gq w s):∀x∈[p,q,s],gK x∧gq w x:=by grind
end
def lU:List Nat:=(nH []).1
set_option maxRecDepth 100000 in
theorem Aj:nH []=(lU,0)∧lU=[113,97,1,0]++lU.drop 4∧lU.length=8:=by refine ⟨?_,?_,?_⟩<;>kernel_rfl
set_option maxRecDepth 100000 in
theorem zj0:bY=[113,97,1,1,1,15,13]++bY.drop 7:=by kernel_rfl
set_option maxRecDepth 100000 in
theorem pJ:bY.length=39:=by kernel_rfl
set_option maxRecDepth 100000 in
theorem rH:∀x∈bY,x<256:=by
 have h:(bY.all λx=>decide (x<256))=true:=by kernel_rfl
 exact λx g=>of_decide_eq_true (List.all_eq_true.1 h x g)
set_option maxRecDepth 100000 in
theorem zhe:dK (bY++[0])=([],410):=by kernel_rfl
set_option maxRecDepth 100000 in
theorem IL:iD bY 9=(0,0)∧iD bY 0=(0,6)∧jB bY 0=0∧jB bY 1=2:=by refine ⟨?_,?_,?_,?_⟩<;>kernel_rfl
set_option maxRecDepth 100000 in
theorem IQ:(lH (bS bY 11 26)).next=1:=by kernel_rfl
theorem zj1:∀x∈bY++[0],x<256:=by decide
def zhf {m:Nat} (h:Rd w B 1 A m (bY.map B8)) (hm:m=39):Rd w B 1 A 7 ([113,97,1,1,1,15,13].map B8):=by
 rw [zj0] at h
 exact Rd.pre h rfl om
def zhg {m:Nat} (h:Rd w B 1 A m (lU.map B8)) (hm:m=8):Rd w B 1 A 4 ([113,97,1,0].map B8):=by
 rw [Aj.2.1] at h
 exact Rd.pre h rfl om
def IU (w:World) (r:Ending) (w':World):Prop:=∃(z:aC) (g c:Nat) (h:Hb),r= .returned (.tuple #[.agg #[.int .i64 1,.int .i64 z.ak,.int .u64 (z.aj:Int),.slice z.gA (abl z.gs) z.gc,.slice z.lA (abl z.cl) z.lc,.slice z.uA (abl z.cu) z.uc,.slice z.tA (abl z.ts) z.tc,.slice z.sA (abl z.rs) z.sc,.slice (some ⟨g,0,none⟩) 1 c],.int .i64 0])∧h.b=kg 7∧Mem w w' [.row (.slice (some ⟨g,0,none⟩) 1 c) 1 ([h].flatMap hbL) 85 5]
def zhh {w':World} (h:Ik w bY 0 r w'):IU w r w':=by
 obtain ⟨⟨⟨nx,z⟩,A,c,q⟩,rfl,k,l,hm⟩:=h
 rw [IL.2.2.1]
 have h1:=k IL.2.2.1
 rw [Sw] at h1
 obtain ⟨h2,h3⟩:=h1 zjq
 have h4:(lH (bS bY 11 26)).next=nx:=h2.1
 rw [IQ] at h4
 subst h4
 have h5:q.map acZ=[kg 7]:=h3.trans Il
 obtain ⟨h,t,rfl,m,ht⟩:=List.map_eq_cons_iff.1 h5
 obtain rfl:=List.map_eq_nil_iff.1 ht
 have j:Mem w w' [.row (.slice A 1 c) 1 ([h].flatMap hbL) 85 5]:=hm.mV (List.sublist_append_of_sublist_right (agU _ (List.nil_sublist _)))
 obtain ⟨g,rfl⟩:=zj (j.own (i:=0) rfl) de
 exact ⟨z,g,c,h,rfl,m,j⟩
def zbh {w':World} (h:Ik w bY 1 r w'):∃p:Pm,r= .returned (.tuple #[.agg p.cells,.int .i64 2])∧Below w.heap.size w w':=by
 obtain ⟨p,rfl,_,_,hm⟩:=h
 rw [IL.2.2.2]
 exact ⟨p,rfl,hm.below⟩
def IV:oJ abm 4 57 (.agg (Pl.cells ⟨1,11,26,39⟩)) (.agg #[.int .i64 1,.int .i64 11,.int .i64 26,.int .i64 39])=some true:=by kernel_rfl
set_option maxRecDepth 100000 in
theorem q6y:∀x∈(dK bY).1,iF (bS bY x.st x.en):=λx g=>by
 rw [Sw] at g
 rw [List.mem_singleton.1 g]
 exact zee kr
structure Ap where
 n:bZ
 A:Option Addr
 c:Nat
 l:List iJ
 gap:Nat
 B:Option Addr
 d:Nat
 q:List fA
def Ap.zero:Ap:=⟨⟨0,0,0,[],[]⟩,none,0,[],0,none,0,[]⟩
def Ap.cells (x:Ap):Array Value:= #[.int .u8 (x.n.ak:Int),.int .u8 (x.n.groups:Int),.int .u32 (x.n.aj:Int),.int .u8 (x.n.ps.getD 0 0:Int),.int .u8 (x.n.ps.getD 1 0:Int),.int .u8 (x.n.ps.getD 2 0:Int),.int .u8 (x.n.ps.getD 3 0:Int),.int .u8 (x.n.ps.getD 4 0:Int),.int .u16 (x.n.ws.getD 0 0:Int),.int .u16 (x.n.ws.getD 1 0:Int),.int .u16 (x.n.ws.getD 2 0:Int),.int .u16 (x.n.ws.getD 3 0:Int),.int .u16 (x.n.ws.getD 4 0:Int),.slice x.A (abl x.l) x.c,.int .u32 (x.gap:Int),.slice x.B (abl x.q) x.d]
def DY (x:Ap):List Value:=x.cells.toList
def q6o (x:Ap):abl (DY x)=16:=rfl
theorem zjv (x:Ap):∀v∈x.cells.toList,v.oneCell'=true:=by simp [Ap.cells,Value.oneCell']
theorem Ah:SI abm 104 16:=⟨by kernel_rfl,by kernel_rfl⟩
def Iq:EI abm 22 104 (.agg Ap.zero.cells) 16 80:=⟨by kernel_rfl,by kernel_rfl,rfl,by omega⟩
def five {l:List α} (h:abl l=5):∃a b c d e,l=[a,b,c,d,e]:=by
 match l,h with
 |[a,b,c,d,e],_=>exact ⟨a,b,c,d,e,rfl⟩
theorem zdf {n:bZ} (h:n.Ok):(#[.int .u8 (n.ak:Int),.int .u8 (n.groups:Int),.int .u32 (n.aj:Int),.int .u8 (n.ps.getD 0 0:Int),.int .u8 (n.ps.getD 1 0:Int),.int .u8 (n.ps.getD 2 0:Int),.int .u8 (n.ps.getD 3 0:Int),.int .u8 (n.ps.getD 4 0:Int),.int .u16 (n.ws.getD 0 0:Int),.int .u16 (n.ws.getD 1 0:Int),.int .u16 (n.ws.getD 2 0:Int),.int .u16 (n.ws.getD 3 0:Int),.int .u16 (n.ws.getD 4 0:Int)]:Array Value)=n.cells:=by
 obtain ⟨c,g,r,ps,ws⟩:=n
 obtain ⟨a,b,c,d,e,rfl⟩:=five h.pl
 obtain ⟨a,b,c,d,e,rfl⟩:=five h.wl
 rfl
structure kV (W:World) (x:Ap):Prop where
 n:x.n.Ok
 l:∀y∈x.l,y.Ok
 lc:abl x.l≤x.c
 ln:abl x.l≤9223372036854775807
 lr:Rd W W.heap.size 8 x.A (abl x.l) (x.l.flatMap yj)
 gap:x.gap<4294967296
 q:∀y∈x.q,oO W y
 qc:abl x.q≤x.d
 qn:abl x.q≤9223372036854775807
 qr:Rd W W.heap.size 6 x.B (abl x.q) (x.q.flatMap xI)
def iK:List Ap→Nat→Nat
 |x::l,j+1=>x.gap+iK l j
 |_,_=>0
section
variable {l:List Ap} {i j:Nat} {x:Ap} {p:Pm} {qs:List Pm}
theorem Sy:iK l 0=0:=by cases l<;>rfl
theorem q6p:∀{l:List Ap} {i:Nat},i<abl l→iK l (i+1)=iK l i+(l.getD i Ap.zero).gap
 |x::l,0,_=>by show x.gap+iK l 0=iK (x::l) 0+x.gap;rw [Sy,Sy];omega
 |x::l,i+1,h=>by
  show x.gap+iK l (i+1)=x.gap+iK l i+(l.getD i Ap.zero).gap
  rw [q6p (afM h),Nat.add_assoc]
def zg0 (h:∀x∈l,x.gap<4294967296):iK l i≤i*4294967296:=by
 induction l generalizing i with
 |nil=>exact abw _
 | cons x l d =>
  cases i with
  |zero=>exact abw _
  |succ i=>
   have h1:=d (i:=i) (λy e=>h y (aci _ e))
   have h2:=h x (acs ..)
   show x.gap+iK l i≤_
   omega
structure mG (x:Ap) (nx:Nat) (p:Pm):Prop where
 sn:dN p.z
 good:GoodS p.z.st.av
 ids:eB 12 p.z.st.ts
 nx:p.z.next=1+(nx:Int)
 bl:p.q.map acZ=qJ (x.q.take 5)
 qc:abl p.q≤p.c
def lM (l:List Ap) (qs:List Pm) (i:Nat):Prop:=abl qs=i∧∀j,j<i→mG (l.getD j Ap.zero) (iK l (j+1)) (qs.getD j Pm.zero)
def zbg:lM l [] 0:=⟨rfl,λj h=>absurd h (agz j)⟩
theorem zjw (h:lM l qs i) (d:l.getD i Ap.zero=x) (e:mG x (iK l (i+1)) p):lM l (qs++[p]) (i+1):=by
 refine ⟨by rw [abn,h.1];rfl,λj f=>?_⟩
 rw [abo (l:=qs++[p])]
 rcases ab7 j i with h1|h1
 ·rw [aea (by rw [h.1];exact h1),←abo]
  exact h.2 j h1
 ·obtain rfl:j=i:=by omega
  rw [adt (by rw [h.1];exact abq _),h.1,Nat.sub_self,d]
  exact e
end
section
variable {W w:World} {a:List Fact} {l:List Pm} {z:cO} {A:Option Addr} {c:Nat} {b:List Hb}
def aaY (h:Mem W w (.row (.slice A (abl b) c) (abl b) (b.flatMap hbL) 85 5::(a++(gW 73 b++(gG l++jr z.st))))):Mem W w (a++gG (l++[⟨z,A,c,b⟩])):=by
 rw [q5x]
 refine h.perm (List.perm_middle.symm.trans (ad5 a ?_))
 have h1:=ac7 (l₁:=Fact.row (.slice A (abl b) c) (abl b) (b.flatMap hbL) 85 5::gW 73 b) (l₂:=gG l++jr z.st)
 rw [aby (gG l)] at h1
 exact h1
def Ir (w:World) (l:List Ap) (r:Ending) (d:World):Prop:=∃(A:Option Addr) (c:Nat) (q:List Pm),r= .returned (.tuple #[.slice A (abl q) c,.bool true])∧lM l q (abl (l.take 4))∧abl q≤c∧Mem w d (.row (.slice A (abl q) c) (abl q) (q.flatMap lJ) 53 9::gG q)
end
section
variable {b r:List Nat} {p m y:Nat}
def Mt (h:b.drop p=au y++r) (hy:y≤m) (hm:m<18446744073709551616):eu b p m=true∧dB b p m=y∧bg b p=p+abl (au y)∧b.drop (bg b p)=r:=by
 have a:aB (b.drop p)=(y,abl (au y),0):=by rw [h];exact Kq r om
 have c:bg b p=p+abl (au y):=by unfold bg;rw [a]
 refine ⟨?_,?_,c,?_⟩
 ·unfold eu jg;rw [a];exact decide_eq_true ⟨rfl,hy⟩
 ·unfold dB bJ;rw [a];exact if_neg (by show ¬m<y;omega)
 ·rw [c,←List.drop_drop,h,List.drop_left]
end
def qQ:Nat→List Pv→List Pl
 |_,[]=>[]
 |s,x::l=>⟨aH x.s.next,s,s+abl (cZ x.s),s+abl (cZ x.s)+(zb x.bs).1.length⟩::qQ (s+abl (cZ x.s)+(zb x.bs).1.length) l
def vX:Nat→List Pv→Nat
 |s,[]=>s
 |s,x::l=>vX (s+abl (cZ x.s)+(zb x.bs).1.length) l
def nO:Nat→List Pv→Prop
 |_,[]=>True
 |a,x::l=>a≤aH x.s.next∧nO (aH x.s.next) l
structure IB (x:Pv):Prop where
 nx:aH x.s.next≤4611686018427387904
 sn:abl (cZ x.s)≤16777216
 bl:(zb x.bs).1.length≤16777216
def q6r {r:List Nat}:∀(lv:List Pv) (p last s:Nat),(∀x∈lv,IB x)→nO last lv→b.drop p=(lv.flatMap jk).flatMap au++r→jS b (abl lv) p last s=some (qQ s lv,p+abl ((lv.flatMap jk).flatMap au),vX s lv)
 |[],p,last,s,_,_,_=>rfl
 | x :: l, p, last, s, c, hs, h => by
  have a:=c x (acs ..)
  have e:((x::l).flatMap jk).flatMap au=au (aH x.s.next)++(au (abl (cZ x.s))++(au (zb x.bs).1.length++(l.flatMap jk).flatMap au)):=by
   rw [abT,ab2]
   show (au _++(au _++(au _++[])))++_=_
   rw [abU,aby,aby]
  rw [e,aby,aby,aby] at h
  obtain ⟨o1,v1,f,g⟩:=Mt h a.nx om
  obtain ⟨o,t,u,v⟩:=Mt g a.sn om
  obtain ⟨w,z,A,B⟩:=Mt v a.bl om
  have C:sI b p=true:=by unfold sI;rw [o1,o,w];rfl
  have d:kS b p=aH x.s.next:=v1
  have D:kT b p=abl (cZ x.s):=t
  have E:mF b p=(zb x.bs).1.length:=z
  have F:=q6r l (rowP b p) (aH x.s.next) (s+abl (cZ x.s)+(zb x.bs).1.length) (λy G=>c y (aci _ G)) hs.2 B
  rw [ab1,jS,if_pos ⟨C,by rw [d];exact hs.1⟩,d,D,E,F,e]
  have H:rowP b p+abl ((l.flatMap jk).flatMap au)=p+abl (au (aH x.s.next)++(au (abl (cZ x.s))++(au (zb x.bs).1.length++(l.flatMap jk).flatMap au))):=by
   unfold rowP
   rw [abn,abn,abn,A,u,f]
   omega
  rw [H]
  rfl
def jC (lv:List Pv) (i:Nat):List Nat:=(lv.take i).flatMap λx=>cZ x.s++(zb x.bs).1
section
variable {lv:List Pv} {i k:Nat}
theorem SA (h:i<abl lv):jC lv (i+1)=jC lv i++cZ (lv.getD i Pv.zero).s++(zb (lv.getD i Pv.zero).bs).1:=by
 unfold jC
 rw [xH Pv.zero h,ab2,abT,ad9,abU,aby]
theorem qxi:∀(lv:List Pv) (s:Nat),vX s lv=s+abl (jC lv (abl lv))
 |[],s=>rfl
 |x::l,s=>by
  have a:=qxi l (s+abl (cZ x.s)+(zb x.bs).1.length)
  unfold jC at a⊢
  rw [ada] at a⊢
  rw [abT,abn,abn]
  show vX _ l=_
  omega
structure je (x:Pv):Prop where
 qP:bV x.s=0
 bl:fF x.bs=0
 ws:(zb x.bs).2=0
 sn:abl (cZ x.s)≤600000
 nx:1≤x.s.next∧x.s.next≤281474976710657
def je.fit {x:Pv} (h:je x):IB x:=⟨by have:=h.nx;unfold aH;omega,by have:=h.sn;omega,by have:=KA x.bs;omega⟩
theorem je.aH {x:Pv} (h:je x):(aH x.s.next:Int)=x.s.next:=by have:=h.nx;unfold Go.Proofs.YtekiimhdnigmcaaGreatDoor.aH;omega
def SB (a:∀x∈lv,je x):∀i,i≤abl lv→abl (jC lv i)≤i*1124288
 |0,_=>abw _
 |i+1,h=>by
  have c:=SB a i om
  have h1:=a _ (qe Pv.zero (show i<abl lv by omega))
  have h2:=h1.sn
  have h3:=KA (lv.getD i Pv.zero).bs
  rw [SA om,abn,abn]
  omega
theorem SC (a:∀x∈lv,je x) (c:abl lv≤8):∀i,i≤abl lv→stA lv i=(jC lv i,false)
 |0,_=>rfl
 | i + 1, h => by
  have h1:=a _ (qe Pv.zero (show i<abl lv by omega))
  have d:=SB a (i+1) h
  rw [SA om,abn,abn] at d
  rw [stA,SC a c i om,SA om]
  unfold pF
  refine if_neg ?_
  rw [adw,adw,decide_eq_true_eq,decide_eq_true_eq]
  rintro ((h2|h2)|h2)
  ·cases h2
  ·exact h2 h1.ws
  ·have h2:16777216<abl (jC lv i)+abl (cZ (lv.getD i Pv.zero).s)+(zb (lv.getD i Pv.zero).bs).1.length:=h2
   omega
theorem qr5 (c:∀x∈lv,je x):∀(l:List Pv) (last:Nat) (i:Nat),(∀x∈l,je x)→nO last l→kU l (last:Int) i=(-1,0)
 |[],_,_,_,_=>rfl
 |x::l,last,i,h,hs=>by
  have a:=h x (acs ..)
  have d:=a.aH
  have h1:=hs.1
  rw [kU,if_neg (λn=>n a.qP),if_neg (λn=>n a.bl),if_neg om,←d]
  exact qr5 c l _ _ (λy e=>h y (aci _ e)) hs.2
theorem qr6:∀lv:List Pv,abl (lv.flatMap jk)=3*abl lv
 |[]=>rfl
 |x::l=>by rw [abT,abn,qr6 l,ab1];show 3+_=_;omega
theorem SE:∀(lv:List Pv) (s:Nat),abl (qQ s lv)=abl lv
 |[],_=>rfl
 |x::l,s=>by rw [qQ,ab1,SE l,ab1]
theorem q6s:∀(lv:List Pv) (s i:Nat),i<abl lv→((qQ s lv).getD i Pl.zero).nx=aH (lv.getD i Pv.zero).s.next
 |x::l,s,0,_=>rfl
 |x::l,s,i+1,h=>q6s l _ i (afM h)
structure WrA (lv:List Pv) (L:List Pl) (bs:List Nat):Prop where
 qP:oH lv=(-1,0)
 wr:nH lv=(bs,0)
 idx:dK bs=(L,0)
 len:abl L=abl lv
 nx:∀i,i<abl lv→((L.getD i Pl.zero).nx:Int)=(lv.getD i Pv.zero).s.next
 few:abl bs≤16777216
def zg4 (c:∀x∈lv,je x) (hs:nO 0 lv) (u:abl lv≤8):∃L bs,WrA lv L bs:=by
 have hc:oH lv=(-1,0):=by unfold oH;rw [if_neg om];exact qr5 c lv 0 0 c hs
 have f:=SC c u (abl lv) (abq _)
 have v:=SB c (abl lv) (abq _)
 obtain ⟨h,d⟩:∃h,h=[113,97,1]++(lI lv (abl lv)).flatMap au:=⟨_,rfl⟩
 have a:lI lv (abl lv)=abl lv::lv.flatMap jk:=by unfold lI;rw [ada]
 have w:abl h≤3+10*(1+3*8):=by
  have h1:=zk (lI lv (abl lv))
  have h2:=qr6 lv
  rw [d,abn,show abl ([113,97,1]:List Nat)=3 from rfl]
  rw [a,ab1,h2] at h1
  rw [a]
  omega
 have z:headA lv=bA h:=by unfold headA;rw [d]
 have e:abl (bA h)=abl h+4:=tT h
 have A:nH lv=(bA h++jC lv (abl lv),0):=by
  unfold nH
  rw [hc,f,z,if_neg (λn=>n rfl)]
  refine if_neg ?_
  rintro (h1|h1)
  ·cases h1
  ·have h1:16777216<abl (bA h)+abl (jC lv (abl lv)):=h1
   omega
 have g:abl (bA h++jC lv (abl lv))=abl h+4+abl (jC lv (abl lv)):=by rw [abn,e]
 obtain ⟨t,ht⟩:∃t,bA h=h++t:=⟨_,rfl⟩
 have B:(bA h++jC lv (abl lv)).drop 3=au (abl lv)++((lv.flatMap jk).flatMap au++(t++jC lv (abl lv))):=by
  rw [ht,d,a,abT]
  show (au (abl lv)++(lv.flatMap jk).flatMap au)++t++_=_
  rw [aby,aby]
 have o:(bA h++jC lv (abl lv)).take 3=[113,97,1]:=by rw [ht,d];rfl
 obtain ⟨o1,v1,C,D⟩:=Mt (m:=1024) B om om
 have hi:=q6r lv (bg (bA h++jC lv (abl lv)) 3) 0 0 (λx E=>(c x E).fit) hs D
 have F:bg (bA h++jC lv (abl lv)) 3+abl ((lv.flatMap jk).flatMap au)=abl h:=by
  rw [C,d,a,abT,abn,abn]
  show 3+_+_=3+_
  omega
 rw [F] at hi
 refine ⟨(qQ 0 lv).map (Pl.up (abl h+4)),_,hc,A,?_,by rw [abu,SE],λi hi=>?_,by omega⟩
 ·refine zc7 (s:=vX 0 lv) om o (by rw [o1,v1];exact hi) ⟨by omega,?_,by rw [qxi,g];omega⟩
  rw [←e,List.take_left]
  exact qsq
 ·rw [abo,ac3,getD_at Pl.zero (by rw [SE];exact hi)]
  show ((((qQ 0 lv).getD i Pl.zero).nx:Nat):Int)=_
  rw [q6s lv 0 i hi,(c _ (qe Pv.zero hi)).aH]
end
section
variable {L:List Pl} {n:Int} {k:Nat}
structure Cx (L:List Pl) (n:Int) (k:Nat) (i:Nat):Prop where
 lt:i<k
 le:((L.getD i Pl.zero).nx:Int)≤n
 gt:∀j,i<j→j<k→n<((L.getD j Pl.zero).nx:Int)
def qne:∀k,(∃i:Nat,tC L n k=((i:Int),0)∧Cx L n k i)∨(tC L n k=(0,6)∧∀j,j<k→n<((L.getD j Pl.zero).nx:Int))
 |0=> .inr ⟨rfl,λj h=>absurd h (agz j)⟩
 | k + 1 => by
  by_cases h:((L.getD k Pl.zero).nx:Int)≤n
  ·exact .inl ⟨k,by rw [tC,if_pos h],by omega,h,λj h1 h2=>by omega⟩
  ·have e:tC L n (k+1)=tC L n k:=by rw [tC,if_neg h]
   rw [e]
   rcases qne k with ⟨i,h1,h2⟩|⟨h1,h2⟩
   ·exact .inl ⟨i,h1,Nat.lt_succ_of_lt h2.lt,h2.le,λj h3 h4=>by
     rcases ab7 j k with h5|h5
     ·exact h2.gt j h3 h5
     ·obtain rfl:j=k:=by omega
      omega⟩
   ·exact .inr ⟨h1,λj h3=>by
     rcases ab7 j k with h5|h5
     ·exact h2 j h5
     ·obtain rfl:j=k:=by omega
      omega⟩
end
section
variable {l:List Ap} {q:List Pm} {x:Ap} {p:Pm} {i j nx:Nat}
def q6t {t:List Tk} (hs:dW t) (h1:∀y∈t,1≤y.id):∀i,i<abl t→(i:Int)+1≤(t.getD i Tk.zero).id
 |0,h=>by have:=h1 _ (qe Tk.zero h);omega
 |i+1,h=>by
  have h2:=q6t hs h1 i om
  have h3:=hs i (i+1) om h
  omega
def IC {s:aW} (a:GoodS s) (c:eB 12 s.ts):abl s.ts≤12:=by
 rcases Nat.eq_zero_or_pos (abl s.ts) with h|h
 ·omega
 ·have h1:=q6t a.sh.sort (λy d=>(a.sh.tasks y d).id.1) (abl s.ts-1) om
  have h2:=c _ (qe Tk.zero (show abl s.ts-1<abl s.ts by omega))
  omega
end
def q6u {s:cO} (hs:dN s) (a:GoodS s.st.av) (b:eB 12 s.st.ts):abl (cZ s)≤600000:=by
 have c:=Dk hs.qP
 obtain ⟨h0,h1,h2,h3,h4,_,h6⟩:=XH c
 have d:abl s.st.ts≤12:=IC a b
 have h5:abl (aF s 5)≤97:=by
  have:=Fu (f:=λi=>lY (qo s.st.ts i) (s.st.ts.getD i Tk.zero)) (m:=8) (λi=>abq 8) (abl s.st.ts)
  show abl (dS (abl s.st.ts) λi=>lY (qo s.st.ts i) (s.st.ts.getD i Tk.zero))+1≤97
  omega
 have e:abl (dU s)≤50000:=by rw [Dj];simp only [abn];omega
 have:=zk (dU s)
 rw [Dl hs.qP,tT,KU]
 omega
def qnf:∀(bs:List Bk),abl (dM bs)≤abl bs*4096
 |[]=>abw _
 |b::t=>by
  have h1:=qnf t
  have h2:=NT b
  unfold dM at h1⊢
  rw [abT,abn,ab1]
  omega
def qxj:∀(b:List Pv) (a:Nat),(∀j,j<abl b→a≤aH (b.getD j Pv.zero).s.next)→(∀i j,i<j→j<abl b→aH (b.getD i Pv.zero).s.next≤aH (b.getD j Pv.zero).s.next)→nO a b
 |[],_,_,_=>trivial
 |x::l,a,h1,h2=>⟨h1 0 (agQ _),qxj l _ (λj c=>h2 0 (j+1) (agQ _) (aeZ c)) (λi j hi c=>h2 (i+1) (j+1) (aeZ hi) (aeZ c))⟩
section
variable {w w' W:World} {fs:List Fact} {l:List Ap} {q:List Pm} {x:Ap} {p:Pm} {i j nx K:Nat}
theorem kV.old (h:kV W x) (b:Mem W w fs):kV w x:=⟨h.n,h.l,h.lc,h.ln,b.old h.lr,h.gap,λy a=>⟨(h.q y a).ok,(h.q y a).hc,(h.q y a).hm,b.old (h.q y a).rd⟩,h.qc,h.qn,b.old h.qr⟩
def q6v (h:i≤j):iK l i≤iK l j:=by
 induction l generalizing i j with
 |nil=>exact abq _
 | cons x l a =>
  cases i with
  |zero=>exact abw _
  |succ i=>
   cases j with
   |zero=>omega
   |succ j=>exact Nat.add_le_add_left (a om) _
def zg5 (d:kV W x) (a:mG x nx p):je p.v:=by
 have c:=WW (W:=W) (l:=x.q.take 5) (λy e=>d.q y (acg e))
 have g:abl (qJ (x.q.take 5))≤5:=by rw [WX,abr];omega
 have k:=qnf (qJ (x.q.take 5))
 have f:fF (qJ (x.q.take 5))=0:=WM λb h=>(c b h).2
 refine ⟨a.sn.qP,?_,?_,q6u a.sn a.good a.ids,(xQ a.sn.qP).1⟩
 ·show fF (p.q.map acZ)=0
  rw [a.bl];exact f
 ·show (zb (p.q.map acZ)).2=0
  rw [a.bl,qyg (λb h=>(c b h).2) om]
def IE (d:kV W x) (a:mG x nx p):gK p:=by
 have e:=WW (W:=W) (l:=x.q.take 5) (λy c=>d.q y (acg c))
 have f:=q2w (W:=W) (l:=x.q.take 5) (λy c=>d.q y (acg c))
 have g:abl p.q≤5:=by have h:=congrArg adz a.bl;rw [abu,WX,abr] at h;omega
 have h1:=(xQ a.sn.qP).1
 exact ⟨a.sn.ok,a.sn.few,a.sn.cap,by unfold aR;omega,zC a.bl (λb h=>(e b h).1),zC a.bl (p:=λb=>abl b.evs≤1000000) f,by omega,a.qc⟩
theorem zdg (h:lM l q K) (a:j<K):(q.getD j Pm.zero).z.next=1+(iK l (j+1):Int):=(h.2 j a).nx
def q6w (h:lM l q K) (d:K≤abl l) (b:∀x∈l,kV W x) (c:p∈q):∃x nx,kV W x∧mG x nx p:=by
 obtain ⟨j,a,rfl⟩:=acB c
 have h1:=h.2 j (by rw [←h.1];exact a)
 rw [abo (l:=q),abp a] at h1
 exact ⟨_,_,b _ (qe Ap.zero (by have:=h.1;omega)),h1⟩
theorem vY (h:j<abl q):(q.map Pm.v).getD j Pv.zero=(q.getD j Pm.zero).v:=by rw [abo,ac3,getD_at Pm.zero h];rfl
structure vZ (q:List Pm) (L:List Pl) (bs:List Nat):Prop where
 wr:WrA (q.map Pm.v) L bs
 len:abl L=abl q
 nx:∀j,j<abl q→((L.getD j Pl.zero).nx:Int)=(q.getD j Pm.zero).z.next
 up:∀i j,i≤j→j<abl q→(q.getD i Pm.zero).z.next≤(q.getD j Pm.zero).z.next
 i64:∀j,j<abl q→1≤(q.getD j Pm.zero).z.next∧(q.getD j Pm.zero).z.next≤281474976710657
 ok:∀p∈q,gK p
 good:∀p∈q,je p.v
 lt:∀z∈bs,z<256
def zjx (h:lM l q K) (s:K≤abl l) (h8:K≤4) (t:∀x∈l,kV W x):∃L bs,vZ q L bs:=by
 have k:∀x∈q.map Pm.v,je x:=λy c=>by
  obtain ⟨p,f,rfl⟩:=ab6.1 c
  obtain ⟨x,nx,h1,h2⟩:=q6w h s t f
  exact zg5 h1 h2
 have m:∀i j,i≤j→j<abl q→(q.getD i Pm.zero).z.next≤(q.getD j Pm.zero).z.next:=λi j hi a=>by
  have B:=h.1
  rw [zdg h om,zdg h om]
  have:=q6v (l:=l) (show i+1≤j+1 by omega)
  omega
 have g:∀j,j<abl q→1≤(q.getD j Pm.zero).z.next∧(q.getD j Pm.zero).z.next≤281474976710657:=λj a=>(k _ (ab6.2 ⟨_,qe Pm.zero a,rfl⟩)).nx
 have d:abl (q.map Pm.v)=abl q:=abu _
 have hs:nO 0 (q.map Pm.v):=qxj _ _ (λj a=>abw _) λi j hi a=>by
  rw [d] at a
  rw [vY om,vY a]
  show aH (q.getD i Pm.zero).z.next≤aH (q.getD j Pm.zero).z.next
  have h1:=m i j om a
  have h2:=g i om
  have h3:=g j a
  unfold aH
  omega
 have n:abl (q.map Pm.v)≤8:=by have:=h.1;omega
 obtain ⟨L,bs,o⟩:=zg4 k hs n
 have u:∀p∈q,gK p:=λp f=>by
  obtain ⟨x,nx,h1,h2⟩:=q6w h s t f
  exact IE h1 h2
 refine ⟨L,bs,o,by rw [o.len,d],λj a=>?_,m,g,u,λp f=>k _ (ab6.2 ⟨p,f,rfl⟩),?_⟩
 ·rw [o.nx j om,vY a]
  rfl
 ·have e:=o.wr
  unfold nH at e
  split at e
  ·injection e with e _;subst e;intro z hz;cases hz
  ·split at e
   ·injection e with e _;subst e;intro z hz;cases hz
   ·rename_i C _
    injection e with e _
    subst e
    intro z hz
    rcases ab5.1 hz with hz|hz
    ·unfold headA at hz
     refine Nl (λy c=>?_) z hz
     rcases ab5.1 c with c|c
     ·have:∀y∈([113,97,1]:List Nat),y<256:=by decide
      exact this y c
     ·exact XJ y c
    ·rw [SC k n _ (abq _)] at hz
     obtain ⟨x,r,hz⟩:=acE.1 hz
     rw [ada] at r
     obtain ⟨p,f,rfl⟩:=ab6.1 r
     rcases ab5.1 hz with hz|hz
     ·rw [Dl (k _ r).qP] at hz
      exact Nl (XK _) z hz
     ·exact q2u (λb A=>by obtain ⟨y,c,rfl⟩:=ab6.1 A;exact (u p f).RA y c) z hz
def zdh {L:List Pl} {bs:List Nat} (h:vZ q L bs) {n v:Int} {c:Nat} (a:iD bs n=(v,c)):(∃i:Nat,v=(i:Int)∧c=0∧i<abl q∧(q.getD i Pm.zero).z.next≤n∧∀j,i<j→j<abl q→n<(q.getD j Pm.zero).z.next)∨(v=0∧c=6∧∀j,j<abl q→n<(q.getD j Pm.zero).z.next):=by
 rw [q6h h.wr.idx] at a
 rcases qne (L:=L) (n:=n) (abl L) with ⟨i,h1,h2⟩|⟨h1,h2⟩
 ·rw [h1] at a
  injection a with e1 e2
  have hi:=h2.lt
  rw [h.len] at hi
  exact .inl ⟨i,e1.symm,e2.symm,hi,by rw [←h.nx i hi];exact h2.le,λj b d=>by rw [←h.nx j d];exact h2.gt j b (by rw [h.len];exact d)⟩
 ·rw [h1] at a
  injection a with e1 e2
  exact .inr ⟨e1.symm,e2.symm,λj b=>by rw [←h.nx j b];exact h2 j (by rw [h.len];exact b)⟩
end
section
open Go.ChangeShapes Go.WideShapes Go.ChangeAt
section
variable {H:Type} {enc:TypeId×Value→H} {W:World} {b0:Nat} {v:Value} {d:DataW H} {p:List MemPlace}
def q6q:Tryz.prog.underlying 22=some (.slice 104):=by kernel_rfl
theorem qxh:Tryz.prog.cellsOf 104=16:=by kernel_rfl
theorem q0c:Tryz.prog.cellsOf 101=1:=by kernel_rfl
theorem q0d:Tryz.prog.cellsOf 102=1:=by kernel_rfl
def Iu:fieldAt abm 104 0 0 100=true:=by kernel_rfl
def Iw:fieldAt abm 104 1 13 101=true:=by kernel_rfl
def Iy:fieldAt abm 104 2 14 61=true:=by kernel_rfl
def Iz:fieldAt abm 104 3 15 102=true:=by kernel_rfl
theorem zg1 {B D:List Value} {a b c:Value} (e:abl B=16) (h0:B.take 13=D) (h1:B[13]?=some a) (h2:B[14]?=some b) (h3:B[15]?=some c):B=D++[a,b,c]:=by
 subst h0
 refine Eh (by rw [abn,abr,e];rfl) λi hi=>?_
 rw [abn,abr,e] at hi
 have hi:i<16:=hi
 rcases ab7 i 13 with h|h
 ·rw [aea (by rw [abr,e];omega),List.getElem?_take,if_pos h]
 ·rw [adt (by rw [abr,e];omega),abr,e]
  have hc:i=13∨i=14∨i=15:=by omega
  rcases hc with rfl|rfl|rfl
  ·exact h1
  ·exact h2
  ·exact h3
set_option maxRecDepth 100000 in
theorem zg2 {m:Nat} {D:List Value} {y:DataW H×List MemPlace} (a:DataW.trod enc Tryz.prog W 0 (λ_=>true) true m 104 D=some y):∃x:Ap,DY x=D∧kV W x:=by
 obtain ⟨b,_,K,g⟩:=qx Iu a
 obtain ⟨_,_,L,i⟩:=qx Iw a
 obtain ⟨_,_,M,j⟩:=qx Iy a
 obtain ⟨_,_,N,k⟩:=qx Iz a
 rw [qxh] at b
 obtain ⟨n,e,f⟩:=q5d g
 obtain ⟨A,c,l,e1,o,r,s,t⟩:=Kw yj iJ.Ok zaf qzz de QL (λ_ _ _ h=>zag h) i
 obtain ⟨gp,e2,u⟩:=WB j
 obtain ⟨B,w,q,e3,z,C,E,F⟩:=Kw xI (oO W) zem WY de WV (λ_ _ _ h=>q8u h) k
 rw [Zy,List.drop_zero] at e
 rw [q0c] at e1
 rw [WA] at e2
 rw [q0d] at e3
 have G:=zx e1
 have I:=zx e2.symm
 have J:=zx e3
 unfold maxLen at r C
 refine ⟨⟨n,A,c,l,gp,B,w,q⟩,?_,⟨f,s,o,by show l.length≤_;omega,t,u,E,z,by show q.length≤_;omega,F⟩⟩
 rw [zg1 b e.symm G I J,←zdf f]
 rfl
set_option maxRecDepth 100000 in
theorem zg3 (a:Value.okWide Tryz.prog W .any b0 22 v) (h:DataW.Trod enc Tryz.prog W 0 (λ_=>true) true 22 v d p):
  ∃(A:Option Addr) (c:Nat) (l:List Ap),v= .slice A l.length c∧l.length≤c∧c≤maxLen∧(∀x∈l,kV W x)∧Rd W W.heap.size 16 A l.length (l.flatMap DY):=by
 obtain ⟨g,len,cap,rfl⟩:=okWide_slice q6q a
 obtain ⟨e,f⟩:=h
 obtain ⟨A,c,l,b,h1⟩:=Kw DY (kV W) q6q qxh de q6o (λ_ _ _ h=>zg2 h) f
 simp only [Value.cells,List.cons.injEq,and_true,Value.slice.injEq] at b
 obtain ⟨rfl,rfl,rfl⟩:=b
 exact ⟨_,_,l,rfl,h1⟩
end
end
def Ai (l:List α) (m:Nat):Value.int .i64 (if ((m:Int)<(abl l:Int)) then (m:Int) else (abl l:Int))=vI ((abl (l.take m):Nat):Int):=by
 rw [abr]
 split<;>congr 1<;>omega
def aa5 {s t:List Fact} (h:Mem W w (a++(s++t))):Mem W w (a++(t++s)):=h.perm (ad5 a ac7)
def q0g (A:Option Addr) (c:Nat) (l:List Ap) (w:World) (hr:Rd w w.heap.size 16 A (abl l) (l.flatMap DY)) (hP:∀x∈l,kV w x) (hc:abl l≤c) (hn:abl l≤9223372036854775807):
    Calls abm 14 #[abh A l c] w (Ir w l):=by
 refine (dV Tryz.func14 67) ?_
 refine (JP∘Jp 2∘Jr∘Jp 1∘Jq∘JC (h:=by exact λe=>e.nil 53 9)∘JC (h:=by exact λe=>(show Mem w _ (.row (vN) 0 [] 53 9::gG []) from e))∘JG∘JP∘Jp 1∘Jj∘JQ∘JP∘Jp 2∘Jl∘Jy (v:=vI (if (4:Int)<(abl l:Int) then 4 else (abl l:Int))) (h:=by exact Yl.min rfl rfl rfl)∘Jo (vI (abl (l.take 4))) (by exact Ai l 4)∘Jy (h:=by exact aag Iq (j:=abl (l.take 4)) rfl rfl rfl (by rw [abr];omega))∘Jl∘Jp 1∘Jj∘JB) λa Z e=>?_
 refine qg (λmS aS wS=>∃(i:Nat) (sg:Nat) (g:List Pm) (J:Option Addr) (co:Nat),(i≤abl (l.take 4))∧(sg=iK l i)∧(lM l g i)∧(abl g≤co)∧mS=abl (l.take 4)-i∧Fr aS 67 [] [(19,vI i),(18,vI (abl (l.take 4):Nat)),(17,abh A (l.take 4) c),(5,vI sg),(4,abh J g co),(3,.bool false),(2,vN)]∧Mem w wS (abk J g co lJ 53 9::gG g)) (m:=abl (l.take 4)-0) ⟨0,0,[],none,0,abw _,Sy.symm,zbg,abq _,rfl,Z.sub kr,e.pt 1 [0]⟩ ?_
 clear Z e;rintro mS a w_ ⟨i,sg,g,J,co,hi,hsg,Q,hco,rfl,Z,e⟩
 refine Jb Z e ((JP∘Jp 1∘Jj∘JQ) (Ji (λK=>?_) λK=>?_))
 ·
  have L:i<abl l:=by rw [abr] at K;omega
  have YQ:=Q.1
  have hgu:=q6p L
  have hgl:=zg0 (i:=i+1) (λy hy=>(hP y hy).gap)
  have hi4:i+1≤4:=by rw [abr] at K;omega
  have hgI:aR (iK l (i+1):Int):=by unfold aR;omega
  obtain ⟨x,hx⟩:∃x,(l.getD i Ap.zero)=x:=⟨_,rfl⟩
  have C:=hP x (by rw [←hx];exact qe Ap.zero L)
  have hxq:=C.qn
  have hxg:=C.gap
  rw [hx] at hgu
  refine (JT∘aD∘JQ∘JB∘JP) ?_
  obtain ⟨gA,oA,rfl,_⟩:=hr.sat i
  refine (gV i 16∘oK Ap.cells q6o hr Ah i Ap.zero (hk:=L)∘Jo (.agg x.cells) (by rw [hx])∘JA #[vB 0,vB 0,vW 0,vB 0,vB 0,vB 0,vB 0,vB 0,.int .u16 0,.int .u16 0,.int .u16 0,.int .u16 0,.int .u16 0,vN,vW 0,vN]) λw7 M=>(JV Ah aT (h1:=by exact zjv x)) λFJ=>(bH∘Jr∘Jp 1∘Jg 14 O0∘Jw .i64∘Jp 1∘Jo (vI (iK l (i+1))) (by rw [hgu,←hsg];exact q7 om om)∘Jp 1∘gu∘Jr∘Jf 0∘Jy (v:= .agg #[vB x.n.ak,vB x.n.groups,vW x.n.aj,vB (x.n.ps.getD 0 0),vB (x.n.ps.getD 1 0),vB (x.n.ps.getD 2 0),vB (x.n.ps.getD 3 0),vB (x.n.ps.getD 4 0),.int .u16 (x.n.ws.getD 0 0),.int .u16 (x.n.ws.getD 1 0),.int .u16 (x.n.ws.getD 2 0),.int .u16 (x.n.ws.getD 3 0),.int .u16 (x.n.ws.getD 4 0)]) (h:=by exact Pe rfl rfl Zq rfl (λ_ h=>h.sub (i:=0) rfl 0 rfl))∘Jo (.agg x.n.cells) (by exact congrArg Value.agg (zdf C.n))∘Jg 13 O0∘Jp 1∘JL (h:=by exact λe=>q0f x.n C.n x.A x.c x.l C.l C.lc C.ln (iK l (i+1):Int) hgI _ (e.old C.lr))) ?_
  rintro e _ w34 ⟨z,rfl,hsz,hgz,hiz,hnz,hm⟩
  refine ⟨_,rfl,_,(show Mem w w34 (.blk M x.cells 104:: abk J g co lJ 53 9::(jr z.st++(gG g))) from e.vg (T:=gG g) 2 hm rfl),?_⟩
  refine (Jp 1∘Jx∘Jx∘JA #[vI 0,vI 0,vQ 0,vN,vN,vN,vN,vN]) λw8 P=>(JV zn aT (h1:=by exact KO z)) λabz=>(Jp 1∘Jj∘JQ∘JP∘Jp 2∘aK∘Jj∘JF∘aD∘JP∘d9 zn O0∘fu #[vI z.next,vI z.st.ak,vQ z.st.aj,abh z.st.gA z.st.gs z.st.gc,abh z.st.lA z.st.cl z.st.lc,abh z.st.uA z.st.cu z.st.uc,abh z.st.tA z.st.ts z.st.tc,abh z.st.sA z.st.rs z.st.sc,vN]∘JA #[vI 0,vI 0,vQ 0,vN,vN,vN,vN,vN,vN]) λtZ D=>(JV cB aT) λabA=>(bH∘Jj∘JQ∘JP∘Jg 15 O2∘Jg 15 O2∘Jl∘Jy (v:=vI (if (5:Int)<(abl x.q:Int) then 5 else (abl x.q:Int))) (h:=by exact Yl.min rfl rfl rfl)∘Jo (vI (abl (x.q.take 5))) (by exact Ai x.q 5)∘Jy (h:=by exact aag zic (j:=abl (x.q.take 5)) rfl rfl rfl (by rw [abr];have:=C.qc;omega))∘Jl∘Jp 1∘Jq) λa Z e=>?_
  replace e:=e.nil 85 5
  replace e:Mem w _ (.row (vN) 0 [] 85 5:: .blk D #[vI z.next,vI z.st.ak,vQ z.st.aj,abh z.st.gA z.st.gs z.st.gc,abh z.st.lA z.st.cl z.st.lc,abh z.st.uA z.st.cu z.st.uc,abh z.st.tA z.st.ts z.st.tc,abh z.st.sA z.st.rs z.st.sc,vN] 53:: .blk P z.cells 50:: .blk M x.cells 104:: abk J g co lJ 53 9::(gW 73 []++(gG g++(jr z.st)))):=aa5 (a:=[.row (vN) 0 [] 85 5,.blk D #[vI z.next,vI z.st.ak,vQ z.st.aj,abh z.st.gA z.st.gs z.st.gc,abh z.st.lA z.st.cl z.st.lc,abh z.st.uA z.st.cu z.st.uc,abh z.st.tA z.st.ts z.st.tc,abh z.st.sA z.st.rs z.st.sc,vN] 53,.blk P z.cells 50,.blk M x.cells 104,abk J g co lJ 53 9]) e
  refine Jb Z e ((JG∘JB) λa Z e=>?_)
  refine qg (λmS aS wS=>∃(k:Nat) (o:List Hb) (u:Option Addr) (s:Nat),(k≤abl (x.q.take 5))∧(o.map acZ=qJ (x.q.take k))∧(abl o=k)∧(abl o≤s)∧mS=abl (x.q.take 5)-k∧Fr aS 67 [] [(49,vI k),(48,vI (abl (x.q.take 5):Nat)),(47,abh x.B (x.q.take 5) x.d),(10,vP D 0),(38,.bool false),(9,.bool true),(8,vP P 0),(5,vI (iK l (i+1))),(7,vP M 0),(20,.bool true),(19,vI i),(18,vI (abl (l.take 4):Nat)),(17,abh (some ⟨gA,oA,none⟩) (l.take 4) c),(4,abh J g co),(3,.bool false),(2,vN)]∧Mem w wS (abk u o s hbL 85 5:: .blk D #[vI z.next,vI z.st.ak,vQ z.st.aj,abh z.st.gA z.st.gs z.st.gc,abh z.st.lA z.st.cl z.st.lc,abh z.st.uA z.st.cu z.st.uc,abh z.st.tA z.st.ts z.st.tc,abh z.st.sA z.st.rs z.st.sc,abh u o s] 53:: .blk P z.cells 50:: .blk M x.cells 104:: abk J g co lJ 53 9::(gW 73 o++(gG g++(jr z.st))))) (m:=abl (x.q.take 5)-0) ⟨0,[],none,0,abw _,rfl,rfl,abq _,rfl,Z.sub kr,e.pt 5 [0,1,2,3,4]⟩ ?_
  clear Z e;rintro mS a w_ ⟨k,o,u,s,hk,hq2,hl2,hcb,rfl,Z,e⟩
  refine Jb Z e ((JP∘Jp 1∘Jj∘JQ) (Ji (λI=>?_) λI=>?_))
  ·
   have hk5:k<5:=by rw [abr] at I;omega
   have N:k<abl x.q:=by rw [abr] at I;omega
   have R:=C.q _ (qe fA.zero N)
   have hts:=qyh N
   refine (JT∘aD∘JQ∘JB∘JP) ?_
   obtain ⟨Fy,Fz,W,_⟩:=Rd.sat C.qr k
   have S:=C.qr;rw [W] at S
   refine (Jk 47 (.slice (some ⟨Fy,Fz,none⟩) (abl (x.q.take 5)) x.d) (h:=by rw [W];try rfl)∘gV k 6∘Jy (v:= .agg ((x.q.getD k fA.zero).x.cells (x.q.getD k fA.zero).A (x.q.getD k fA.zero).c)) (h:=by exact Pe rfl rfl uw rfl (λ_ h=>(h.old S).Ay WV ((getD_at fA.zero N))))∘JA #[.bool false,vB 0,vW 0,vI 0,vI 0,vN]) λDi X=>(JV uw aT (h1:=by exact zia _ _ _)) λabB=>(bH∘Jj∘Vs (.t (.f .n)) [7]) λBA=>(Vf 0 8∘Vc 1 O1∘qF 2 uw O0∘VK 3 (.t (.f .n)) (h:=by exact λe=>q6x (x.q.getD k fA.zero).x R.ok (x.q.getD k fA.zero).A (x.q.getD k fA.zero).c _ (e.old R.rd) R.hc R.hm)) λp r w56 apa=>λa Z e HS=>?_
   refine s_on Z 4 rfl (iT Z e ER [(0,.agg ((x.q.getD k fA.zero).x.made.cells p r))] ((x.q.getD k fA.zero).x.made.cells p r) ?_)
   clear Z e;intro a w57 Y Z e
   refine ay (e.pt 8 [2,4,5,6,7]) (λHS=>?_)
   refine s_on Z 5 rfl (p9 Z e (i:=3) rfl ER rfl rfl rfl (news:=(hbL (⟨(x.q.getD k fA.zero).x.made,p,r⟩:Hb))) (e.aX (i:=0) (n:=1) (size:=5) rfl rfl) (sQ _ _ _) om om rfl de ?_)
   clear Z e;intro a Lu E F Z e U
   refine ay (e.pt 8 [2,4,5,6,7]) (λHS=>?_)
   refine Vb Z e HS ((Vf 6 8) λa Z e HS=>?_)
   refine s_on Z 7 rfl (fE Z e 4 λabC e=>?_)
   refine dJ kr ?_
   refine qd kr ?_
   have G:abl o+1=abl (o++[(⟨(x.q.getD k fA.zero).x.made,p,r⟩:Hb)]):=by rw [abn];rfl
   rw [G] at U
   replace e:=e.aY (i:=3) (ys:=(o++[(⟨(x.q.getD k fA.zero).x.made,p,r⟩:Hb)]).flatMap hbL) rfl G (by rw [ab2,abT,ad9,abU])
   replace Z:=Z.sp 58 (.slice E (abl (o++[(⟨(x.q.getD k fA.zero).x.made,p,r⟩:Hb)])) F) rfl (iy G)
   replace e:=e.dL (i:=4) (ds:= #[vI z.next,vI z.st.ak,vQ z.st.aj,abh z.st.gA z.st.gs z.st.gc,abh z.st.lA z.st.cl z.st.lc,abh z.st.uA z.st.cu z.st.uc,abh z.st.tA z.st.ts z.st.tc,abh z.st.sA z.st.rs z.st.sc,.slice E (abl (o++[(⟨(x.q.getD k fA.zero).x.made,p,r⟩:Hb)])) F]) rfl (by rw [G];try rfl)
   replace e:=aaQ (a:=[.blk Y ((x.q.getD k fA.zero).x.made.cells p r) 85,.blk X ((x.q.getD k fA.zero).x.cells (x.q.getD k fA.zero).A (x.q.getD k fA.zero).c) 113,.row (.slice E (abl (o++[(⟨(x.q.getD k fA.zero).x.made,p,r⟩:Hb)])) F) (abl (o++[(⟨(x.q.getD k fA.zero).x.made,p,r⟩:Hb)])) ((o++[(⟨(x.q.getD k fA.zero).x.made,p,r⟩:Hb)]).flatMap hbL) 85 5,.blk D #[vI z.next,vI z.st.ak,vQ z.st.aj,abh z.st.gA z.st.gs z.st.gc,abh z.st.lA z.st.cl z.st.lc,abh z.st.uA z.st.cu z.st.uc,abh z.st.tA z.st.ts z.st.tc,abh z.st.sA z.st.rs z.st.sc,.slice E (abl (o++[(⟨(x.q.getD k fA.zero).x.made,p,r⟩:Hb)])) F] 53,.blk P z.cells 50,.blk M x.cells 104,abk J g co lJ 53 9]) (q:=o) (b:=gG g++(jr z.st)) (e.pt (fs':=(.row (.slice p ((x.q.getD k fA.zero).x.made.evs.length) r) ((x.q.getD k fA.zero).x.made.evs.length) ((x.q.getD k fA.zero).x.made.evs.flatMap gZ) 73 11:: .blk Y ((x.q.getD k fA.zero).x.made.cells p r) 85:: .blk X ((x.q.getD k fA.zero).x.cells (x.q.getD k fA.zero).A (x.q.getD k fA.zero).c) 113:: .row (.slice E (abl (o++[(⟨(x.q.getD k fA.zero).x.made,p,r⟩:Hb)])) F) (abl (o++[(⟨(x.q.getD k fA.zero).x.made,p,r⟩:Hb)])) ((o++[(⟨(x.q.getD k fA.zero).x.made,p,r⟩:Hb)]).flatMap hbL) 85 5:: .blk D #[vI z.next,vI z.st.ak,vQ z.st.aj,abh z.st.gA z.st.gs z.st.gc,abh z.st.lA z.st.cl z.st.lc,abh z.st.uA z.st.cu z.st.uc,abh z.st.tA z.st.ts z.st.tc,abh z.st.sA z.st.rs z.st.sc,.slice E (abl (o++[(⟨(x.q.getD k fA.zero).x.made,p,r⟩:Hb)])) F] 53:: .blk P z.cells 50:: .blk M x.cells 104:: abk J g co lJ 53 9::(gW 73 o++(gG g++(jr z.st))))) 8 [1,0,2,3,4,5,6,7])
   replace e:Mem w _ (.blk Y ((x.q.getD k fA.zero).x.made.cells p r) 85:: .blk X ((x.q.getD k fA.zero).x.cells (x.q.getD k fA.zero).A (x.q.getD k fA.zero).c) 113:: .row (.slice E (abl (o++[(⟨(x.q.getD k fA.zero).x.made,p,r⟩:Hb)])) F) (abl (o++[(⟨(x.q.getD k fA.zero).x.made,p,r⟩:Hb)])) ((o++[(⟨(x.q.getD k fA.zero).x.made,p,r⟩:Hb)]).flatMap hbL) 85 5:: .blk D #[vI z.next,vI z.st.ak,vQ z.st.aj,abh z.st.gA z.st.gs z.st.gc,abh z.st.lA z.st.cl z.st.lc,abh z.st.uA z.st.cu z.st.uc,abh z.st.tA z.st.ts z.st.tc,abh z.st.sA z.st.rs z.st.sc,.slice E (abl (o++[(⟨(x.q.getD k fA.zero).x.made,p,r⟩:Hb)])) F] 53:: .blk P z.cells 50:: .blk M x.cells 104:: abk J g co lJ 53 9::(gW 73 (o++[(⟨(x.q.getD k fA.zero).x.made,p,r⟩:Hb)])++(gG g++(jr z.st)))):=e
   refine Jb Z e ((JG∘JR∘bT 1∘Jp 1∘aK∘Jq) λa Z e=>?_)
   replace Z:=Z.sp 47 (abh x.B (x.q.take 5) x.d) rfl (by rw [W])
   exact ⟨_,om,k+1,(o++[(⟨(x.q.getD k fA.zero).x.made,p,r⟩:Hb)]),E,F,by omega,by rw [hts,abV,hq2];rfl,by rw [abn,hl2];rfl,U,rfl,Z.sub kr,e.pt 7 [2,3,4,5,6]⟩
  have hqq:o.map acZ=qJ (x.q.take 5):=by rw [hq2,show k=min 5 (abl x.q) by rw [abr] at hk I;omega,←List.take_eq_take_min]
  refine (JF∘JX∘JG∘JR∘Jp 1∘d9 cB O1∘JU pG #[vI z.next,vI z.st.ak,vQ z.st.aj,abh z.st.gA z.st.gs z.st.gc,abh z.st.lA z.st.cl z.st.lc,abh z.st.uA z.st.cu z.st.uc,abh z.st.tA z.st.ts z.st.tc,abh z.st.sA z.st.rs z.st.sc,abh u o s]) λQo SG=>(JD (lJ (⟨z,u,s,o⟩:Pm)) 5 (λ_ _=>tX) pG (hr:=by exact λe=>e.aX (i:=0) (n:=1) (size:=9) rfl rfl) (h1:=by exact DR _)) λw64 O c64 V=>(Jp 1∘gu∘Jq) ?_
  have H:abl g+1=abl (g++[(⟨z,u,s,o⟩:Pm)]):=by rw [abn];rfl
  rw [H] at V
  intro a Z e
  replace e:=e.aY (i:=5) (ys:=(g++[(⟨z,u,s,o⟩:Pm)]).flatMap lJ) rfl H (by rw [ab2,abT,ad9,abU])
  replace Z:=Z.sp 4 (abh O (g++[(⟨z,u,s,o⟩:Pm)]) c64) rfl (iy H)
  replace e:=aaY (a:=[.blk SG #[vI z.next,vI z.st.ak,vQ z.st.aj,abh z.st.gA z.st.gs z.st.gc,abh z.st.lA z.st.cl z.st.lc,abh z.st.uA z.st.cu z.st.uc,abh z.st.tA z.st.ts z.st.tc,abh z.st.sA z.st.rs z.st.sc,abh u o s] 53,.blk D #[vI z.next,vI z.st.ak,vQ z.st.aj,abh z.st.gA z.st.gs z.st.gc,abh z.st.lA z.st.cl z.st.lc,abh z.st.uA z.st.cu z.st.uc,abh z.st.tA z.st.ts z.st.tc,abh z.st.sA z.st.rs z.st.sc,abh u o s] 53,.blk P z.cells 50,.blk M x.cells 104,abk O (g++[(⟨z,u,s,o⟩:Pm)]) c64 lJ 53 9]) (e.pt (fs':=(abk u o s hbL 85 5:: .blk SG #[vI z.next,vI z.st.ak,vQ z.st.aj,abh z.st.gA z.st.gs z.st.gc,abh z.st.lA z.st.cl z.st.lc,abh z.st.uA z.st.cu z.st.uc,abh z.st.tA z.st.ts z.st.tc,abh z.st.sA z.st.rs z.st.sc,abh u o s] 53:: .blk D #[vI z.next,vI z.st.ak,vQ z.st.aj,abh z.st.gA z.st.gs z.st.gc,abh z.st.lA z.st.cl z.st.lc,abh z.st.uA z.st.cu z.st.uc,abh z.st.tA z.st.ts z.st.tc,abh z.st.sA z.st.rs z.st.sc,abh u o s] 53:: .blk P z.cells 50:: .blk M x.cells 104:: abk O (g++[(⟨z,u,s,o⟩:Pm)]) c64 lJ 53 9::(gW 73 o++(gG g++(jr z.st))))) 6 [1,0,2,3,4,5])
  replace e:Mem w _ (.blk SG #[vI z.next,vI z.st.ak,vQ z.st.aj,abh z.st.gA z.st.gs z.st.gc,abh z.st.lA z.st.cl z.st.lc,abh z.st.uA z.st.cu z.st.uc,abh z.st.tA z.st.ts z.st.tc,abh z.st.sA z.st.rs z.st.sc,abh u o s] 53:: .blk D #[vI z.next,vI z.st.ak,vQ z.st.aj,abh z.st.gA z.st.gs z.st.gc,abh z.st.lA z.st.cl z.st.lc,abh z.st.uA z.st.cu z.st.uc,abh z.st.tA z.st.ts z.st.tc,abh z.st.sA z.st.rs z.st.sc,abh u o s] 53:: .blk P z.cells 50:: .blk M x.cells 104:: abk O (g++[(⟨z,u,s,o⟩:Pm)]) c64 lJ 53 9::gG (g++[(⟨z,u,s,o⟩:Pm)])):=e
  refine Jb Z e ((JG∘JR∘bT 1∘Jp 1∘aK∘Jq) λa Z e=>?_)
  exact ⟨_,om,i+1,iK l (i+1),(g++[(⟨z,u,s,o⟩:Pm)]),O,c64,by omega,rfl,zjw Q hx ⟨hsz,hgz,hiz,hnz ⟨by omega,by omega⟩,hqq,hcb⟩,V,rfl,Z.sub kr,e.pt 5 [4]⟩
 have hin:i=abl (l.take 4):=by omega
 exact (JF∘JX∘JG∘JP∘Jp 3∘Jj∘JZ∘bG) λe=>by exact ⟨_,_,g,rfl,by rw [hin] at Q;exact Q,hco,e.pt (fs':=(abk J g co lJ 53 9::gG g)) 1 [0]⟩
def quy (A:Option Addr) (c:Nat) (l:List Nat) (S:Nat) (w:World) (hL:aM S w) (hB:S≤w.heap.size) (hr:Rd w w.heap.size 1 A (abl l) (l.map B8)) (hc:abl l≤c) (hl:∀b∈l,b<256) (T:iF l) (hn:abl l≤100000000):
    Calls abm 71 #[.slice A (abl l) c] w (AZ 73 85 w (readAll l).2 (readAll l).1):=by
 refine Kh (vs:=[abh A l c]) Tryz.func71 rfl rfl kr (σ0:=[(0,abh A l c)]) rfl ?_
 intro a Z
 have d:=Mem.start w
 refine Jb Z d ((JP∘JA #[vN]) λw2 s=>(JA #[vI 0]) λw3 t=>(Jj∘JQ∘JP∘Jp 1∘Jl∘Jp 1∘bH∘Jj) (Ji (λU=>?_) λU=>?_))
 ·
  refine (JT∘JP∘JW fU aT) λapv=>(JW aT aT) λapw=>(Jj∘JZ) λa Z d=>?_
  refine UJ ?_
  exact eZ rfl Z (.cell1 (i:=1) Z d rfl rfl kr rfl) (.cell1 (i:=0) Z d rfl rfl kr rfl) (WL d (WI om) rfl)
 refine (JF∘aD∘JP∘JA #[vN]) λw4 D=>(Jj∘JQ∘JP∘Jp 1∘JL (h:=by exact λd=>q0h A (abl l) c _)) ?_
 rintro d _ wK ⟨gp,rfl,hm⟩
 refine ⟨_,rfl,_,d.join hm,?_⟩
 refine (aK∘Jq∘JC (h:=by exact λd=>d.nil 85 5)∘JC (h:=by exact λd=>(show Mem w _ (.row (vN) 0 [] 85 5:: .blk gp #[abh A l c] 30:: .blk D #[vN] 51:: .blk t #[vI 0] 27:: .blk s #[vN] 51::gW 73 []) from d))∘JG∘JB) λa Z d=>?_
 refine Kg Z d (λF=>∃(q:List Hb) (f:Nat) (x:Option Addr) (co:Nat),(abl ([]:List Nat)≤f)∧(q.map acZ++(qw f ([]:List Nat)).1=(qw (abl l) l).1)∧((qw (abl l) l).2.2=(qw f ([]:List Nat)).2.2)∧(abl q≤co)∧(abl q+abl ([]:List Nat)≤abl l)∧F=(abk x q co hbL 85 5:: .blk D #[abh x q co] 51:: .blk t #[vI 0] 27:: .blk s #[vN] 51::gW 73 q)) (λc F=>c= .ret∧∃(q:List Hb) (e:Nat),(e≠0)∧((qw (abl l) l).2.2=e)∧F=(.blk t #[vI e] 27:: .blk s #[vN] 51::gW 73 q)) rfl kr ?_ ?_ ?_
 ·
  clear Z d;intro C B p w1 N d
  have hy:WC w C (λu F=>∃(q:List Hb) (f:Nat) (x:Option Addr) (co:Nat),(abl u≤f)∧(q.map acZ++(qw f u).1=(qw (abl l) l).1)∧((qw (abl l) l).2.2=(qw f u).2.2)∧(abl q≤co)∧(abl q+abl u≤abl l)∧F=(.obj C (.loop (p .ready none)):: .obj B (.deferred (some []))::(abk x q co hbL 85 5:: .blk D #[abh x q co] 51:: .blk t #[vI 0] 27:: .blk s #[vN] 51::gW 73 q))) (λF=>∃(q:List Hb) (e:Nat),(e≠0)∧((qw (abl l) l).2.2=e)∧F=(.obj C (.loop (p .done (some .ret))):: .obj B (.deferred (some []))::(.blk t #[vI e] 27:: .blk s #[vN] 51::gW 73 q))):=by
   rintro u F fr w3 g j b m M ⟨q,f,x,co,V,E,y,G,I,rfl⟩ hq O hrl hcb d
   replace d:=d.pt (fs':=(.obj C (.loop (p .ready none)):: abk g b.evs j gZ 73 11:: .obj B (.deferred (some [])):: abk x q co hbL 85 5:: .blk D #[abh x q co] 51:: .blk t #[vI 0] 27:: .blk s #[vN] 51::(gW 73 q++(fr)))) 7 [1,0,2,3,4,5,6]
   refine Nf (v1:= .agg #[vB (b.kind:Int),vB (b.cpu:Int),vI b.lost,vI b.next,abh g b.evs j,vI m]) (v2:=vI M) N d de de λa Z=>?_
   refine wpIn_seq ?_
   refine qy ?_
   refine Jb Z d ((JA #[vB 0,vB 0,vI 0,vI 0,vN,vI 0]) λw5 P=>(JV zbi aT) λSL=>(Jq) λa Z d=>?_)
   refine qy ?_
   refine Jb Z d ((Jp 1∘Jq) λa Z d=>?_)
   refine ⟨(.blk P #[vB (b.kind:Int),vB (b.cpu:Int),vI b.lost,vI b.next,abh g b.evs j,vI m] 255:: abk g b.evs j gZ 73 11:: .obj B (.deferred (some [])):: abk x q co hbL 85 5:: .blk D #[abh x q co] 51:: .blk t #[vI 0] 27:: .blk s #[vN] 51::(gW 73 q++(fr))),d.pt (fs':=(.obj C (.loop (p .ready none)):: .blk P #[vB (b.kind:Int),vB (b.cpu:Int),vI b.lost,vI b.next,abh g b.evs j,vI m] 255:: abk g b.evs j gZ 73 11:: .obj B (.deferred (some [])):: abk x q co hbL 85 5:: .blk D #[abh x q co] 51:: .blk t #[vI 0] 27:: .blk s #[vN] 51::(gW 73 q++(fr)))) 8 [1,0,2,3,4,5,6,7],λw4 d=>?_⟩
   refine wpIn_block ?_
   refine wpIn_seq ?_
   refine wpIn_seq ?_
   refine qy ?_
   refine Jb Z d ((Jp 2∘aK∘Jq) (Jh (λQ=>?_) λQ=>?_))
   ·
    intro a Z d
    have W:=qta (f:=f) om O hq om
    rw [W] at y
    refine UE Z rfl ?_
    refine wpIn_seq ?_
    refine qy ?_
    refine Jb Z d ((Jp 1∘JW xB aT) λOa=>(JW xA aT) λapx=>(mW∘Jq) λa Z d=>?_)
    refine wpIn_ret ?_
    refine ⟨(.obj B (.deferred (some [])):: .blk t #[vI M] 27:: .blk s #[vN] 51::(gW 73 q++(fr))),d.pt (fs':=(.obj C (.loop (p .busy none)):: .obj B (.deferred (some [])):: .blk t #[vI M] 27:: .blk s #[vN] 51::(gW 73 q++(fr)))) 8 [0,3,6,7],λw5 d=>?_⟩
    exact ⟨(.obj C (.loop (p .done (some .ret))):: .obj B (.deferred (some [])):: .blk t #[vI M] 27:: .blk s #[vN] 51::gW 73 q),d,.inr ⟨om,rfl,q,M,by omega,y,rfl⟩⟩
   intro a Z d
   have X:M=0:=by omega
   have J:=hq
   rw [X] at J
   have W:=qqh (f:=f) om O J
   obtain ⟨apy,hml,_⟩:=Kt J
   rw [W] at E y
   dsimp only at E y
   refine UF Z rfl ?_
   refine wpIn_skip ?_
   refine qy ?_
   refine Jb Z d ((Jc O5∘Jf 0∘Jy (v:= .agg #[vB b.kind,vB b.cpu,vI b.lost,vI b.next,abh g b.evs j]) (h:=by exact Pe rfl rfl aL rfl (λ_ h=>h.sub (i:=1) rfl 0 rfl))∘JU ER #[vB b.kind,vB b.cpu,vI b.lost,vI b.next,abh g b.evs j]) λOU K=>(JD (hbL (⟨b,g,j⟩:Hb)) 5 (λ_ _=>tX) ER (hr:=by exact λd=>d.aX (i:=0) (n:=1) (size:=5) rfl rfl) (h1:=by exact sQ _ _ _)) λGa k o H=>(JW xA aT) λRG=>(qE∘Jq) λa Z d=>?_)
   have z:abl q+1=abl (q++[(⟨b,g,j⟩:Hb)]):=by rw [abn];rfl
   rw [z] at H
   replace d:=d.aY (i:=5) (ys:=(q++[(⟨b,g,j⟩:Hb)]).flatMap hbL) rfl z (by rw [ab2,abT,ad9,abU])
   replace d:=d.dL (i:=6) (ds:= #[.slice k (abl (q++[(⟨b,g,j⟩:Hb)])) o]) rfl (by rw [z];try rfl)
   replace d:=aaQ (a:=[.blk K #[vB b.kind,vB b.cpu,vI b.lost,vI b.next,abh g b.evs j] 85,.obj C (.loop (p .busy none)),.blk P #[vB (b.kind:Int),vB (b.cpu:Int),vI b.lost,vI b.next,abh g b.evs j,vI m] 255,.obj B (.deferred (some [])),abk k (q++[(⟨b,g,j⟩:Hb)]) o hbL 85 5,.blk D #[abh k (q++[(⟨b,g,j⟩:Hb)]) o] 51,.blk t #[vI 0] 27,.blk s #[vN] 51]) (q:=q) (b:=fr) (d.pt (fs':=(abk g b.evs j gZ 73 11:: .blk K #[vB b.kind,vB b.cpu,vI b.lost,vI b.next,abh g b.evs j] 85:: .obj C (.loop (p .busy none)):: .blk P #[vB (b.kind:Int),vB (b.cpu:Int),vI b.lost,vI b.next,abh g b.evs j,vI m] 255:: .obj B (.deferred (some [])):: abk k (q++[(⟨b,g,j⟩:Hb)]) o hbL 85 5:: .blk D #[abh k (q++[(⟨b,g,j⟩:Hb)]) o] 51:: .blk t #[vI 0] 27:: .blk s #[vN] 51::(gW 73 q++(fr)))) 9 [3,0,1,2,4,5,6,7,8])
   replace d:Mem w _ (.blk K #[vB b.kind,vB b.cpu,vI b.lost,vI b.next,abh g b.evs j] 85:: .obj C (.loop (p .busy none)):: .blk P #[vB (b.kind:Int),vB (b.cpu:Int),vI b.lost,vI b.next,abh g b.evs j,vI m] 255:: .obj B (.deferred (some [])):: abk k (q++[(⟨b,g,j⟩:Hb)]) o hbL 85 5:: .blk D #[abh k (q++[(⟨b,g,j⟩:Hb)]) o] 51:: .blk t #[vI 0] 27:: .blk s #[vN] 51::(gW 73 (q++[(⟨b,g,j⟩:Hb)])++(fr))):=d
   refine ⟨(.obj B (.deferred (some [])):: abk k (q++[(⟨b,g,j⟩:Hb)]) o hbL 85 5:: .blk D #[abh k (q++[(⟨b,g,j⟩:Hb)]) o] 51:: .blk t #[vI 0] 27:: .blk s #[vN] 51::(gW 73 (q++[(⟨b,g,j⟩:Hb)])++(fr))),d.pt (fs':=(.obj C (.loop (p .busy none)):: .obj B (.deferred (some [])):: abk k (q++[(⟨b,g,j⟩:Hb)]) o hbL 85 5:: .blk D #[abh k (q++[(⟨b,g,j⟩:Hb)]) o] 51:: .blk t #[vI 0] 27:: .blk s #[vN] 51::(gW 73 (q++[(⟨b,g,j⟩:Hb)])++(fr)))) 8 [1,3,4,5,6,7],λw5 d=>?_⟩
   exact ⟨(.obj C (.loop (p .ready none)):: .obj B (.deferred (some [])):: abk k (q++[(⟨b,g,j⟩:Hb)]) o hbL 85 5:: .blk D #[abh k (q++[(⟨b,g,j⟩:Hb)]) o] 51:: .blk t #[vI 0] 27:: .blk s #[vN] 51::gW 73 (q++[(⟨b,g,j⟩:Hb)])),d,.inl ⟨om,rfl,(q++[(⟨b,g,j⟩:Hb)]),(f-1),k,o,by rw [abN];omega,by rw [←E,abV,aby];rfl,y,H,by rw [abn,abN,List.length_singleton];omega,rfl⟩⟩
  refine (qux w w1 gp C S A c l _ _ _ hL hB hr hc hl T om hy ⟨[],abl l,none,0,abq _,List.nil_append _,rfl,abq _,by simp,rfl⟩ (d.pt 7 [3,0,1,2,4,5,6])).mono ?_
  rintro r w2 ⟨v,rfl,F2,R,(⟨q,f,x,co,V,E,y,G,I,rfl⟩|⟨q,e,L,y,rfl⟩)⟩
  ·exact ⟨v,rfl,.inl ⟨_,⟨q,f,x,co,V,E,y,G,I,rfl⟩,R⟩⟩
  ·exact ⟨v,rfl,.inr ⟨.ret,_,⟨rfl,q,e,L,y,rfl⟩,R⟩⟩
 ·
  clear Z d;rintro B a w6 _ ⟨q,f,x,co,V,E,y,G,I,rfl⟩ Z d
  have hz:=qs9 (f:=f) (l:=[]) rfl
  rw [hz] at E y
  dsimp only at E y
  rw [abU] at E
  refine Jb Z d ((JG∘JP∘Jc O2∘JW rW aT) λY=>(JW qD aT) λabE=>(mW∘Jj∘JZ) λa Z d=>?_)
  refine Ew Z d (i:=0) rfl λa w7 Z d=>?_
  exact eZ rfl Z (.cell1 (i:=4) Z d rfl rfl kr rfl) (.cell1 (i:=3) Z d rfl rfl kr rfl) (by rw [WK om y,←E];exact zed (d.pt (fs':=(abk x q co hbL 85 5::gW 73 q)) 5 [1]) G)
 ·
  clear Z d;rintro _ B a w6 _ ⟨rfl,q,e,L,y,rfl⟩ Z d
  refine wp_ret ?_
  refine Ew Z d (i:=0) rfl λa w7 Z d=>?_
  exact eZ rfl Z (.cell1 (i:=2) Z d rfl rfl kr rfl) (.cell1 (i:=1) Z d rfl rfl kr rfl) (WL d (WJ om y L) rfl)
theorem zdi {l:List Nat} (h:Rd w B 1 A (abl l) (l.map B8)) (h1:i≤j) (h2:j≤abl l) (hc:abl l≤c):Rd w B 1 (if c=i then A else A.map (·.add (i*1))) (j-i) ((bS l i j).map B8):=h.wF h1 h2 hc
def zbj (l:List Nat) (A:Option Addr) (n c:Nat) (B:Nat) (w:World) (e:aM B w) (f:B≤w.heap.size) (hr:Rd w w.heap.size 1 A n (l.map B8)) (a:abl l=n) (hc:n≤c) (g:∀b∈l,b<256) (d:iF l) (i:n≤100000000) {bs:List Bk} {er:Nat} (h:readAll l=(bs,er)):Calls abm 71 #[.slice A n c] w (AZ 73 85 w er bs):=by
 subst a
 have k:=quy A c l B w e f hr hc g d i
 rwa [h] at k
theorem zbk {f:Fact} (h:Mem W w (f::(gW 73 q++[]))):Mem W w (f::gW 73 q):=by rwa [abU] at h
theorem Mem.IW {b:World} {gs:List Fact} (h:Mem W w a) (k:Mem w b gs):Mem W b (a++(gs++[])):=by
 rw [abU]
 exact h.oZ k
theorem zbl {z:cO} (h:Mem W w (.row (.slice A (abl q) c) (abl q) (q.flatMap hbL) 85 5::(gW 73 q++(jr z.st++[])))):Mem W w (j5 ⟨z,A,c,q⟩):=by
 rw [abU] at h
 exact h.perm (ac7 (l₁:=Fact.row (.slice A (abl q) c) (abl q) (q.flatMap hbL) 85 5::gW 73 q) (l₂:=jr z.st))
def quz (A:Option Addr) (c:Nat) (b:List Nat) (B:Nat) (w:World) (s:aM B w) (n:B≤w.heap.size) (hr:Rd w w.heap.size 1 A (abl b) (b.map B8)) (hc:abl b≤c) (C:abl b≤100000000) (t:∀z∈b,z<256) (x:Pl) (l:x.sn≤x.st∧x.st≤x.en∧x.en≤abl b) (m:iF (bS b x.st x.en)):
    Calls abm 56 #[.agg #[vI (x.nx:Int),vI (x.sn:Int),vI (x.st:Int),vI (x.en:Int),.slice A (abl b) c]] w (AZ 73 85 w (readAll (bS b x.st x.en)).2 (readAll (bS b x.st x.en)).1):=by
 refine (dV Tryz.func56 16) ?_
 refine (JP∘JE) λD u=>(Jp 2∘Jq) ?_
 obtain ⟨bs,o,f⟩:∃bs o,readAll (bS b x.st x.en)=(bs,o):=⟨_,_,rfl⟩
 refine (JG∘JP∘Jg 4 O0∘Jf 0∘Jg 2 O0∘Jf 0∘Jg 3 O0∘Jy (v:= .slice (if c=x.st then A else A.map (·.add (x.st*1))) (x.en-x.st) (c-x.st)) (h:=by exact aal aV (i:=x.st) (j:=x.en) rfl rfl rfl rfl om om)∘JL (h:=by exact λe=>zbj (bS b x.st x.en) _ _ _ B _ (s.mem e n) (e.le n) (zdi (e.old hr) l.2.1 l.2.2 hc) (GZ l.2.2) om (Rx t _ _) m om f)) ?_
 rintro e _ y ⟨p,r,q,rfl,g,k,hm⟩
 have d:abl bs=abl q:=by rw [←g,abu]
 rw [d] at hm k⊢
 refine ⟨_,rfl,_,aaP (a:=[.blk u #[vI x.nx,vI x.sn,vI x.st,vI x.en,abh A b c] 131]) (b:=[]) e hm,?_⟩
 exact (Jx∘Jx∘Jp 2∘Jj∘JZ∘bG) λe=>by rw [f];exact ⟨p,r,q,by rw [d],g,by rw [d];exact k,by rw [d];exact zbk (e.pt (fs':=(abk p q r hbL 85 5::(gW 73 q++([])))) 2 [0])⟩
def q0i (A:Option Addr) (c:Nat) (b:List Nat) (B:Nat) (w:World) (d:aM B w) (e:B≤w.heap.size) (hr:Rd w w.heap.size 1 A (abl b) (b.map B8)) (hc:abl b≤c) (f:abl b≤100000000) (g:∀z∈b,z<256) (x:Pl) (i:x.sn≤x.st∧x.st≤x.en∧x.en≤abl b) (a:iF (bS b x.st x.en)) {bs:List Bk} {er:Nat} (h:readAll (bS b x.st x.en)=(bs,er)):Calls abm 56 #[.agg #[vI (x.nx:Int),vI (x.sn:Int),vI (x.st:Int),vI (x.en:Int),.slice A (abl b) c]] w (AZ 73 85 w er bs):=by
 have k:=quz A c b B w d e hr hc f g x i a
 rwa [h] at k
def q6z (A:Option Addr) (c:Nat) (b:List Nat) (B:Nat) (w:World) (a:aM B w) (d:B≤w.heap.size) (hr:Rd w w.heap.size 1 A (abl b) (b.map B8)) (hc:abl b≤c) (h:abl b≤100000000) (f:∀z∈b,z<256) {e:Nat} {s:cO} (i j:Nat) (h1:i≤j) (h2:j≤abl b) (g:oh (bS b i j)=e) (hs:lH (bS b i j)=s):Calls abm 112 #[.slice (if c=i then A else A.map (·.add (i*1))) (j-i) (c-i)] w (LV w e s):=by
 subst g hs
 have k:=q6a (if c=i then A else A.map (·.add (i*1))) (c-i) (bS b i j) B w a d (by rw [GZ h2];exact zdi hr h1 h2 hc) (by rw [GZ h2];omega) (by rw [GZ h2];omega) (Rx f _ _)
 rwa [GZ h2] at k
theorem q60 (A:Option Addr) (c:Nat) (b:List Nat) (B:Nat) (w:World) (K:aM B w) (u:B≤w.heap.size) (hr:Rd w w.heap.size 1 A (abl b) (b.map B8)) (hc:abl b≤c) (L:abl b≤100000000) (C:∀z∈b,z<256) (x:Pl) (M:x.sn≤x.st∧x.st≤x.en∧x.en≤abl b) (l:iF (bS b x.st x.en)):
    Calls abm 54 #[.agg #[vI (x.nx:Int),vI (x.sn:Int),vI (x.st:Int),vI (x.en:Int),abh A b c]] w (Sk w b x):=by
 refine (dV Tryz.func54 45) ?_
 refine (JP∘JE) λT D=>(JA #[vI 0,vI 0,vQ 0,vN,vN,vN,vN,vN,vN]) λU E=>(Jp 1∘Jq) ?_
 obtain ⟨e,k⟩:∃e,oh (bS b x.sn x.st)=e:=⟨_,rfl⟩
 obtain ⟨V,hs⟩:∃s,lH (bS b x.sn x.st)=s:=⟨_,rfl⟩
 obtain ⟨bs,y,f⟩:∃bs y,readAll (bS b x.st x.en)=(bs,y):=⟨_,_,rfl⟩
 refine (JG∘JP∘Jg 4 O1∘Jf 0∘Jg 1 O1∘Jf 0∘Jg 2 O1∘Jy (v:= .slice (if c=x.sn then A else A.map (·.add (x.sn*1))) (x.st-x.sn) (c-x.sn)) (h:=by exact aal aV (i:=x.sn) (j:=x.st) rfl rfl rfl rfl om om)∘JL (h:=by exact λd=>q6z A c b B _ (K.mem d u) (d.le u) (d.old hr) hc L C x.sn x.st M.1 om k hs)) ?_
 rintro d _ F ⟨z,rfl,hz,m,hm⟩
 refine ⟨_,rfl,_,(show Mem w F (.blk E #[vI 0,vI 0,vQ 0,vN,vN,vN,vN,vN,vN] 53:: .blk D #[vI x.nx,vI x.sn,vI x.st,vI x.en,abh A b c] 131::(jr z.st++([]))) from d.IW (a:=[.blk E #[vI 0,vI 0,vQ 0,vN,vN,vN,vN,vN,vN] 53,.blk D #[vI x.nx,vI x.sn,vI x.st,vI x.en,abh A b c] 131]) hm),?_⟩
 refine (Jp 1∘Jx∘Jx∘JA #[vI 0,vI 0,vQ 0,vN,vN,vN,vN,vN]) λW R=>(JV zn aT (h1:=by exact KO z)) λG=>(Jp 1∘Jj∘JQ∘JB∘JP∘Jp 3∘bH∘Jj) (Jh (λn=>?_) λn=>?_)
 ·
  refine (JT∘JP∘fu #[vI 0,vI 0,vQ 0,vN,vN,vN,vN,vN,vN]∘Jp 1∘JV cB fU) λN=>(Jp 1∘bH∘Jj∘JZ) λa Z d=>?_
  exact eZ rfl Z (.cellS (i:=1) Z d rfl rfl cB rfl) (.tmp Z rfl) (Sl ((congrArg _ (zgj (by rw [k];omega))).trans (by rw [k])) om (d.pk []))
 have g:e=0:=by omega
 refine (JF∘JP∘Jg 0 O0∘Jf 0∘Jg 0 O2∘Jp 2∘gu∘Jj) (Jh (λo=>?_) λo=>?_)
 ·
  refine (JT∘JP∘fu #[vI 0,vI 0,vQ 0,vN,vN,vN,vN,vN,vN]∘JV cB fU) λO=>(Jp 1∘aK∘Jj∘JZ) λa Z d=>?_
  exact eZ rfl Z (.cellS (i:=1) Z d rfl rfl cB rfl) (.tmp Z rfl) (Sl ((congrArg _ (zgk (k.trans g) (by rw [hs,hz.1];omega))).trans rfl) de (d.pk []))
 refine (JF∘aD∘JP∘d9 zgl O2∘JL (h:=by exact λd=>q0i A c b B _ (K.mem d u) (d.le u) (d.old hr) hc L C x M l f)) ?_
 rintro d _ S ⟨H,I,q,rfl,p,r,hm⟩
 have J:abl bs=abl q:=by rw [←p,abu]
 rw [J] at hm r⊢
 refine ⟨_,rfl,_,aaP (a:=[.blk R z.cells 50,.blk E #[vI 0,vI 0,vQ 0,vN,vN,vN,vN,vN,vN] 53,.blk D #[vI x.nx,vI x.sn,vI x.st,vI x.en,abh A b c] 131]) (b:=jr z.st++[]) d hm,?_⟩
 refine (Jp 1∘Jx∘Jx∘Jp 2∘Jj∘JQ∘JP∘Jp 2∘aK∘Jj) (Jh (λt=>?_) λt=>?_)
 ·
  refine (JT∘JP∘fu #[vI 0,vI 0,vQ 0,vN,vN,vN,vN,vN,vN]∘Jp 1∘JV cB iM) λP=>(Jp 1∘bH∘Jj∘JZ) λa Z d=>?_
  exact eZ rfl Z (.cellS (i:=2) Z d rfl rfl cB rfl) (.tmp Z rfl) (Sl ((congrArg _ (q5v (k.trans g) (by rw [hs,hz.1];omega))).trans (by rw [f])) om (d.pk []))
 refine (JF∘aD∘JP∘d9 zn O1∘Jp 1∘fu #[vI z.next,vI z.st.ak,vQ z.st.aj,abh z.st.gA z.st.gs z.st.gc,abh z.st.lA z.st.cl z.st.lc,abh z.st.uA z.st.cu z.st.uc,abh z.st.tA z.st.ts z.st.tc,abh z.st.sA z.st.rs z.st.sc,abh H q I]∘JV cB iM) λQ=>(Jp 1∘dQ∘Jj∘JZ) λa Z d=>?_
 exact eZ rfl Z (.cellS (i:=2) Z d rfl rfl cB rfl) (.tmp Z rfl) (za6 (z:=z) (A:=H) (c:=I) (q:=q) C (k.trans g) (by rw [hs,hz.1];omega) (by rw [f];show y=0;omega) (by rw [hs];exact hz) m (by rw [f];exact p) r (q6b l (by rw [f];show y=0;omega)) (zbl (d.pt (fs':=(abk H q I hbL 85 5::(gW 73 q++(jr z.st++([]))))) 4 [0])))
def qu0 (A:Option Addr) (c:Nat) (q:List Hb) (B:Nat) (w:World) (U:aM B w) (O:B≤w.heap.size) (hr:Rd w w.heap.size 5 A (abl q) (q.flatMap hbL)) (V:nS w q) (J:∀h∈q,h.b.Ok) (K:∀h∈q,abl h.b.evs≤1000000) (hn:abl q≤1000000):
    Calls abm 47 #[.slice A (abl q) c] w (ze w (zb (q.map acZ)).2 (zb (q.map acZ)).1):=by
 refine (dV Tryz.func47 41) ?_
 refine (JP∘Jp 2∘Jr∘Jp 1∘Jr∘Jp 1∘Jq∘JC (h:=by exact λd=>d.nil 5 1)∘JG∘JQ∘JP∘Jp 1∘Jl∘Jp 1∘Jj∘JB) λa Z d=>?_
 refine qg (λP W X=>∃(k:Nat) (I:Bool) (R:List Nat) (u:Option Addr) (co:Nat),(k≤abl q)∧(fF (q.map acZ)=fF ((q.drop k).map acZ))∧(I=decide (524288<abl (dM ((q.take k).map acZ))))∧(I=false→R=dM ((q.take k).map acZ))∧(abl R≤524288)∧(abl R≤co)∧P=abl q-k∧Fr W 41 [] [(12,vI k),(11,vI (abl q)),(10,abh A q c),(5,.bool I),(4,abh u R co),(3,vI 0),(2,vN)]∧Mem w X [abj u R co B8 5 1]) (m:=abl q-0) ⟨0,false,[],none,0,abw _,by rw [List.drop_zero],rfl,by intro _;rfl,by simp,abq _,rfl,Z.sub kr,d.pk [0]⟩ ?_
 clear Z d;rintro P a w_ ⟨k,I,R,u,co,hk,s,o,L,y,t,rfl,Z,d⟩
 refine Jb Z d ((JP∘Jp 1∘Jj∘JQ) (Ji (λz=>?_) λz=>?_))
 ·
  have f:k<abl q:=by omega
  have C:=WG f
  have M:=congrArg adz (WH f)
  rw [abn] at M
  have Y:=NT (q.getD k Hb.zero).b
  have htk:=q2t (q:=q) k
  refine (JT∘aD∘JQ∘JB∘JP) ?_
  obtain ⟨gA,oA,rfl,_⟩:=hr.sat k
  refine (gV k 5∘Jy (v:= .agg ((q.getD k Hb.zero).b.cells (q.getD k Hb.zero).A (q.getD k Hb.zero).c)) (h:=by exact Pe rfl rfl aL rfl (λ_ h=>(h.old hr).Ay NZ ((getD_at Hb.zero (k:=k) (by first|omega|(simp;omega))))))∘JA #[vB 0,vB 0,vI 0,vI 0,vN]) λw7 g7=>(JV aL aT (h1:=by exact sQ _ _ _)) λQ=>(bH∘Jr∘d9 aL O0∘JK (h:=by exact λd=>q2g (q.getD k Hb.zero).b (J _ (qe Hb.zero f)) ((q.getD k Hb.zero).A) (q.getD k Hb.zero).c B _ (U.mem d O) (d.le O) (d.old (V.at f)) (K _ (qe Hb.zero f)) rfl rfl)) λMe c18 CY S=>(Jp 1∘Jx∘Jx∘Jp 2∘Jj∘JQ∘JP∘Jp 2∘aK∘Jj) (Jh (λD=>?_) λD=>?_)
  ·
   have x:fF (q.map acZ)=(q.getD k Hb.zero).b.err:=by rw [s,C,if_neg om]
   exact (JT∘JP∘Jp 3∘Jj∘JZ∘bG) λd=>ET d.below (qyf (by rw [x];omega)) (by rw [x])
  have x:fF (q.map acZ)=fF ((q.drop (k+1)).map acZ):=by rw [s,C,if_pos om]
  refine (JF∘aD∘JP∘Jp 2) (Ju (λl=>?_) λl=>?_)
  ·
   have e:524288<abl (dM ((q.take k).map acZ)):=of_decide_eq_true (o.symm.trans l)
   refine (Jv 8 [(5,.bool true)]∘bH∘Jr∘Jp 2∘aK∘Jj∘JF∘aD∘JR∘bT 1∘Jp 1∘aK∘Jq) λa Z d=>?_
   exact ⟨_,om,k+1,true,R,u,co,by omega,x,(decide_eq_true om).symm,(by intro h;cases h),y,t,rfl,Z.sub kr,d.pk [2]⟩
  have e:¬524288<abl (dM ((q.take k).map acZ)):=of_decide_eq_false (o.symm.trans l)
  have p:=L l
  have T:abl R=abl (dM ((q.take k).map acZ)):=by rw [p]
  refine (Jp 1∘Jl∘Jp 1∘Jl∘Ja∘Jp 3∘aG∘Jr∘Jp 2∘aK∘Jj) (Ju (λg=>?_) λg=>?_)
  ·
   have E:=of_decide_eq_false ((adA _).mp g)
   intro a Z d
   replace Z:=Z.on 5 ((adA _).mp g)
   refine Jb Z d ((JT∘JR∘Jp 2∘JD ((q.getD k Hb.zero).b.out.map B8) 2 (λ_ _=>iM) aV (hr:=by exact λd=>d.rd (i:=0) rfl) (h1:=by exact rR _)) λDc F G r=>λa Z d=>?_)
   rw [show (R.map B8)++((q.getD k Hb.zero).b.out.map B8)=(R++(q.getD k Hb.zero).b.out).map B8 from by rw [abV]] at d
   refine Jb Z d ((Jp 1∘dQ∘Jq) ?_)
   have j:abl R+((q.getD k Hb.zero).b.out.length)=abl (R++(q.getD k Hb.zero).b.out):=by rw [abn]
   rw [j] at r
   refine (JC (h:=by exact λd=>d.aY (i:=2) (ys:=(R++(q.getD k Hb.zero).b.out).map B8) rfl j (rfl))∘Jk 4 (.slice F (abl (R++(q.getD k Hb.zero).b.out)) G) (h:=by exact iy j)∘JG∘JR∘bT 1∘Jp 1∘aK∘Jq) λa Z d=>?_
   exact ⟨_,om,k+1,false,(R++(q.getD k Hb.zero).b.out),F,G,by omega,x,(decide_eq_false om).symm,(by intro _;rw [p,WH f]),(by rw [abn];omega),r,rfl,Z.sub kr,d.pk [2]⟩
  have E:=of_decide_eq_true ((aeX _).mp g)
  intro a Z d
  replace Z:=Z.on 5 ((aeX _).mp g)
  refine Jb Z d ((JF∘aD∘JR∘bT 1∘Jp 1∘aK∘Jq) λa Z d=>?_)
  exact ⟨_,om,k+1,true,R,u,co,by omega,x,(decide_eq_true om).symm,(by intro h;cases h),y,t,rfl,Z.sub kr,d.pk [2]⟩
 have hkn:k=abl q:=by omega
 have H:fF (q.map acZ)=0:=by rw [s,acp om];rfl
 have N:q.take k=q:=List.take_of_length_le om
 rw [N] at o L
 refine (JF∘JX∘JG∘JQ∘JP∘Jp 1∘Jj) (Ju (λn=>?_) λn=>?_)
 ·
  have e:524288<abl (dM (q.map acZ)):=of_decide_eq_true (o.symm.trans n)
  exact (JT∘JP∘Jp 2∘Jj∘JZ∘bG) λd=>ET d.below (qtb H e) rfl
 have e:¬524288<abl (dM (q.map acZ)):=of_decide_eq_false (o.symm.trans n)
 have p:=L n
 exact (JF∘aD∘JP∘Jp 3∘Jj∘JZ∘bG) λd=>by rw [WE H e,←p];exact ⟨⟨u,co,rfl,d.own (i:=0) rfl,t⟩,d.below⟩
def q0j (A:Option Addr) (c:Nat) (l:List Pm) (B:Nat) (w:World) (W:aM B w) (S:B≤w.heap.size) (hr:Rd w w.heap.size 9 A (abl l) (l.flatMap lJ)) (X:∀p∈l,gK p∧gq w p) (hc:abl l≤c) (hn:abl l≤1000000):
    Calls abm 15 #[.slice A (abl l) c] w (Is w (.tuple #[vI (oH (l.map Pm.v)).1,vI ((oH (l.map Pm.v)).2:Int)])):=by
 refine (dV Tryz.func15 52) ?_
 refine (JP∘Jp 2∘Jj∘JQ∘JP∘Jp 1∘Jl∘Jp 1∘bH∘Jj) (Ji (λy=>?_) λy=>?_)
 ·
  exact (JT∘JP∘Jp 2∘Jj∘JZ∘bG) λd=>Ab (m:=5) (if_pos (by rw [abu];omega)) rfl d.below
 refine (JF∘aD∘JP∘Jp 1∘Jj∘JQ∘JP∘Jp 1∘Jl∘Jp 1∘Jj∘JB) λa Z d=>?_
 refine qg (λC J K=>∃(i:Nat) (last:Int),(i≤abl l)∧(aR last)∧(oH (l.map Pm.v)=kU ((l.map Pm.v).drop i) last i)∧C=abl l-i∧Fr J 52 [] [(16,vI i),(15,vI (abl l)),(14,abh A l c),(4,vI last),(13,.bool false),(3,vI 0),(2,vI 0),(0,abh A l c)]∧Mem w K []) (m:=abl l-0) ⟨0,0,abw _,(show aR (0:Int) from by unfold aR;decide),(if_neg (by rw [abu];omega)),rfl,Z.sub kr,d.pk []⟩ ?_
 clear Z d;rintro C a Y ⟨i,last,hi,L,g,rfl,Z,d⟩
 refine Jb Z d ((JP∘Jp 1∘Jj∘JQ) (Ji (λD=>?_) λD=>?_))
 ·
  have j:i<abl l:=by omega
  obtain ⟨x,M⟩:∃x,(l.getD i Pm.zero)=x:=⟨_,rfl⟩
  obtain ⟨e,o⟩:=X x (by rw [←M];exact qe Pm.zero j)
  have n:=zgm (last:=last) j
  rw [M] at n
  have N:=e.nx
  intro a Z d
  unfold aR at N
  have hxl:=e.len
  refine Jb Z d ((JT∘aD∘JQ∘JB∘JP∘Jp 1) ?_)
  obtain ⟨gA,T,rfl,_⟩:=hr.sat i
  refine (gV i 9∘oK Pm.cells z8 hr cB i Pm.zero (hk:=j)∘Jo (.agg x.cells) (by rw [M])∘JA #[vI 0,vI 0,vQ 0,vN,vN,vN,vN,vN,vN]) λw6 U=>(Jp 1∘JV cB aT (h1:=by exact DR x)) λV=>(Jj∘JQ∘JP∘Jf 0∘Jy (v:= .agg x.z.cells) (h:=by exact Pe rfl rfl zn rfl (λ_ h=>h.sub (i:=0) rfl 0 rfl))∘JI (h:=by exact λd=>R5 x.z e.ok e.few e.cap _ (o.st.old d))) λNz E=>(Jp 1∘dQ∘Jr∘Jp 2∘aK∘Jj) (Jh (λF=>?_) λF=>?_)
  ·
   exact (JT∘JP∘Jp 4∘Jj∘JZ∘bG) λd=>Ab (g.trans (n.trans (if_pos om))) rfl d.below
  refine (JF∘aD∘JQ∘JP∘Jg 8 O0∘Jl∘Jp 1∘Jj∘JB) λa Z d=>?_
  refine qg (λC J K=>∃(k:Nat),(k≤abl x.q)∧(fF (x.q.map acZ)=fF ((x.q.drop k).map acZ))∧C=abl x.q-k∧Fr J 52 [] [(31,vI k),(30,vI (abl x.q)),(29,abh x.A x.q x.c),(25,.bool false),(7,vI (bV x.z)),(5,vI i),(6,vP U 0),(17,.bool true),(16,vI i),(15,vI (abl l)),(14,abh (some ⟨gA,T,none⟩) l c),(4,vI last),(13,.bool false),(3,vI 0),(2,vI 0),(0,abh (some ⟨gA,T,none⟩) l c)]∧Mem w K [.blk U x.cells 53]) (m:=abl x.q-0) ⟨0,abw _,rfl,rfl,Z.sub kr,d.pk [0]⟩ ?_
  clear Z d;rintro C a Y ⟨k,hk,r,rfl,Z,d⟩
  refine Jb Z d ((JP∘Jp 1∘Jj∘JQ) (Ji (λG=>?_) λG=>?_))
  ·
   have f:k<abl x.q:=by omega
   have t:=WG f
   refine (JT∘aD∘JQ∘JB∘JP) ?_
   obtain ⟨O,P,u,_⟩:=Rd.sat o.bl k
   have s:=o.bl;rw [u] at s
   refine (Jk 29 (.slice (some ⟨O,P,none⟩) (abl x.q) x.c) (h:=by rw [u];try rfl)∘gV k 5∘Jy (v:= .agg ((x.q.getD k Hb.zero).b.cells (x.q.getD k Hb.zero).A (x.q.getD k Hb.zero).c)) (h:=by exact Pe rfl rfl aL rfl (λ_ h=>(h.old s).Ay NZ ((getD_at Hb.zero f))))∘JA #[vB 0,vB 0,vI 0,vI 0,vN]) λw9 g9=>(JV aL aT (h1:=by exact sQ _ _ _)) λQ=>(bH∘Jr∘d9 aL O0∘JL (h:=by exact λd=>qya (x.q.getD k Hb.zero).b (e.RA _ (qe Hb.zero f)) ((x.q.getD k Hb.zero).A) (x.q.getD k Hb.zero).c B _ (W.mem d S) (d.le S) (d.old (o.ev.at f)) (e.bev _ (qe Hb.zero f)))) ?_
   rintro d _ w36 ⟨rfl,E⟩
   refine ⟨_,rfl,_,d.call E,?_⟩
   refine (Jp 1∘bH∘Jr∘Jp 2∘aK∘Jj) (Jh (λH=>?_) λH=>?_)
   ·
    exact (JT∘JP∘Jp 4∘Jj∘JZ∘bG) λd=>Ab (g.trans (n.trans ((if_neg om).trans (if_pos (by rw [r,t,if_neg om];omega))))) (by rw [r,t,if_neg om]) d.below
   refine (JF∘aD∘JR∘bT 1∘Jp 1∘aK∘Jq) λa Z d=>?_
   replace Z:=Z.sp 29 (abh x.A x.q x.c) rfl (by rw [u])
   exact ⟨_,om,k+1,by omega,(r.trans (by rw [t,if_pos om])),rfl,Z.sub kr,d.pk [1]⟩
  have he0:fF (x.q.map acZ)=0:=by rw [r,acp om];rfl
  refine (JF∘JX∘JG∘JQ∘JP∘Jf 0∘Jg 0 O0∘Jp 2∘dQ∘Jj) (Ji (λI=>?_) λI=>?_)
  ·
   exact (JT∘JP∘Jp 3∘Jj∘JZ∘bG) λd=>Ab (m:=411) (g.trans (n.trans ((if_neg om).trans ((if_neg om).trans (if_pos om))))) rfl d.below
  refine (JF∘aD∘JR∘Jf 0∘Jg 0 O0∘Jp 1∘bH∘Jj∘JR∘bT 1∘Jp 1∘aK∘Jq) λa Z d=>?_
  exact ⟨_,om,i+1,x.z.next,by omega,e.nx,(g.trans (by rw [n,if_neg om,if_neg om,if_neg om])),rfl,Z.sub kr,d.pk []⟩
 have R:i=abl l:=by omega
 exact (JF∘JX∘JG∘JP∘Jp 2∘Jj∘JZ∘bG) λd=>Ab (m:=0) (g.trans (by rw [R];exact q5y)) rfl d.below
def Ta (A:Option Addr) (c:Nat) (l:List Pm) (B:Nat) (w:World) (a:aM B w) (b:B≤w.heap.size) (hr:Rd w w.heap.size 9 A (abl l) (l.flatMap lJ)) (d:∀p∈l,gK p∧gq w p) (hc:abl l≤c) (e:abl l≤1000000) {ci:Int} {ce:Nat} (h:oH (l.map Pm.v)=(ci,ce)):Calls abm 15 #[.slice A (abl l) c] w (Is w (.tuple #[vI ci,vI ce])):=by
 have k:=q0j A c l B w a b hr d hc e
 rwa [h] at k
theorem zbn (A:Option Addr) (c:Nat) (q:List Hb) (B:Nat) (w:World) (e:aM B w) (f:B≤w.heap.size) (hr:Rd w w.heap.size 5 A (abl q) (q.flatMap hbL)) (g:nS w q) (a:∀h∈q,h.b.Ok) (d:∀h∈q,abl h.b.evs≤1000000) (i:abl q≤1000000) {l:List Nat} {m:Nat} (h:zb (q.map acZ)=(l,m)):Calls abm 47 #[.slice A (abl q) c] w (ze w m l):=by
 have k:=qu0 A c q B w e f hr g a d i
 rwa [h] at k
def zhj (l:List Nat):∀b∈([113,97,1]++l.flatMap au),b<256:=λb a=>by
 rcases ab5.1 a with h|h
 ·simp only [ab0,List.not_mem_nil,or_false] at h
  omega
 ·obtain ⟨x,_,c⟩:=acE.1 h
  exact xq x b c
def j4 (l:List Pm):List Nat:=[113,97,1]++(bQ l (abl l)).flatMap au
def zhk (l:List Pm):∀b∈j4 l,b<256:=zhj _
def zbo {l:List Pm} (a:abl l≤100000):abl (j4 l)≤16777216:=by
 unfold j4
 rw [abn]
 have h1:=zk (bQ l (abl l))
 have h2:=G5 (l:=l) (abl l) (abq _)
 have h9:abl ([113,97,1]:List Nat)=3:=rfl
 omega
theorem Tc {l:List Pm}:bA (j4 l)=headA (l.map Pm.v):=by unfold headA j4;rw [q5z]
def q63 {p:List Nat×Nat} {h R d:List Nat} (b:p=(h++d,0)) (e:R=h) (a:W.ownsRow w.heap.size 5 1 (.slice A (abl R+abl d) c) (abl R+abl d) (R.map B8++d.map B8)) (hc:abl R+abl d≤c) (hb:Below w.heap.size w W):ze w p.2 p.1 (.returned (.tuple #[.slice A (abl R+abl d) c,vI 0])) W:=by
 subst b e
 rw [←abn] at a hc⊢
 rw [←abV] at a
 exact ⟨⟨A,c,rfl,a,hc⟩,hb⟩
def zbp {l:List Pm} (a:abl l≤100000):abl (bA (j4 l))≤10000000:=by
 unfold j4
 rw [tT,abn]
 have h1:=zk (bQ l (abl l))
 have h2:=G5 (l:=l) (abl l) (abq _)
 have h9:abl ([113,97,1]:List Nat)=3:=rfl
 omega
def Td (A:Option Addr) (c:Nat) (l:List Pm) (B:Nat) (w:World) (hL:aM B w) (J:B≤w.heap.size) (hr:Rd w w.heap.size 9 A (abl l) (l.flatMap lJ)) (hP:∀p∈l,gK p∧gq w p) (hc:abl l≤c) (hn:abl l≤100000):
    Calls abm 16 #[.slice A (abl l) c] w (ze w (nH (l.map Pm.v)).2 (nH (l.map Pm.v)).1):=by
 refine (dV Tryz.func16 104) ?_
 refine (JP∘Jp 2∘Jq) ?_
 obtain ⟨ci,ce,t⟩:∃ci ce,oH (l.map Pm.v)=(ci,ce):=⟨_,_,rfl⟩
 refine (JG∘JQ∘JP∘Jp 1∘JI (h:=by exact λf=>Ta A c l B _ (hL.mem f J) (f.le J) (f.old hr) (λp hp=>⟨(hP p hp).1,(hP p hp).2.old f⟩) hc om t)) λQg hbw=>(Jp 1∘Jx∘Jx∘Jp 2∘aG∘Jr∘Jp 2∘aK∘Jj) (Jh (λW=>?_) λW=>?_)
 ·
  exact (JT∘JP∘Jp 3∘Jj∘JZ∘bG) λf=>ET f.below (qz4 t om) rfl
 have u:ce=0:=by omega
 refine (JF∘aD∘JP∘Jp 1∘Jl∘Jw .u64∘JU kK #[vQ (abl l)]) λSF L=>(Jp 1∘gu∘Jq) λa Z f=>?_
 replace f:=(f.dY (i:=0) (n:=1) (size:=1) rfl rfl de).bR (i:=0) (ys:=(bQ l 0).map bq) rfl (rfl)
 replace f:Mem w _ [.row (vS L (abl (bQ l 0)) 1) (abl (bQ l 0)) ((bQ l 0).map bq) 41 1]:=f
 replace Z:=Z.sp 6 (.slice (some ⟨L,0,none⟩) (abl (bQ l 0)) 1) rfl rfl
 refine Jb Z f ((JG∘JP∘Jp 1∘Jq∘JC (h:=by exact λf=>f.nil 5 1)∘JG∘JP∘Jp 1∘Jj∘JQ∘JP∘Jp 1∘Jl∘Jp 1∘Jj∘JB) λa Z f=>?_)
 refine qg (λmS aS wS=>∃(i:Nat) (An:Option Addr) (X:Nat) (d:List Nat) (V:Option Addr) (M:Nat) (N:Bool),(i≤abl l)∧(stA (l.map Pm.v) i=(d,N))∧(abl (bQ l i)≤X)∧(abl d≤M)∧(abl d≤16777216)∧mS=abl l-i∧Fr aS 104 [] [(31,vI i),(30,vI (abl l)),(29,abh A l c),(8,.bool N),(7,abh V d M),(6,abh An (bQ l i) X),(23,.bool false),(5,vI ce),(3,vI 0),(2,vN),(0,abh A l c)]∧Mem w wS [abj V d M B8 5 1,abj An (bQ l i) X bq 41 1]) (m:=abl l-0) ⟨0,some ⟨L,0,none⟩,1,[],none,0,false,abw _,rfl,abq _,abq _,abw _,rfl,Z.sub kr,f.pk [0,1]⟩ ?_
 clear Z f;rintro mS a w_ ⟨i,An,X,d,V,M,N,hi,y,hcn,O,P,rfl,Z,f⟩
 refine Jb Z f ((JP∘Jp 1∘Jj∘JQ) (Ji (λY=>?_) λY=>?_))
 ·
  have j:i<abl l:=by omega
  obtain ⟨x,Q⟩:∃x,(l.getD i Pm.zero)=x:=⟨_,rfl⟩
  obtain ⟨s,R⟩:=hP x (by rw [←Q];exact qe Pm.zero j)
  obtain ⟨C,we,S⟩:∃C we,zb (x.q.map acZ)=(C,we):=⟨_,_,rfl⟩
  have hwl:abl C≤524288:=by have h:=KA (x.q.map acZ);rwa [S] at h
  have hol:=qw4 x.z
  have hns:=qz3 j Q S
  have hnl:=G5 (l:=l) i hi
  refine (JT∘aD∘JQ∘JB∘JP) ?_
  obtain ⟨gA,oA,rfl,_⟩:=hr.sat i
  refine (gV i 9∘oK Pm.cells z8 hr cB i Pm.zero (hk:=j)∘Jo (.agg x.cells) (by rw [Q])∘JA #[vI 0,vI 0,vQ 0,vN,vN,vN,vN,vN,vN]) λtZ g10=>(JV cB aT (h1:=by exact DR x)) λND=>(bH∘Jr∘Jf 0∘Jy (v:= .agg x.z.cells) (h:=by exact Pe rfl rfl zn rfl (λ_ h=>h.sub (i:=0) rfl 0 rfl))∘JK (h:=by exact λf=>qz9 x.z s.ok s.few s.cap B _ (hL.mem f J) (f.le J) (R.st.old f))) λA38 c38 NA hc38=>(Jp 1∘Jx∘Jx∘Jp 2∘mW∘Jr∘Jg 8 O1∘JK (h:=by exact λf=>zbn x.A x.c x.q B _ (hL.mem f J) (f.le J) (f.old R.bl) (R.ev.old f) s.RA s.bev s.len S)) λH7 H8 NR Co=>(Jp 1∘Jx∘Jx∘Jp 2∘Jr∘Jp 1∘Jf 0∘Jg 0 O2∘Jv 1 [(51,vQ (IntKind.u64.wrap x.z.next))]∘Jo (vQ (aH x.z.next)) (by exact OG _)∘Jp 1∘Jl∘Jw .u64∘Jp 1∘Jl∘Jw .u64∘JU kK #[vQ (aH x.z.next),vQ (abl (cZ x.z):Nat),vQ (abl C)]) λLu g58=>(JD ([aH x.z.next,abl (cZ x.z),abl C].map bq) 5 (λ_ _=>tX) kK (hr:=by exact λf=>f.aX (i:=0) (n:=3) (size:=1) rfl rfl) (h1:=by exact uL _)) λQM D E Te=>(Jp 1∘aG∘Jq) ?_
  have o:(abl (bQ l i))+3=abl (bQ l (i+1)):=by rw [hns,abn];rfl
  rw [o] at Te
  refine (JC (h:=by exact λf=>f.aY (i:=5) (ys:=(bQ l (i+1)).map bq) rfl o (by rw [hns,abV]))∘Jk 6 (.slice D (abl (bQ l (i+1))) E) (h:=by exact iy o)∘JG∘JP∘Jp 2) (Ju (λF=>?_) λF=>?_)
  ·
   have G:N=true:=by simpa using F
   refine (Jv 15 [(8,.bool true)]∘bH∘Jj∘JQ∘JP∘Jp 1∘Jj∘JT∘JX∘JG∘JR∘bT 1∘Jp 1∘aK∘Jq) λa Z f=>?_
   exact ⟨_,om,i+1,D,E,d,V,M,true,by omega,RB j Q y S (by first|exact .inl G|exact .inr (.inl om)|exact .inr (.inr om)),by omega,O,P,rfl,Z.sub kr,f.pk [4,5]⟩
  have Tf:¬N=true:=by simpa using F
  refine (Jp 4) (Jh (λTg=>?_) λTg=>?_)
  ·
   refine (Jv 11 [(8,.bool true)]∘aG∘Jj∘JQ∘JP∘Jp 1∘Jj∘JT∘JX∘JG∘JR∘bT 1∘Jp 1∘aK∘Jq) λa Z f=>?_
   exact ⟨_,om,i+1,D,E,d,V,M,true,by omega,RB j Q y S (by first|exact .inl G|exact .inr (.inl om)|exact .inr (.inr om)),by omega,O,P,rfl,Z.sub kr,f.pk [4,5]⟩
  refine (Jp 1∘Jl∘Jp 1∘Jl∘Ja∘Jp 1∘Jl∘Ja∘Jp 3∘aG∘Jj∘JQ∘JP∘Jp 1∘Jj) (Ju (λk=>?_) λk=>?_)
  ·
   have Ti:=of_decide_eq_true k
   intro a Z f
   replace Z:=Z.on 8 k
   refine Jb Z f ((JT∘JX∘JG∘JR∘bT 1∘Jp 1∘aK∘Jq) λa Z f=>?_)
   exact ⟨_,om,i+1,D,E,d,V,M,true,by omega,RB j Q y S (by first|exact .inl G|exact .inr (.inl om)|exact .inr (.inr om)),by omega,O,P,rfl,Z.sub kr,f.pk [4,5]⟩
  have Ti:=of_decide_eq_false k
  intro a Z f
  replace Z:=Z.on 8 k
  refine Jb Z f ((JF∘aD∘JR∘Jp 2∘JD ((cZ x.z).map B8) 4 (λ_ _=>rW) aV (hr:=by exact λf=>f.rd (i:=2) rfl) (h1:=by exact rR _)) λXF Gq Gs QC=>(Jp 1∘JD (C.map B8) 4 (λ_ _=>rW) aV (hr:=by exact λf=>f.rd (i:=1) rfl) (h1:=by exact rR _)) λw81 A81 c81 K=>(Jp 1∘l8∘Jq) ?_)
  have r:(abl d+(abl (cZ x.z)))+abl C=abl (d++cZ x.z++C):=by rw [abn,abn]
  rw [r] at K
  refine (JC (h:=by exact λf=>f.aY (i:=4) (ys:=(d++cZ x.z++C).map B8) rfl r (by rw [abV,abV]))∘Jk 7 (.slice A81 (abl (d++cZ x.z++C)) c81) (h:=by exact iy r)∘JG∘JR∘bT 1∘Jp 1∘aK∘Jq) λa Z f=>?_
  exact ⟨_,om,i+1,D,E,(d++cZ x.z++C),A81,c81,false,by omega,zjm j Q y S (by rintro (h|h|h)<;>first|(exact absurd h Tf)|omega),by omega,K,by rw [abn,abn];omega,rfl,Z.sub kr,f.pk [4,5]⟩
 obtain rfl:i=abl l:=by omega
 have apV:=G5 (l:=l) (abl l) (abq _)
 have apW:=zk (bQ l (abl l))
 have apX:=q50 (l:=l) (i:=abl l)
 refine (JF∘JX∘JG∘JP∘JU aV #[vB 113,vB 97,vB 1]) λw84 g84=>λa Z f=>?_
 refine fo Z 1 rfl rfl ?_
 refine Xv Z f 0 (e:=5) rfl rfl rfl kr kr rfl de ?_
 clear Z f;intro a w85 Z f
 refine Jb Z f ((Jp 1∘JK (h:=by exact λf=>Kl An (abl (bQ l (abl l))) X (bQ l (abl l)) _ (f.rd (i:=2) rfl) (zax om _) (by have:=G5 (l:=l) (abl l) (abq _);omega))) λA87 c87 Lm apY=>λa Z f=>?_)
 refine fo Z 4 rfl rfl ?_
 refine Ul Z f (xs:=([113,97,1]:List Nat).map B8) (news:=((bQ l (abl l)).flatMap au).map B8) rfl aV rfl rfl (f.uM (i:=1) (size:=1) (n:=3) rfl rfl) (f.rd (i:=0) rfl) om om (λh=>by cases h) om om rfl de ?_
 clear Z f;intro a w88 RL c88 Z f Tj
 have g:3+abl ((bQ l (abl l)).flatMap au)=abl (j4 l):=by unfold j4;rw [abn];rfl
 rw [g] at Tj
 replace f:=f.aY (i:=0) (ys:=(j4 l).map B8) rfl g (by unfold j4;rw [abV])
 replace Z:=Z.sp 88 (vS RL (abl (j4 l)) c88) rfl (iy g)
 refine Jb Z f ((JK (h:=by exact λf=>NK (some ⟨RL,0,none⟩) (abl (j4 l)) c88 (j4 l) B _ (hL.mem f J) (f.le J) (f.rd (i:=0) rfl) rfl (zbo hn) (zhk l))) λLZ L6 Qc Ck=>(Jp 1∘Jx∘Jx∘Jp 2∘mW∘Jq) ?_)
 have H:stA (l.map Pm.v) (abl (l.map Pm.v))=(d,N):=by rw [abu];exact y
 have hhd:abl (bA (j4 l))≤10000000:=zbp hn
 refine (JG∘JQ∘JP∘Jp 2) (Ju (λI=>?_) λI=>?_)
 ·
  exact (Jp 7∘aG∘Jj∘JT∘JP∘Jp 2∘Jj∘JZ∘bG) λf=>ET f.below (qk6 t u H (.inl (by simpa using I))) rfl
 have Tn:¬N=true:=by simpa using I
 refine (Jp 1∘Jl∘Jp 1∘Jl∘Ja∘Jp 2∘aG∘Jj) (Ji (λT=>?_) λT=>?_)
 ·
  exact (JT∘JP∘Jp 2∘Jj∘JZ∘bG) λf=>ET f.below (qk6 t u H (.inr (by rw [←Tc];omega))) rfl
 exact (JF∘aD∘JP∘Jp 2∘JD (d.map B8) 0 (λ_ _=>aT) aV (hr:=by exact λf=>f.rd (i:=4) rfl) (h1:=by exact rR _)) λRO apZ ap0 U=>(Jp 2∘Jj∘JZ∘bG) λf=>q63 (q51 t u H (by rw [←Tc];rintro (h|h)<;>first|(exact absurd h Tn)|omega)) Tc (f.own (i:=0) rfl) U f.below
def zdj {n:Nat} {l:List Nat} (h:Rd w B 1 A n (l.map B8)) (hk:k≤n):Rd w B 1 A k ((l.take k).map B8):=by
 have h2:=h.upto hk
 rwa [Nat.mul_one,←List.map_take] at h2
theorem q61 {p sum:Nat} {out:List Pl} (h:∀x∈out,x.sn≤sum∧x.st≤sum∧x.en≤sum):∀x∈out++[lK b p sum],x.sn≤sum+kT b p+mF b p∧x.st≤sum+kT b p+mF b p∧x.en≤sum+kT b p+mF b p:=λx a=>by
 rcases ab5.1 a with a|a
 ·have:=h x a;omega
 ·rw [aek.1 a]
  unfold lK
  dsimp only
  omega
def DZ {l:List α} {t u:α} (h:l[i]?=some t):(l.set i u)[i]?=some u:=acO (abv.1 h).1
theorem zhi (l:List Pl):∀v∈l.flatMap jY,v.oneCell'=true:=by
 intro v a
 obtain ⟨x,_,b⟩:=acE.1 a
 exact zjl x v b
def Mw (W w:World) (g i k:Nat) (A:Option Addr) (c:Nat) (b:List Nat) (p:Nat) (m:Bool) (most:Nat) (fr:List Fact) (s:∀z∈b,z<256) (t:p≤abl b) (B:abl b≤100000000) (hr:Rd W W.heap.size 1 A (abl b) (b.map B8)) (hc:abl b≤c) (o:most≤4611686018427387904)
    (d:Mem W w (.blk g #[abh A b c] 30:: .blk i #[vI p] 3:: .blk k #[.bool m] 4::fr)):
    Calls abm 51 #[vI most,vP g 0,vP i 0,vP k 0] w (Ag W g i k b A c p m most fr):=by
 refine qC Tryz.func51 [vI most,vP g 0,vP i 0,vP k 0] [(0,vI most),(1,vP g 0),(2,vP i 0),(3,vP k 0)] λa Z=>?_
 refine Jb Z d ((JP∘Jp 1∘Jq) ?_)
 have q:=yO (b.drop p)
 rw [abN] at q
 have u:=Jm (b.drop p) (λz hz=>s z (abZ hz))
 have x:=y5 most (b.drop p)
 refine (JG∘JP∘Jc O0∘Jc O1∘Jy (h:=by exact aaf aV (j:=p) rfl rfl rfl om)∘JL (h:=by exact λd=>ML _ _ _ (b.drop p) _ (Rd.M8 (d.old hr) t hc) (λz hz=>s z (abZ hz)) om)) ?_
 rintro d _ y ⟨rfl,r⟩
 refine ⟨_,rfl,_,d.call r,?_⟩
 refine (Jp 1∘Jx∘Jx∘Jx∘Jp 3∘Jr∘Jc O2∘Jp 1) (Ju (λe=>?_) λe=>?_)
 ·
  refine (Jp 4) (Je (λn=>?_) λn=>?_)
  ·
   exact (Jp 2∘Jw .u64∘Jp 2∘JW iM aT) λf=>(iE∘Jr∘Jc O1∘Jp 1∘Ja∘JW fU aT) λl=>(iE∘Jr∘Jp 2∘Jw .u64∘Jy (v:=vQ (if (most:Int)<((aB (b.drop p)).1:Int) then (most:Int) else ((aB (b.drop p)).1:Int))) (h:=by exact Yl.min rfl rfl rfl)∘Jo (vQ (bJ most (b.drop p))) (by rw [Da])∘Jw .i64∘Jp 1∘aG∘Jj∘JZ∘JC (h:=by exact λd=>d.pt (fs':=(.blk g #[abh A b c] 30:: .blk i #[vI (p+((aB (b.drop p)).2.1):Nat)] 3:: .blk k #[.bool (decide (((aB (b.drop p)).1:Int)≤(most:Int)))] 4::fr)) 3 [0,1,2])∘aZ) λd=>Sq rfl (by rw [e,acz];unfold eu jg;rw [ace];simp only [decide_eq_true_eq];omega) d
  exact (Jp 5∘JW iM aT) λf=>(iE∘Jr∘Jc O1∘Jp 1∘Ja∘JW fU aT) λl=>(iE∘Jr∘Jp 2∘Jw .u64∘Jy (v:=vQ (if (most:Int)<((aB (b.drop p)).1:Int) then (most:Int) else ((aB (b.drop p)).1:Int))) (h:=by exact Yl.min rfl rfl rfl)∘Jo (vQ (bJ most (b.drop p))) (by rw [Da])∘Jw .i64∘Jp 1∘aG∘Jj∘JZ∘JC (h:=by exact λd=>d.pt (fs':=(.blk g #[abh A b c] 30:: .blk i #[vI (p+((aB (b.drop p)).2.1):Nat)] 3:: .blk k #[.bool false] 4::fr)) 3 [0,1,2])∘aZ) λd=>Sq rfl (by unfold eu;rw [V4 om,Bool.and_false]) d
 exact (Jv 9 [(27,.bool false)]∘JW iM aT) λf=>(wI∘Jr∘Jc O1∘Jp 1∘Ja∘JW fU aT) λl=>(wI∘Jr∘Jp 2∘Jw .u64∘Jy (v:=vQ (if (most:Int)<((aB (b.drop p)).1:Int) then (most:Int) else ((aB (b.drop p)).1:Int))) (h:=by exact Yl.min rfl rfl rfl)∘Jo (vQ (bJ most (b.drop p))) (by rw [Da])∘Jw .i64∘Jp 1∘l8∘Jj∘JZ∘JC (h:=by exact λd=>d.pt (fs':=(.blk g #[abh A b c] 30:: .blk i #[vI (p+((aB (b.drop p)).2.1):Nat)] 3:: .blk k #[.bool false] 4::fr)) 3 [0,1,2])∘aZ) λd=>Sq rfl (by rw [e,Bool.false_and]) d
def SN (A:Option Addr) (c:Nat) (b:List Nat) (B:Nat) (w:World) (hL:aM B w) (hB:B≤w.heap.size) (hr:Rd w w.heap.size 1 A (abl b) (b.map B8)) (hc:abl b≤c) (hn:abl b≤100000000) (P:∀z∈b,z<256):
    Calls abm 18 #[.slice A (abl b) c] w (DW w (dK b)):=by
 refine (dV Tryz.func18 129) ?_
 refine (JP∘AP) λw1 q=>(Jp 2∘Jj∘JQ∘JB∘JP∘Jc O0∘Jl∘Jp 2∘dQ∘Jj) (Ji (λQ=>?_) λQ=>?_)
 ·
  exact (JT∘JP∘Jp 2∘Jj∘JZ∘bG) λd=>yI d.below (zaw om) rfl
 have e:¬16777216<abl b:=by omega
 refine (JF∘JP∘Jc O0∘Jl∘Jp 2) (Ji (λR=>?_) λR=>?_)
 ·
  have N:¬(b.take 3=[113,97,1]):=λh=>by have:=congrArg adz h;rw [abr] at this;have h9:abl ([113,97,1]:List Nat)=3:=rfl;omega
  exact (Jp 6∘aG∘Jj∘JT∘JP∘Jp 2∘Jj∘JZ∘bG) λd=>yI d.below (qw2 e N) rfl
 have h3:3≤abl b:=by omega
 refine (Jc O0∘Jy (h:=by exact aag aV (j:=3) rfl rfl rfl om)∘Jy (h:=by exact aaB rfl rfl (λ_ h=>zdj (h.old hr) om))∘Jp 1∘Jo (.bool (!(decide (b.take 3=[113,97,1])))) (by rw [show (⟨#[113,97,1]⟩:ByteArray)=jF [113,97,1] from rfl,zd4 (λz hz=>P z (acg hz)) de])∘Jp 2∘aG∘Jj) (oz (λG=>?_) λG=>?_)
 ·
  have N:¬(b.take 3=[113,97,1]):=G
  exact (JT∘JP∘Jp 2∘Jj∘JZ∘bG) λd=>yI d.below (qw2 e N) rfl
 have o:b.take 3=[113,97,1]:=G
 refine (JF∘aD∘JP∘JA #[vI 0]) λw4 r=>(JW aT aT) λSL=>(Jq) ?_
 obtain ⟨K,J⟩:∃K,dB b 3 1024=K:=⟨_,rfl⟩
 have hK2:K≤1024:=by rw [←J];exact Rs
 refine (JG∘JP∘JA #[.bool false]) λw5 s=>(JW aT aT) λN9=>(Jr∘Jy (h:=by exact Yl.makeFunc (fst:=[]) (caps:=[vP q 0,vP r 0,vP s 0]) rfl rfl rfl)∘Jp 1∘aK∘Jr∘Jp 1∘Jq∘JC (h:=by exact λd=>d.nil 57 4)∘JG∘JP∘Jp 2∘Jj∘JQ∘JP∘Jp 1) λa Z d=>?_
 refine fo Z 1 rfl rfl ?_
 replace d:=d.pk (fs':=[.blk q #[abh A b c] 30,.blk r #[vI 3] 3,.blk s #[.bool true] 4,.row (vN) 0 [] 57 4]) [3,2,1,0]
 refine mU Z (f:=51) (vs:=[vI 1024]) (fst:=[]) (caps:=[vP q 0,vP r 0,vP s 0]) rfl rfl rfl kr rfl de (Mw w _ q r s A c b 3 true 1024 [.row (vN) 0 [] 57 4] P h3 hn hr hc de d) ?_
 rintro _ SF ⟨rfl,hm⟩
 refine ⟨_,rfl,?_⟩
 replace d:=hm
 clear Z;intro a Z
 refine Jb Z d ((Jp 1∘Jj∘JB) λa Z d=>?_)
 refine qg (λS aS wS=>∃(i:Nat) (p:Nat) (ok:Bool) (last:Nat) (sum:Nat) (out:List Pl) (F:Option Addr) (co:Nat),(i≤K)∧(p≤abl b)∧(gI b (true&&eu b 3 1024) K (bg b 3) ok (K-i) p last sum out)∧(last≤4611686018427387904)∧(sum≤i*33554432)∧(abl out=i)∧(∀x∈out,x.sn≤sum∧x.st≤sum∧x.en≤sum)∧(abl out≤co)∧S=K-i∧Fr aS 129 [] [(29,vI i),(28,vI (dB b 3 1024)),(9,vI sum),(8,vI last),(7,abh F out co),(6,.func (.func 51) #[] #[vP q 0,vP r 0,vP s 0]),(5,vP s 0),(4,vP r 0),(16,.bool false),(12,.bool false),(3,vI 0),(2,vN),(1,vP q 0)]∧Mem w wS [.blk q #[abh A b c] 30,.blk r #[vI p] 3,.blk s #[.bool ok] 4,abk F out co jY 57 4]) (m:=K-0) ⟨0,(bg b 3),(true&&eu b 3 1024),0,0,[],none,0,abw _,qc3 h3,zgt,abw _,abw _,rfl,(λx hx=>by cases hx),abq _,rfl,Z.sub kr,d.pk [0,1,2,3]⟩ ?_
 clear Z d;rintro S a w_ ⟨i,p,ok,last,sum,out,F,co,hi,hp,L,hlast,hsum,hol,T,hco,rfl,Z,d⟩
 refine Jb Z d ((JP∘Jp 1∘Jj∘JQ) (Ji (λU=>?_) λU=>?_))
 ·
  have apJ:i<K:=by omega
  obtain ⟨k,hk⟩:∃k,K-i=k+1:=⟨K-i-1,by omega⟩
  have V:=qc3 (b:=b) hp
  have W:=qc3 (b:=b) V
  have X:=zgu (b:=b) (p:=p)
  have hsl:=zgv (b:=b) (p:=p)
  have hbl:=zgw (b:=b) (p:=p)
  rw [hk] at L
  intro a Z d
  unfold kS at X;unfold kT at hsl;unfold mF at hbl
  refine Jb Z d ((JT∘aD∘JQ∘JB∘JP∘Jp 1) λa Z d=>?_)
  refine fo Z 1 rfl rfl ?_
  replace d:=d.pk (fs':=[.blk q #[abh A b c] 30,.blk r #[vI p] 3,.blk s #[.bool ok] 4,abk F out co jY 57 4]) [0,1,2,3]
  refine mU Z (f:=51) (vs:=[vI 4611686018427387904]) (fst:=[]) (caps:=[vP q 0,vP r 0,vP s 0]) rfl rfl rfl kr rfl de (Mw w _ q r s A c b p ok 4611686018427387904 [abk F out co jY 57 4] P hp hn hr hc de d) ?_
  rintro _ w32 ⟨rfl,hm⟩
  refine ⟨_,rfl,?_⟩
  replace d:=hm
  clear Z;intro a Z
  refine Jb Z d ((fu #[vI (dB b p 4611686018427387904),vI 0,vI 0,vI 0]∘JA #[vI 0,vI 0,vI 0,vI 0]) λtZ H=>(JV rD aT) λabH=>(dQ∘Jr∘Jp 1∘Jf 1∘JW aT fU) λabI=>(mI∘Jj) λa Z d=>?_)
  refine wp_seq ?_
  refine Jb Z d ((Vs (.t (.t (.f (.f .n)))) [6]) λBA=>(Vf 0 1∘Vp [2]∘Vc 1 O0) λa Z d D=>?_)
  refine s_on Z 3 rfl ?_
  replace d:=d.pk (fs':=[.blk q #[abh A b c] 30,.blk r #[vI (bg b p)] 3,.blk s #[.bool (ok&&eu b p 4611686018427387904)] 4,.blk H #[vI (dB b p 4611686018427387904),vI sum,vI 0,vI 0] 57,abk F out co jY 57 4]) [1,2,3,0,4]
  refine mU Z (f:=51) (vs:=[vI 16777216]) (fst:=[]) (caps:=[vP q 0,vP r 0,vP s 0]) rfl rfl rfl kr rfl de (Mw w _ q r s A c b (bg b p) (ok&&eu b p 4611686018427387904) 16777216 [.blk H #[vI (dB b p 4611686018427387904),vI sum,vI 0,vI 0] 57,abk F out co jY 57 4] P V hn hr hc de d) ?_
  rintro _ Lj ⟨rfl,hm⟩
  refine ⟨_,rfl,?_⟩
  replace d:=hm
  clear Z;intro a Z
  refine ay (d.pk [3,0,4]) (λD=>?_)
  refine Vb Z d D ((Va 4∘Vf 5 2) λa Z d D=>?_)
  refine s_on Z 6 rfl (fE Z d 3 λabJ d=>?_)
  refine dJ kr ?_
  refine qd kr ?_
  refine wp_seq ?_
  refine Jb Z d ((Vs (.t (.f (.f .n))) [6]) λQw=>(Vf 0 2∘Vp [2]∘Vc 1 O1) λa Z d D=>?_)
  refine s_on Z 3 rfl ?_
  replace d:=d.pk (fs':=[.blk q #[abh A b c] 30,.blk r #[vI (bg b (bg b p))] 3,.blk s #[.bool ((ok&&eu b p 4611686018427387904)&&eu b (bg b p) 16777216)] 4,.blk H #[vI (dB b p 4611686018427387904),vI sum,vI (sum+(dB b (bg b p) 16777216):Nat),vI 0] 57,abk F out co jY 57 4]) [0,1,2,3,4]
  refine mU Z (f:=51) (vs:=[vI 16777216]) (fst:=[]) (caps:=[vP q 0,vP r 0,vP s 0]) rfl rfl rfl kr rfl de (Mw w _ q r s A c b (bg b (bg b p)) ((ok&&eu b p 4611686018427387904)&&eu b (bg b p) 16777216) 16777216 [.blk H #[vI (dB b p 4611686018427387904),vI sum,vI (sum+(dB b (bg b p) 16777216):Nat),vI 0] 57,abk F out co jY 57 4] P W hn hr hc de d) ?_
  rintro _ w45 ⟨rfl,hm⟩
  refine ⟨_,rfl,?_⟩
  replace d:=hm
  clear Z;intro a Z
  refine ay (d.pk [0,3,4]) (λD=>?_)
  refine Vb Z d D ((Va 4∘Vf 5 3) λa Z d D=>?_)
  refine s_on Z 6 rfl (fE Z d 3 λabK d=>?_)
  refine dJ kr ?_
  refine qd kr ?_
  refine Jb Z d ((JP∘Jc O2∘Jp 1) (Ju (λy=>?_) λy=>?_))
  ·
   refine (Jg 0 O3∘Jp 3∘JW iM aT) λO=>(iE∘Jj∘JQ∘JP∘Jc O2∘Jp 1∘aG∘Jj) (oz (λY=>?_) λY=>?_)
   ·
    exact (JT∘JP∘Jp 2∘Jj∘JZ∘bG) λd=>by exact yI d.below (Ru e o (by rw [J];exact L.stop (by unfold kS;rintro ⟨_,h2⟩;omega))) rfl
   refine (JC (h:=by exact λd=>d.dL (i:=2) (ds:= #[.bool true]) rfl (by rw [decide_eq_true om]))∘JC (h:=by exact λd=>(show Mem w _ [.blk q #[.slice A (abl b) c] 30,.blk r #[vI (bg b (bg b (bg b p)))] 3,.blk s #[.bool true] 4,.blk H #[vI (dB b p 4611686018427387904),vI sum,vI (sum+(dB b (bg b p) 16777216):Nat),vI (sum+(dB b (bg b p) 16777216)+(dB b (bg b (bg b p)) 16777216):Nat)] 57,abk F out co jY 57 4] from d))∘JF∘aD∘JP∘Jp 1∘Jy (v:= .agg #[vI (dB b p 4611686018427387904),vI sum,vI (sum+(dB b (bg b p) 16777216):Nat),vI (sum+(dB b (bg b p) 16777216)+(dB b (bg b (bg b p)) 16777216):Nat)]) (h:=by exact Pe rfl rfl rD rfl (λ_ h=>qi (h.blk (i:=3) rfl)))∘JU Aa #[vI (dB b p 4611686018427387904),vI sum,vI (sum+(dB b (bg b p) 16777216):Nat),vI (sum+(dB b (bg b p) 16777216)+(dB b (bg b (bg b p)) 16777216):Nat)]) λQM g59=>(JD ([(lK b p sum)].flatMap jY) 5 (λ_ _=>tX) Aa (hr:=by exact λd=>d.aX (i:=0) (n:=1) (size:=4) rfl rfl) (h1:=by exact zhi _)) λw60 A60 c60 M=>(Jp 1∘gu∘Jq) ?_
   have u:abl out+1=abl (out++[(lK b p sum)]):=by rw [abn];rfl
   rw [u] at M
   refine (JC (h:=by exact λd=>d.aY (i:=5) (ys:=(out++[(lK b p sum)]).flatMap jY) rfl u (by rw [ab2]))∘Jk 7 (.slice A60 (abl (out++[(lK b p sum)])) c60) (h:=by exact iy u)∘JG∘Vs .n []) λOQ=>(Vf 0 0∘Vf 2 3∘Vc 1 O4∘Vp [4]∘Vc 3 O4∘Vp [5]∘Vd∘aK∘JG∘JR∘bT 1∘Jp 1∘aK∘Jq) λa Z d=>?_
   exact ⟨_,om,i+1,(bg b (bg b (bg b p))),true,(dB b p 4611686018427387904),(sum+dB b (bg b p) 16777216+dB b (bg b (bg b p)) 16777216),(out++[(lK b p sum)]),A60,c60,by omega,qc3 W,(by rw [show K- (i+1)=k by omega];exact L.step y (by unfold kS;omega)),X,by omega,by rw [abn,hol];rfl,q61 T,M,rfl,Z.sub kr,d.pk [1,2,3,5]⟩
  exact (Jp 5∘JW iM aT) λO=>(iE∘Jj∘JQ∘JP∘Jc O2∘Jp 1∘aG∘Jj∘JT∘JP∘Jp 2∘Jj∘JZ∘bG) λd=>by exact yI d.below (Ru e o (by rw [J];exact L.stop (by rintro ⟨h1,_⟩;rw [h1] at y;cases y))) rfl
 have hik:i=K:=by omega
 refine (JF∘JX∘JG∘JQ∘JP∘Jc O2∘Jp 2) (Ju (λI=>?_) λI=>?_)
 ·
  have SQ:ok=false:=by simpa using I
  have hbad:kE b (true&&eu b 3 1024) K (bg b 3) 0 0=none:=by rw [SQ] at L;exact L.bad
  exact (Jv 23 [(91,.bool true)]∘dQ∘Jj∘JT∘JP∘Jp 2∘Jj∘JZ∘bG) λd=>yI d.below (Ru e o (by rw [J];exact hbad)) rfl
 have SS:ok=true:=by simpa using I
 have C:kE b (true&&eu b 3 1024) K (bg b 3) 0 0=some (out,p,sum):=by rw [SS,show K-i=0 by omega] at L;exact L.fin
 refine (Jc O1∘bT 4∘Jc O0∘Jl∘Jp 3) (Ji (λSV=>?_) λSV=>?_)
 ·
  exact (Jv 16 [(91,.bool true)]∘aG∘Jj∘JT∘JP∘Jp 2∘Jj∘JZ∘bG) λd=>by exact yI d.below (Rv e o (by rw [J];exact C) (by rintro ⟨h1,h2,h3⟩;first|omega|(rw [h2] at g;cases g))) rfl
 refine (Jc O0∘Jc O1∘bT 4∘Jy (h:=by exact aag aV (j:=p+4) rfl rfl rfl om)∘JI (h:=by exact λd=>NM A (p+4) c (b.take (p+4)) B _ (hL.mem d hB) (d.le hB) (zdj (d.old hr) om) om (by rw [abr];omega) om (λz hz=>P z (acg hz)))) λY0 hbw=>(Jp 3) (Ju (λg=>?_) λg=>?_)
 ·
  exact (Jv 8 [(91,.bool true)]∘aG∘Jj∘JT∘JP∘Jp 2∘Jj∘JZ∘bG) λd=>by exact yI d.below (Rv e o (by rw [J];exact C) (by rintro ⟨h1,h2,h3⟩;first|omega|(rw [h2] at g;cases g))) rfl
 refine (Jc O1∘bT 4∘Jp 1∘Ja∘Jc O0∘Jl∘Jp 2∘aG∘Jj) (Jh (λhd91=>?_) λhd91=>?_)
 ·
  exact (JT∘JP∘Jp 2∘Jj∘JZ∘bG) λd=>by exact yI d.below (Rv e o (by rw [J];exact C) (by rintro ⟨h1,h2,h3⟩;first|omega|(rw [h2] at g;cases g))) rfl
 have hall:p+4≤abl b∧zl (b.take (p+4))=true∧p+4+sum=abl b:=⟨by omega,by simpa using g,by omega⟩
 refine (JF∘aD∘JQ∘JP∘Jp 1∘Jl∘Jp 1∘Jq∘JC (h:=by exact λd=>d.bR (i:=3) (ys:=(fD (Pl.up (p+4)) out 0).flatMap jY) rfl (by rw [q0a]))∘JG∘JB) λa Z d=>?_
 refine qg (λS aS wS=>∃(j:Nat),(j≤abl out)∧S=abl out-j∧Fr aS 129 [] [(94,vI j),(93,vI (abl out)),(91,.bool false),(30,.bool false),(29,vI i),(28,vI (dB b 3 1024)),(9,vI sum),(8,vI last),(7,abh F out co),(6,.func (.func 51) #[] #[vP q 0,vP r 0,vP s 0]),(5,vP s 0),(4,vP r 0),(16,.bool false),(12,.bool false),(3,vI 0),(2,vN),(1,vP q 0)]∧Mem w wS [.blk q #[abh A b c] 30,.blk r #[vI p] 3,.blk s #[.bool ok] 4,.row (abh F out co) (abl out) ((fD (Pl.up (p+4)) out j).flatMap jY) 57 4]) (m:=abl out-0) ⟨0,abw _,rfl,Z.sub kr,d.pk [0,1,2,3]⟩ ?_
 clear Z d;rintro S a w_ ⟨j,hj,rfl,Z,d⟩
 refine Jb Z d ((JP∘Jp 1∘Jj∘JQ) (Ji (λhd95=>?_) λhd95=>?_))
 ·
  have l:j<abl out:=by omega
  have hmx:=T _ (qe Pl.zero l)
  have hu1:((out.getD j Pl.zero).yJ (p+4)).st=(out.getD j Pl.zero).st:=rfl
  have hu2:((out.getD j Pl.zero).Cv (p+4)).en=(out.getD j Pl.zero).en:=rfl
  refine (JT∘aD∘JQ∘JB∘JP∘Jp 2∘aK∘Jj) λa Z d=>?_
  refine wp_seq ?_
  refine Jb Z d ((Vs .n [10]) λapK=>(Vp [0,1]) ?_)
  repeat (first|clear Z|clear d|clear D)
  intro a Z d D
  obtain ⟨E,rfl⟩:=d.rat 3 j
  refine Vb Z d D ((Vy 2 (h:=by exact Yl.iw E j 4 rfl rfl rfl)∘Vf 3 1∘Vy 4 (v:=vI ((out.getD j Pl.zero).sn)) (h:=by exact Pd rfl rfl kr (λ_ h=>h.qq tq (i:=3) rfl (k:=j) (off:=1) (x:=(out.getD j Pl.zero)) ((DV (Pl.up (p+4)) out Pl.zero l)) rfl))∘Vc 5 O1∘xE 6 4∘Va 7∘Vu 8 (h:=by exact λ_=>Yl.iw E j 4 rfl rfl rfl)∘Vf 9 1) λa Z d D=>?_)
  refine s_on Z 10 rfl ?_
  refine zd Z d (i:=3) rfl rfl rfl rfl kr rfl rfl (by rw [pO jY 4 tq];simp only [abO,Sn];omega) λSX d=>?_
  replace d:=d.bR (i:=3) (ys:=((fD (Pl.up (p+4)) out j).set j ((out.getD j Pl.zero).yJ (p+4))).flatMap jY) rfl (tL jY 4 tq (fD (Pl.up (p+4)) out j) j (out.getD j Pl.zero) ((out.getD j Pl.zero).yJ (p+4)) (DV (Pl.up (p+4)) out Pl.zero l) 1 de _ rfl)
  refine dJ kr ?_
  refine qd kr ?_
  refine wp_seq ?_
  refine Jb Z d ((Vs .n [10]) λapM=>(Vp [0,1]∘Vy 2 (h:=by exact Yl.iw E j 4 rfl rfl rfl)∘Vf 3 2∘Vy 4 (v:=vI (((out.getD j Pl.zero).yJ (p+4)).st)) (h:=by exact Pd rfl rfl kr (λ_ h=>h.qq tq (i:=3) rfl (k:=j) (off:=2) (x:=((out.getD j Pl.zero).yJ (p+4))) ((DZ (DV (Pl.up (p+4)) out Pl.zero l))) rfl))∘Vc 5 O1∘xE 6 4∘Va 7∘Vu 8 (h:=by exact λ_=>Yl.iw E j 4 rfl rfl rfl)∘Vf 9 2) λa Z d D=>?_)
  refine s_on Z 10 rfl ?_
  refine zd Z d (i:=3) rfl rfl rfl rfl kr rfl rfl (by rw [pO jY 4 tq];simp only [abO,Sn];omega) λSY d=>?_
  replace d:=d.bR (i:=3) (ys:=(((fD (Pl.up (p+4)) out j).set j ((out.getD j Pl.zero).yJ (p+4))).set j ((out.getD j Pl.zero).Cv (p+4))).flatMap jY) rfl (tL jY 4 tq ((fD (Pl.up (p+4)) out j).set j ((out.getD j Pl.zero).yJ (p+4))) j ((out.getD j Pl.zero).yJ (p+4)) ((out.getD j Pl.zero).Cv (p+4)) (DZ (DV (Pl.up (p+4)) out Pl.zero l)) 2 de _ rfl)
  refine dJ kr ?_
  refine qd kr ?_
  refine Jb Z d ((Vs .n [10]) λapN=>(Vp [0,1]∘Vy 2 (h:=by exact Yl.iw E j 4 rfl rfl rfl)∘Vf 3 3∘Vy 4 (v:=vI (((out.getD j Pl.zero).Cv (p+4)).en)) (h:=by exact Pd rfl rfl kr (λ_ h=>h.qq tq (i:=3) rfl (k:=j) (off:=3) (x:=((out.getD j Pl.zero).Cv (p+4))) ((DZ (DZ (DV (Pl.up (p+4)) out Pl.zero l)))) rfl))∘Vc 5 O1∘xE 6 4∘Va 7∘Vu 8 (h:=by exact λ_=>Yl.iw E j 4 rfl rfl rfl)∘Vf 9 3) λa Z d D=>?_)
  refine s_on Z 10 rfl ?_
  refine zd Z d (i:=3) rfl rfl rfl rfl kr rfl rfl (by rw [pO jY 4 tq];simp only [abO,Sn];omega) λS9 d=>?_
  replace d:=d.bR (i:=3) (ys:=(fD (Pl.up (p+4)) out (j+1)).flatMap jY) rfl ((tL jY 4 tq (((fD (Pl.up (p+4)) out j).set j ((out.getD j Pl.zero).yJ (p+4))).set j ((out.getD j Pl.zero).Cv (p+4))) j ((out.getD j Pl.zero).Cv (p+4)) ((out.getD j Pl.zero).up (p+4)) (DZ (DZ (DV (Pl.up (p+4)) out Pl.zero l))) 3 de _ rfl).trans (by rw [adX,adX,q0b (Pl.up (p+4)) out Pl.zero l]))
  refine dJ kr ?_
  refine qd kr ?_
  refine Jb Z d ((JG∘JR∘bT 1∘Jp 1∘aG∘Jq) λa Z d=>?_)
  exact ⟨_,om,j+1,by omega,rfl,Z.sub kr,d.pk [0,1,2,3]⟩
 have hjn:abl out≤j:=by omega
 exact (JF∘JX∘JG∘JP∘Jp 3∘Jj∘JZ∘bG) λd=>q6f (zc7 e o (by rw [J];exact C) hall) (by rw [abu]) (by have h:=d.own (i:=3) rfl;rwa [q6g hjn] at h) hco d.below
def qng (hb:∀x∈b,x<256) (h:dK b=(L,0)):∀x∈L,x.sn≤x.st∧x.st≤x.en∧x.en≤abl b:=λx c=>by
 obtain ⟨a,d⟩:=(qw3 hb h).at
 obtain ⟨i,hi,rfl⟩:=acB c
 have h1:=d.sn i hi
 rw [abo,abp hi] at h1
 exact ⟨h1.2.1,h1.2.2.1,h1.2.2.2.1⟩
def q62 (hb:∀x∈b,x<256) (h:dK b=(L,0)):abl L≤1024:=by
 obtain ⟨a,c⟩:=(qw3 hb h).at
 exact c.few
def qr7 (A:Option Addr) (c:Nat) (b:List Nat) (a:Nat) (w:World) (d:aM a w) (e:a≤w.heap.size) (hr:Rd w w.heap.size 1 A (abl b) (b.map B8)) (hc:abl b≤c) (f:abl b≤100000000) (g:∀z∈b,z<256) {L:List Pl} {m:Nat} (h:dK b=(L,m)):Calls abm 18 #[.slice A (abl b) c] w (DW w (L,m)):=h▸SN A c b a w d e hr hc f g
theorem zbm {p:Pm} (h:Mem W w (a++(j5 p++[]))):Mem W w (j5 p):=by
 rw [abU] at h
 exact h.mV (afb a _)
def qr8 (A:Option Addr) (c:Nat) (b:List Nat) (s:Nat) (w:World) (D:aM s w) (y:s≤w.heap.size) (hr:Rd w w.heap.size 1 A (abl b) (b.map B8)) (hc:abl b≤c) (E:abl b≤100000000) (t:∀z∈b,z<256) (n:Int) (F:aR n):
    Calls abm 40 #[.slice A (abl b) c,vI n] w (Is w (.tuple #[vI (iD b n).1,vI ((iD b n).2:Int)])):=by
 refine (iX Tryz.func40 32) ?_
 refine (JP∘Jp 2∘Jq) ?_
 obtain ⟨L,l,e⟩:∃L l,dK b=(L,l):=⟨_,_,rfl⟩
 have G:(L,l).1.length=abl L:=rfl
 refine (JG∘JP∘Jp 1∘JK (h:=by exact λd=>qr7 A c b s _ (D.mem d y) (d.le y) (d.old hr) hc E t e)) λB pc H I=>(Jp 1∘Jx∘Jx∘Jp 2∘Jj∘JQ∘JP∘Jp 2∘aK∘Jj) (Jh (λo=>?_) λo=>?_)
 ·
  exact (JT∘JP∘Jp 3∘Jj∘JZ∘bG) λd=>Ab (za9 e om) rfl d.below
 have f:l=0:=by omega
 have J:∀x∈L,x.sn≤x.st∧x.st≤x.en∧x.en≤abl b:=qng t (by rw [e,f])
 have K:abl L≤1024:=q62 t (by rw [e,f])
 refine (JF∘aD∘JQ∘JP∘Jp 1∘Jl∘Jp 1∘Jo (vI ((abl L:Int)-1)) (by exact ou ⟨by omega,by omega⟩)∘Jp 1∘dQ∘Jj∘JB) λa Z d=>?_
 refine qg (λC M N=>∃(k:Nat),(k≤abl L)∧(iD b n=tC L n k)∧C=0+k∧Fr M 32 [] [(8,vI ((k:Int)-1)),(15,.bool false),(7,vI l),(6,abh B L pc),(5,vI 0),(4,vI 0),(1,vI n)]∧Mem w N [abk B L pc jY 57 4]) (m:=0+abl L) ⟨abl L,abq _,q6h (by rw [e,f]),rfl,Z.sub kr,d.pk [0]⟩ ?_
 clear Z d;rintro C a Q ⟨k,R,g,rfl,Z,d⟩
 refine Jb Z d ((JQ∘JP∘Jp 2∘aK∘Jj) (Ji (λp=>?_) λp=>?_))
 ·
  obtain ⟨j,u⟩:∃j,k=j+1:=⟨k-1,by omega⟩
  have O:j<abl L:=by omega
  have q:tC L n k=if ((L.getD j Pl.zero).nx:Int)≤n then ((j:Int),0) else tC L n j:=by rw [u];rfl
  refine (JT∘aD∘JQ∘JB∘JP∘Jp 2∘Jo (vI j) (by rw [show ((k:Int)-1)=(j:Int) by omega])) ?_
  repeat (first|clear Z|clear d)
  intro a Z d
  obtain ⟨P,rfl⟩:=d.rat 0 j
  refine Jb Z d ((l9 j 4∘Jf 0∘Jy (v:=vI ((L.getD j Pl.zero).nx)) (h:=by exact Pd rfl rfl kr (λ_ h=>(by have:=h.qq tq (i:=0) rfl (k:=j) (off:=0) (x:=(L.getD j Pl.zero)) ((getD_at Pl.zero O)) rfl;simpa using this)))∘Jp 2∘aG∘Jj) (Ji (λr=>?_) λr=>?_))
  ·
   exact (JT∘JP∘Jp 1∘Jo (vI j) (by rw [show ((k:Int)-1)=(j:Int) by omega])∘Jp 2∘Jj∘JZ∘bG) λd=>Ab (m:=0) (g.trans (q.trans (if_pos om))) rfl d.below
  refine (JF∘aD∘JR∘Jp 1∘Jo (vI j) (by rw [show ((k:Int)-1)=(j:Int) by omega])∘Jp 1∘Jo (vI ((j:Int)-1)) (by exact ou ⟨by omega,by omega⟩)∘Jp 1∘bH∘Jq) λa Z d=>?_
  exact ⟨_,om,j,by omega,(g.trans (q.trans (if_neg om))),rfl,Z.sub kr,d.pk [0]⟩
 exact (JF∘JX∘JG∘JP∘Jp 2∘Jj∘JZ∘bG) λd=>Ab (m:=6) (g.trans (by rw [show k=0 by omega];rfl)) rfl d.below
def qr9 (A:Option Addr) (c:Nat) (b:List Nat) (r:Nat) (w:World) (H:aM r w) (s:r≤w.heap.size) (hr:Rd w w.heap.size 1 A (abl b) (b.map B8)) (hc:abl b≤c) (I:abl b≤100000000) (t:∀z∈b,z<256) (i:Int) (O:aR i) (B:∀x∈(dK b).1,iF (bS b x.st x.en)):
    Calls abm 20 #[.slice A (abl b) c,vI i] w (Ik w b i):=by
 refine (iX Tryz.func20 37) ?_
 refine (JP∘JA #[vI 0,vI 0,vQ 0,vN,vN,vN,vN,vN,vN]) λU J=>(Jp 1∘Jq) ?_
 obtain ⟨L,u,d⟩:∃L u,dK b=(L,u):=⟨_,_,rfl⟩
 have P:(L,u).1.length=abl L:=rfl
 refine (JG∘JP∘Jp 1∘JK (h:=by exact λf=>qr7 A c b r _ (H.mem f s) (f.le s) (f.old hr) hc I t d)) λV pc Q R=>(Jp 1∘Jx∘Jx∘Jp 2∘Jj∘JQ∘JB∘JP∘Jp 3∘bH∘Jj) (Jh (λl=>?_) λl=>?_)
 ·
  refine (JT∘JP∘fu #[vI 0,vI 0,vQ 0,vN,vN,vN,vN,vN,vN]∘Jp 1∘JV cB fU) λK=>(Jp 1∘bH∘Jj∘JZ) λa Z f=>?_
  exact eZ rfl Z (.cellS (i:=1) Z f rfl rfl cB rfl) (.tmp Z rfl) (Sr (za8 d om) rfl om (f.pk []))
 have g:u=0:=by omega
 have C:∀x∈L,x.sn≤x.st∧x.st≤x.en∧x.en≤abl b:=qng t (by rw [d,g])
 have S:abl L≤1024:=q62 t (by rw [d,g])
 refine (JF∘JP∘Jp 3) (Ji (λm=>?_) λm=>?_)
 ·
  refine (Jp 6∘aG∘Jj∘JT∘JP∘fu #[vI 0,vI 0,vQ 0,vN,vN,vN,vN,vN,vN]∘JV cB fU) λn=>(Jp 1∘aK∘Jj∘JZ) λa Z f=>?_
  exact eZ rfl Z (.cellS (i:=1) Z f rfl rfl cB rfl) (.tmp Z rfl) (Sr (e:=2) (qxe (by rw [d,g]) om) rfl de (f.pk []))
 refine (Jp 2∘Jl∘Jp 3∘aG∘Jj) (Ji (λo=>?_) λo=>?_)
 ·
  refine (JT∘JP∘fu #[vI 0,vI 0,vQ 0,vN,vN,vN,vN,vN,vN]∘JV cB fU) λn=>(Jp 1∘aK∘Jj∘JZ) λa Z f=>?_
  exact eZ rfl Z (.cellS (i:=1) Z f rfl rfl cB rfl) (.tmp Z rfl) (Sr (e:=2) (qxe (by rw [d,g]) om) rfl de (f.pk []))
 obtain ⟨k,M⟩:∃k:Nat,i=(k:Int):=⟨i.toNat,by omega⟩
 have j:k<abl L:=by omega
 obtain ⟨x,y⟩:∃x,L.getD k Pl.zero=x:=⟨_,rfl⟩
 have D:=C x (by rw [←y];exact qe Pl.zero j)
 refine (JF∘aD∘JP∘Jp 2∘Jo (vI k) (by rw [M])) ?_
 repeat (first|clear Z|clear f)
 intro a Z f
 obtain ⟨q,rfl⟩:=f.rat 0 k
 refine Jb Z f ((l9 k 4∘Jy (v:= .agg ((L.getD k Pl.zero).cells)) (h:=by exact Pe rfl rfl rD rfl (λ_ h=>h.CQ tq (i:=0) rfl ((getD_at Pl.zero j))))∘Jo (.agg x.cells) (by rw [y])∘Jp 1∘fu #[vI x.nx,vI x.sn,vI x.st,vI x.en,abh A b c]∘JL (h:=by exact λf=>q60 A c b r _ (H.mem f s) (f.le s) (f.old hr) hc I t x D (B x (by rw [d,←y];exact qe Pl.zero j)))) ?_)
 rintro f _ E ⟨p,rfl,F,G,hm⟩
 refine ⟨_,rfl,_,(show Mem w E (.row (vS q (abl L) pc) (abl L) (L.flatMap jY) 57 4:: .blk J #[vI 0,vI 0,vQ 0,vN,vN,vN,vN,vN,vN] 53::(j5 p++([]))) from f.j3 (T:=[]) 2 hm rfl),?_⟩
 refine (Jx∘Jx∘JV cB fU (h1:=by exact DR p)) λN=>(Jp 1∘aG∘Jj∘JZ) λa Z f=>?_
 exact eZ rfl Z (.cellS (i:=1) Z f rfl rfl cB rfl) (.tmp Z rfl) (za7 (by rw [d,g]) M j y F G (zbm (a:=[.row (vS q (abl L) pc) (abl L) (L.flatMap jY) 57 4,.blk J p.cells 53]) f))
def D5 (n:Int) (l:aR n) (w:World):
    Calls abm 34 #[vI n] w (zda w n):=by
 refine (dV Tryz.func34 19) ?_
 refine (JP∘JA #[vI 0,vI 0,vQ 0,vN,vN,vN,vN,vN,vN]) λq r=>(Jr∘fu #[vI 0,vI 1]∘JU iO #[vI 0,vI 1]) λs d=>(fu #[vI 1,vQ 0,vS d 1 1]∘JU zu #[vI 0]) λt f=>(JU zu #[vI 0]) λu g=>(fu #[vQ 0,vW 0,vQ 0]∘JU lu #[vQ 0,vW 0,vQ 0]) λm c=>(JU nJ #[vS c 1 1]) λo b=>(fu #[vI 1,vQ 0,vS d 1 1,vS f 1 1,vS g 1 1,vN,vS b 1 1]∘JA #[vI 0,vQ 0,vN,vN,vN,vN,vN]) λv x=>(JV fK aT) λh=>(aG∘Jr∘Jp 1∘d9 fK O0∘fu #[vI n,vI 1,vQ 0,vS d 1 1,vS f 1 1,vS g 1 1,vN,vS b 1 1]∘fu #[vB 2,vB 0,vI 0,vI 7,vN]∘JU ER #[vB 2,vB 0,vI 0,vI 7,vN]) λp e=>(fu #[vI n,vI 1,vQ 0,vS d 1 1,vS f 1 1,vS g 1 1,vN,vS b 1 1,vS e 1 1]∘JV cB xB) λj=>(iE∘Jj∘JZ) λa Z k=>?_
 exact iq rfl Z (.cellS (i:=7) Z k rfl rfl cB rfl) (IJ l (k.pk (fs':=[.blk d #[vI 0,vI 1] 198,.blk f #[vI 0] 3,.blk g #[vI 0] 3,.blk b #[vS c 1 1] 176,.blk c #[vQ 0,vW 0,vQ 0] 200,.blk e #[vB 2,vB 0,vI 0,vI 7,vN] 85]) [6,5,4,2,3,0]))
def qu1 (B:Nat) (w:World) (a:aM B w) (b:B≤w.heap.size):Calls abm 16 #[vN] w (ze w 0 lU):=by
 have h:=Td none 0 [] B w a b Rd.nil (λp c=>by cases c) (abq _) (abw _)
 rwa [show nH (List.map Pm.v [])=(lU,0) from Aj.1] at h
def q64 (A:Option Addr) (c:Nat) (p:Pm) (hs:eD (kF 1) p.z) (a:p.q.map acZ=[kg 7]) (B:Nat) (w:World) (d:aM B w) (e:B≤w.heap.size) (hr:Rd w w.heap.size 9 A 1 ([p].flatMap lJ)) (f:∀x∈[p],gK x∧gq w x) (hc:1≤c):Calls abm 16 #[.slice A 1 c] w (ze w 0 bY):=by
 have h:=Td A c [p] B w d e hr f hc (by show 1≤100000;decide)
 rwa [show nH (List.map Pm.v [p])=(bY,0) from (q6k (.cons (nN hs a) .nil)).trans zbb] at h
def q0k (A:Option Addr) (c:Nat) (p q:Pm) (hs:eD (kF 1) p.z) (e:p.q.map acZ=[kg 7]) (a:eD (kF 0) q.z) (d:q.q.map acZ=[kg 7]) (B:Nat) (w:World) (f:aM B w) (g:B≤w.heap.size) (hr:Rd w w.heap.size 9 A 2 ([p,q].flatMap lJ)) (h:∀x∈[p,q],gK x∧gq w x) (hc:2≤c):Calls abm 15 #[.slice A 2 c] w (Is w (.tuple #[vI 1,vI 330])):=
 Ta A c [p,q] B w f g hr h hc (by show 2≤1000000;decide) ((Sv (.cons (nN hs e) (.cons (nN a d) .nil))).trans Im)
def qsa (A:Option Addr) (c:Nat) (p q s:Pm) (hs:eD (kF 1) p.z) (g:p.q.map acZ=[kg 7]) (a:eD (kF 5) q.z) (d:q.q.map acZ=[kg 7]) (e:eD (kF 4) s.z) (f:s.q.map acZ=[kg 7]) (B:Nat) (w:World) (h:aM B w) (i:B≤w.heap.size) (hr:Rd w w.heap.size 9 A 3 ([p,q,s].flatMap lJ)) (j:∀x∈[p,q,s],gK x∧gq w x) (hc:3≤c):Calls abm 15 #[.slice A 3 c] w (Is w (.tuple #[vI 2,vI 411])):=
 Ta A c [p,q,s] B w h i hr j hc (by show 3≤1000000;decide) ((Sv (.cons (nN hs g) (.cons (nN a d) (.cons (nN e f) .nil)))).trans Io)
def q65 (A:Option Addr) (c:Nat) (B:Nat) (w:World) (a:aM B w) (b:B≤w.heap.size) (hr:Rd w w.heap.size 1 A 39 (bY.map B8)) (hc:39≤c):Calls abm 18 #[.slice A 39 c] w (DW w ([⟨1,11,26,39⟩],0)):=by
 have h:=SN A c bY B w a b (by rw [pJ];exact hr) (by rw [pJ];exact hc) (by rw [pJ];decide) rH
 rwa [pJ,Sw] at h
def q0l (A:Option Addr) (c:Nat) (B:Nat) (w:World) (a:aM B w) (b:B≤w.heap.size) (hr:Rd w w.heap.size 1 A 40 ((bY++[0]).map B8)) (hc:40≤c):Calls abm 18 #[.slice A 40 c] w (DW w ([],410)):=by
 have e:abl (bY++[0])=40:=by rw [abn,pJ];rfl
 have h:=SN A c (bY++[0]) B w a b (by rw [e];exact hr) (by rw [e];exact hc) (by rw [e];decide) zj1
 rwa [e,zhe] at h
theorem qxk (A:Option Addr) (c:Nat) (B:Nat) (w:World) (a:aM B w) (b:B≤w.heap.size) (hr:Rd w w.heap.size 1 A 39 (bY.map B8)) (hc:39≤c) {n v:Int} {e:Nat} (d:aR n) (f:iD bY n=(v,e)):Calls abm 40 #[.slice A 39 c,vI n] w (Is w (.tuple #[vI v,vI e])):=by
 have h:=qr8 A c bY B w a b (by rw [pJ];exact hr) (by rw [pJ];exact hc) (by rw [pJ];decide) rH n d
 rwa [pJ,f] at h
theorem q66 (A:Option Addr) (c:Nat) (B:Nat) (w:World) (a:aM B w) (b:B≤w.heap.size) (hr:Rd w w.heap.size 1 A 39 (bY.map B8)) (hc:39≤c):Calls abm 20 #[.slice A 39 c,vI 0] w (IU w):=by
 have h:=qr9 A c bY B w a b (by rw [pJ];exact hr) (by rw [pJ];exact hc) (by rw [pJ];decide) rH 0 (by unfold aR;decide) q6y
 rw [pJ] at h
 exact h.mono λ_ _=>zhh
def q67 (A:Option Addr) (c:Nat) (B:Nat) (w:World) (a:aM B w) (b:B≤w.heap.size) (hr:Rd w w.heap.size 1 A 39 (bY.map B8)) (hc:39≤c):Calls abm 20 #[.slice A 39 c,vI 1] w (λr d=>∃p:Pm,r= .returned (.tuple #[.agg p.cells,vI 2])∧Below w.heap.size w d):=by
 have h:=qr9 A c bY B w a b (by rw [pJ];exact hr) (by rw [pJ];exact hc) (by rw [pJ];decide) rH 1 (by unfold aR;decide) q6y
 rw [pJ] at h
 exact h.mono λ_ _=>zbh
def qu2 (B:Nat) (w:World) (I:aM B w) (s:B≤w.heap.size):
    Calls abm 13 #[] w (Is w (.bool true)):=by
 refine (JN0 Tryz.func13 172) ?_
 refine (JP∘Jp 1∘Jr∘JK (h:=by exact λm=>qu1 B _ (I.mem m s) (m.le s))) λC t NC L=>?_
 replace L:8≤t:=L
 refine (Jp 1∘Jx∘Jx∘Jp 2∘Jr∘JL (h:=by exact λm=>D5 1 (by unfold aR;decide) _)) ?_
 rintro m _ F6 ⟨D,rfl,Tp,Tq,Tt,hm⟩
 refine ⟨_,rfl,_,(show Mem w F6 (.row (.slice C 8 t) 8 (lU.map B8) 5 1::(j5 D++([]))) from m.j3 (T:=[]) 1 hm rfl),?_⟩
 refine (JU pG D.cells) λFV F=>(JK (h:=by exact λm=>q64 (some ⟨F,0,none⟩) 1 D Tp Tq B _ (I.mem m s) (m.le s) (m.aX (i:=0) (n:=1) (size:=9) rfl rfl) (zhb Tt (m.SH 2 rfl)) de)) λp o SF r=>?_
 replace r:39≤o:=r
 refine (Jp 1∘Jx∘Jx∘Jp 2∘Jq∘JC (h:=by exact λm=>(show Mem w _ [.row (.slice p 39 o) 39 (bY.map B8) 5 1,.blk F D.cells 53,.row (.slice C 8 t) 8 (lU.map B8) 5 1] from m.mV (adZ _ _)))∘JG∘JP∘Jp 1∘JK (h:=by exact λm=>q65 p o B _ (I.mem m s) (m.le s) (m.rd (i:=0) rfl) r)) λA33 J Ko aqb=>(Jp 1∘Jx∘Jx∘Jp 2∘Jr∘Jp 1∘JI (h:=by exact λm=>qxk p o B _ (I.mem m s) (m.le s) (m.rd (i:=1) rfl) r (by unfold aR;decide) IL.1)) λNA E=>(Jp 1∘Jx∘Jx∘Jp 2∘Jr∘Jp 1∘JI (h:=by exact λm=>qxk p o B _ (I.mem m s) (m.le s) (m.rd (i:=1) rfl) r (by unfold aR;decide) IL.2.1)) λXA E=>(Jp 1∘Jx∘Jx∘Jp 2∘aG∘Jr∘Jp 1∘JL (h:=by exact λm=>q66 p o B _ (I.mem m s) (m.le s) (m.rd (i:=1) rfl) r)) ?_
 rintro m _ C9 ⟨z,M,cl,hx,rfl,hxb,hm⟩
 refine ⟨_,rfl,_,m.join hm,?_⟩
 refine (Jp 1∘Jx∘Jx∘JA #[vI 0,vI 0,vQ 0,vN,vN,vN,vN,vN,vN]) λwK K=>(JV cB aT) λaqc=>(Jp 1∘Jr∘Jp 1∘JL (h:=by exact λm=>q67 p o B _ (I.mem m s) (m.le s) (m.rd (i:=3) rfl) r)) ?_
 rintro m _ Vi ⟨y,rfl,E⟩
 refine ⟨_,rfl,_,m.call E,?_⟩
 refine (Jp 1∘Jx∘Jx∘JA #[vI 0,vI 0,vQ 0,vN,vN,vN,vN,vN,vN]) λwL P=>(JV cB aT (h1:=by exact DR y)) λaqd=>(Jp 1∘aG∘Jj∘JQ∘JP∘Jv 20 [(75,.slice C 8 t),(74,.bool false)]∘Jl∘Jv 4 [(80,.slice C 8 t),(79,.bool false)]∘Jy (h:=by exact aag aV (j:=4) rfl rfl rfl om)∘Jy (h:=by exact aaB rfl rfl (λ_ h=>zhg (h.rd (i:=6) rfl) rfl))∘Jp 3) (Ju (λG=>?_) λG=>?_)
 ·
  rw [show ((jF [113,97,1,0]).toList==(abt #[113,97,1,0]).toList)=true from Uw [113,97,1,0]] at G;cases G
 refine (Jp 1∘Jl∘Jv 4 [(91,.slice p 39 o),(90,.bool false)]∘Jy (h:=by exact aag aV (j:=7) rfl rfl rfl om)∘Jy (h:=by exact aaB rfl rfl (λ_ h=>zhf (h.rd (i:=4) rfl) rfl))∘Jp 3) (Ju (λH=>?_) λH=>?_)
 ·
  rw [show ((jF [113,97,1,1,1,15,13]).toList==(abt #[113,97,1,1,1,15,13]).toList)=true from Uw [113,97,1,1,1,15,13]] at H;cases H
 refine (Jp 1∘Jl∘Jv 4 [(102,.slice A33 1 J),(101,.bool false)]) ?_
 repeat (first|clear Z|clear m)
 intro a Z m
 obtain ⟨u,rfl⟩:=m.rat 3 0 (hk:=show 0<1 from by omega)
 refine Jb Z m ((Jy (v:=vP u 0) (h:=by exact Yl.indexAddr (ad:=⟨u,0,none⟩) (y:=0) (sz:=4) rfl rfl rfl om kr)∘Jy (v:= .agg ((⟨1,11,26,39⟩:Pl).cells)) (h:=by exact Pe rfl rfl rD rfl (λ_ h=>h.CQ tq (i:=3) rfl ((show [(⟨1,11,26,39⟩:Pl)][0]?=some _ from rfl))))∘fu #[vI 1,vI 11,vI 26,vI 39]∘Jy (v:= .bool false) (h:=by exact aaN (b:=true) rfl rfl rfl IV)∘Jv 6 [(112,.bool false)]∘Jf 0∘Jg 0 O1∘Jv 3 [(118,.bool false)]∘Jg 8 O1∘Jl∘Jv 3 [(124,.bool false)]∘Jg 8 O1∘Jy (v:=vP M 0) (h:=by exact Yl.indexAddr (ad:=⟨M,0,none⟩) (y:=0) (sz:=5) rfl rfl rfl om kr)∘Jf 3∘Jy (v:=vI hx.b.next) (h:=by exact Pd rfl rfl kr (λ_ h=>h.qq NZ (i:=2) rfl (k:=0) (off:=3) (x:=hx) ((show [hx][0]?=some _ from rfl)) rfl))∘Jo (vI 7) (by rw [hxb];try rfl)∘Jv 2 [(131,.bool false)]∘aG∘Jq) λa Z m=>?_)
 replace Z:=Z.to [(131,.bool false),(11,vP K 0),(3,.slice p 39 o),(0,.bool false)]
 refine Jb Z m ((JG∘JF∘aD∘JP∘JL (h:=by exact λm=>D5 1 (by unfold aR;decide) _)) ?_)
 rintro m _ Tv ⟨e,rfl,Q,R,S,hm⟩
 refine ⟨_,rfl,_,(show Mem w Tv (.blk P y.cells 53:: .blk K #[vI 1,vI z.ak,vQ z.aj,abh z.gA z.gs z.gc,abh z.lA z.cl z.lc,abh z.uA z.cu z.uc,abh z.tA z.ts z.tc,abh z.sA z.rs z.sc,vS M 1 cl] 53:: .row (vS M 1 cl) 1 ([hx].flatMap hbL) 85 5:: .row (vS u 1 J) 1 ([(⟨1,11,26,39⟩:Pl)].flatMap jY) 57 4:: .row (.slice p 39 o) 39 (bY.map B8) 5 1:: .blk F D.cells 53:: .row (.slice C 8 t) 8 (lU.map B8) 5 1::(j5 e++([]))) from m.j3 (T:=[]) 7 hm rfl),?_⟩
 refine (JL (h:=by exact λm=>D5 0 (by unfold aR;decide) _)) ?_
 rintro m _ BO ⟨g,rfl,U,V,W,hm⟩
 refine ⟨_,rfl,_,(show Mem w BO (.blk P y.cells 53:: .blk K #[vI 1,vI z.ak,vQ z.aj,abh z.gA z.gs z.gc,abh z.lA z.cl z.lc,abh z.uA z.cu z.uc,abh z.tA z.ts z.tc,abh z.sA z.rs z.sc,vS M 1 cl] 53:: .row (vS M 1 cl) 1 ([hx].flatMap hbL) 85 5:: .row (vS u 1 J) 1 ([(⟨1,11,26,39⟩:Pl)].flatMap jY) 57 4:: .row (.slice p 39 o) 39 (bY.map B8) 5 1:: .blk F D.cells 53:: .row (.slice C 8 t) 8 (lU.map B8) 5 1::(j5 g++(j5 e++([])))) from m.j3 (T:=j5 e++([])) 7 hm rfl),?_⟩
 refine (JU pG #[vI e.z.next,vI e.z.st.ak,vQ e.z.st.aj,abh e.z.st.gA e.z.st.gs e.z.st.gc,abh e.z.st.lA e.z.st.cl e.z.st.lc,abh e.z.st.uA e.z.st.cu e.z.st.uc,abh e.z.st.tA e.z.st.ts e.z.st.tc,abh e.z.st.sA e.z.st.rs e.z.st.sc,abh e.A e.q e.c,vI g.z.next,vI g.z.st.ak,vQ g.z.st.aj,abh g.z.st.gA g.z.st.gs g.z.st.gc,abh g.z.st.lA g.z.st.cl g.z.st.lc,abh g.z.st.uA g.z.st.cu g.z.st.uc,abh g.z.st.tA g.z.st.ts g.z.st.tc,abh g.z.st.sA g.z.st.rs g.z.st.sc,abh g.A g.q g.c]) λaqe N=>(JI (h:=by exact λm=>q0k (some ⟨N,0,none⟩) 2 e g Q R U V B _ (I.mem m s) (m.le s) (m.aX (i:=0) (n:=2) (size:=9) rfl rfl) (zhc S (m.IK 8 rfl) W (m.SH 8 rfl)) de)) λaqf E=>(Jp 1∘Jx∘Jx∘Jp 2∘Jq∘JC (h:=by exact λm=>(show Mem w _ [.blk N #[vI e.z.next,vI e.z.st.ak,vQ e.z.st.aj,abh e.z.st.gA e.z.st.gs e.z.st.gc,abh e.z.st.lA e.z.st.cl e.z.st.lc,abh e.z.st.uA e.z.st.cu e.z.st.uc,abh e.z.st.tA e.z.st.ts e.z.st.tc,abh e.z.st.sA e.z.st.rs e.z.st.sc,abh e.A e.q e.c,vI g.z.next,vI g.z.st.ak,vQ g.z.st.aj,abh g.z.st.gA g.z.st.gs g.z.st.gc,abh g.z.st.lA g.z.st.cl g.z.st.lc,abh g.z.st.uA g.z.st.cu g.z.st.uc,abh g.z.st.tA g.z.st.ts g.z.st.tc,abh g.z.st.sA g.z.st.rs g.z.st.sc,abh g.A g.q g.c] 53,.blk P y.cells 53,.blk K #[vI 1,vI z.ak,vQ z.aj,abh z.gA z.gs z.gc,abh z.lA z.cl z.lc,abh z.uA z.cu z.uc,abh z.tA z.ts z.tc,abh z.sA z.rs z.sc,vS M 1 cl] 53,.row (vS M 1 cl) 1 ([hx].flatMap hbL) 85 5,.row (vS u 1 J) 1 ([(⟨1,11,26,39⟩:Pl)].flatMap jY) 57 4,.row (.slice p 39 o) 39 (bY.map B8) 5 1,.blk F D.cells 53,.row (.slice C 8 t) 8 (lU.map B8) 5 1] from m.mV (adZ _ _)))∘JC (h:=by exact λm=>m.pk [5])∘JG∘JP∘JL (h:=by exact λm=>D5 1 (by unfold aR;decide) _)) ?_
 rintro m _ Tw ⟨d,rfl,X,Y,IY,hm⟩
 refine ⟨_,rfl,_,(show Mem w Tw (.row (.slice p 39 o) 39 (bY.map B8) 5 1::(j5 d++([]))) from m.j3 (T:=[]) 1 hm rfl),?_⟩
 refine (JL (h:=by exact λm=>D5 5 (by unfold aR;decide) _)) ?_
 rintro m _ BI ⟨f,rfl,IZ,I4,I5,hm⟩
 refine ⟨_,rfl,_,(show Mem w BI (.row (.slice p 39 o) 39 (bY.map B8) 5 1::(j5 f++(j5 d++([])))) from m.j3 (T:=j5 d++([])) 1 hm rfl),?_⟩
 refine (JL (h:=by exact λm=>D5 4 (by unfold aR;decide) _)) ?_
 rintro m _ Tx ⟨l,rfl,I6,I7,I8,hm⟩
 refine ⟨_,rfl,_,(show Mem w Tx (.row (.slice p 39 o) 39 (bY.map B8) 5 1::(j5 l++(j5 f++(j5 d++([]))))) from m.j3 (T:=j5 f++(j5 d++([]))) 1 hm rfl),?_⟩
 refine (JU pG #[vI d.z.next,vI d.z.st.ak,vQ d.z.st.aj,abh d.z.st.gA d.z.st.gs d.z.st.gc,abh d.z.st.lA d.z.st.cl d.z.st.lc,abh d.z.st.uA d.z.st.cu d.z.st.uc,abh d.z.st.tA d.z.st.ts d.z.st.tc,abh d.z.st.sA d.z.st.rs d.z.st.sc,abh d.A d.q d.c,vI f.z.next,vI f.z.st.ak,vQ f.z.st.aj,abh f.z.st.gA f.z.st.gs f.z.st.gc,abh f.z.st.lA f.z.st.cl f.z.st.lc,abh f.z.st.uA f.z.st.cu f.z.st.uc,abh f.z.st.tA f.z.st.ts f.z.st.tc,abh f.z.st.sA f.z.st.rs f.z.st.sc,abh f.A f.q f.c,vI l.z.next,vI l.z.st.ak,vQ l.z.st.aj,abh l.z.st.gA l.z.st.gs l.z.st.gc,abh l.z.st.lA l.z.st.cl l.z.st.lc,abh l.z.st.uA l.z.st.cu l.z.st.uc,abh l.z.st.tA l.z.st.ts l.z.st.tc,abh l.z.st.sA l.z.st.rs l.z.st.sc,abh l.A l.q l.c]) λaqg O=>(JI (h:=by exact λm=>qsa (some ⟨O,0,none⟩) 3 d f l X Y IZ I4 I6 I7 B _ (I.mem m s) (m.le s) (m.aX (i:=0) (n:=3) (size:=9) rfl rfl) (zhd IY (m.SK 2 rfl) I5 (m.IK 2 rfl) I8 (m.SH 2 rfl)) de)) λBJ E=>(Jp 1∘Jx∘Jx∘Jp 2∘Jq∘JC (h:=by exact λm=>(show Mem w _ [.blk O #[vI d.z.next,vI d.z.st.ak,vQ d.z.st.aj,abh d.z.st.gA d.z.st.gs d.z.st.gc,abh d.z.st.lA d.z.st.cl d.z.st.lc,abh d.z.st.uA d.z.st.cu d.z.st.uc,abh d.z.st.tA d.z.st.ts d.z.st.tc,abh d.z.st.sA d.z.st.rs d.z.st.sc,abh d.A d.q d.c,vI f.z.next,vI f.z.st.ak,vQ f.z.st.aj,abh f.z.st.gA f.z.st.gs f.z.st.gc,abh f.z.st.lA f.z.st.cl f.z.st.lc,abh f.z.st.uA f.z.st.cu f.z.st.uc,abh f.z.st.tA f.z.st.ts f.z.st.tc,abh f.z.st.sA f.z.st.rs f.z.st.sc,abh f.A f.q f.c,vI l.z.next,vI l.z.st.ak,vQ l.z.st.aj,abh l.z.st.gA l.z.st.gs l.z.st.gc,abh l.z.st.lA l.z.st.cl l.z.st.lc,abh l.z.st.uA l.z.st.cu l.z.st.uc,abh l.z.st.tA l.z.st.ts l.z.st.tc,abh l.z.st.sA l.z.st.rs l.z.st.sc,abh l.A l.q l.c] 53,.row (.slice p 39 o) 39 (bY.map B8) 5 1] from m.mV (adZ _ _)))∘JC (h:=by exact λm=>m.pk [1])∘JG∘JP∘Jp 1∘JU aV #[vB 0]) λaqh aqi=>(JD ([0].map B8) 1 (λ_ _=>fU) aV (hr:=by exact λm=>m.aX (i:=0) (n:=1) (size:=1) rfl rfl) (h1:=by decide)) λaqj Tz TA hc150=>(JL (h:=by exact λm=>q0l Tz TA B _ (I.mem m s) (m.le s) (m.rd (i:=1) rfl) hc150)) ?_
 rintro m _ aqk ⟨⟨aql,aqm,rfl,_,_⟩,E⟩
 refine ⟨_,rfl,_,m.call E,?_⟩
 exact (Jp 1∘Jx∘Jx∘Jp 2∘aG∘Jr∘Jv 19 [(0,.bool true)]∘aG∘Jj∘JZ) sP
theorem Mem.yL {F:List Fact} {q:List Pm} (h:Mem W w F) (n:Nat) (a:F.drop n=gG q):∀p∈q,gq w p:=h.zkg λ_ b=>abZ (a▸b)
def q68 {bs:List Nat} (A:Option Addr) (c:Nat) (l:List Pm) (B:Nat) (w:World) (d:aM B w) (e:B≤w.heap.size) (hr:Rd w w.heap.size 9 A (abl l) (l.flatMap lJ)) (f:∀p∈l,gq w p) (hc:abl l≤c) (g:abl l≤100000) (a:vZ l L bs):Calls abm 16 #[.slice A (abl l) c] w (ze w 0 bs):=by
 have k:=Td A c l B w d e hr (λp b=>⟨a.ok p b,f p b⟩) hc g
 rw [a.wr.wr] at k
 exact k
theorem q69 {v:Int} {m:Nat} (A:Option Addr) (c:Nat) (b:List Nat) (a:Nat) (w:World) (d:aM a w) (e:a≤w.heap.size) (hr:Rd w w.heap.size 1 A (abl b) (b.map B8)) (hc:abl b≤c) (f:abl b≤100000000) (g:∀z∈b,z<256) (n:Int) (h:aR n) (i:iD b n=(v,m)):Calls abm 40 #[.slice A (abl b) c,vI n] w (Is w (.tuple #[vI v,vI m])):=by
 have k:=qr8 A c b a w d e hr hc f g n h
 rw [i] at k
 exact k
def zj2 (n:Int) (b:aR n) (w:World):Calls abm 39 #[vI n,vI 17179869184] w λr a=>(∃m:Int,r= .returned (vI m)∧aR m)∧Below w.heap.size w a:=by
 refine (Og n 17179869184 b (by unfold aR;omega) w).mono λr a ⟨h1,h2⟩=>⟨⟨_,h1,?_⟩,by rw [h2];exact Below.refl _ _⟩
 unfold eH aR
 rw [if_neg om]
 omega
def zbq {q:List Pm} {x:Pm} (a:q.getD j Pm.zero=x) (b:j<abl q) (c:∀k,i<k→k<abl q→x.z.next<(q.getD k Pm.zero).z.next):j≤i:=by
 rcases ab7 i j with h|h
 ·have h2:=c j h b;rw [a] at h2;omega
 ·exact h
def qi9 (A:Option Addr) (c:Nat) (l:List Ap) (B:Nat) (w:World) (hL:aM B w) (D:B≤w.heap.size) (hr:Rd w w.heap.size 16 A (abl l) (l.flatMap DY)) (hP:∀x∈l,kV w x) (hc:abl l≤c) (hn:abl l≤9223372036854775807) (n:Int) (hIn:aR n):
    Calls abm 10 #[.slice A (abl l) c,vI n] w (Is w (.bool true)):=by
 refine (iX Tryz.func10 150) ?_
 refine (JP∘Jp 1∘Jj∘JQ∘JP∘JI (h:=by exact λb=>qu2 B _ (hL.mem b D) (b.le D))) λw17 s=>(Jp 1∘aK∘Jj∘JF∘aD∘JP∘Jp 1∘JL (h:=by exact λb=>q0g A c l _ (b.old hr) (λx E=>(hP x E).old b) hc hn)) ?_
 rintro b _ Ga ⟨F,G,q,rfl,Q,hqc,hm⟩
 refine ⟨_,rfl,_,(show Mem w Ga (abk F q G lJ 53 9::gG q) from aaW b hm),?_⟩
 refine (Jp 1∘Jx∘Jx∘Jp 2∘Jq) ?_
 have Mj:=Q.1
 have h4:abl (l.take 4)≤4∧abl (l.take 4)≤abl l:=by rw [abr];omega
 obtain ⟨L,bs,t⟩:=zjx Q h4.2 h4.1 hP
 have hbl:=t.wr.few
 have hq4:abl q≤4:=by omega
 refine (JG∘JP∘Jp 1∘JK (h:=by exact λb=>q68 F G q B _ (hL.mem b D) (b.le D) (b.rd (i:=0) rfl) (b.yL 1 rfl) hqc om t)) λO P F6 R=>(Jp 1∘Jx∘Jx∘Jp 2∘Jj∘JQ∘JP∘Jv 6 [(34,.bool false)]∘aK∘Jj∘JF∘aD∘JQ∘JP∘Jp 2∘JL (h:=by exact λb=>zj2 n hIn _)) ?_
 rintro b _ Dc ⟨⟨m,rfl,hIm⟩,s⟩
 refine ⟨_,rfl,_,b.call s,?_⟩
 refine (JU zu #[vI n,vI m]) λNA u=>(Jl∘Jp 1∘Jq∘JC (h:=by exact λb=>(b.dY (i:=0) (n:=2) (size:=1) rfl rfl de).bR (i:=0) (ys:=[n,m].map aP) rfl (rfl))∘JG∘JB) λa Z b=>?_
 refine qg (λS aS wS=>∃(k:Nat),(k≤2)∧S=2-k∧Fr aS 150 [] [(40,vI k),(39,vI 2),(38,vS u 2 2),(34,.bool false),(7,abh O bs P),(5,abh F q G),(18,.bool false),(4,.bool false)]∧Mem w wS (.row (vS u 2 2) 2 ([n,m].map aP) 3 1:: abj O bs P B8 5 1:: abk F q G lJ 53 9::gG q)) (m:=2-0) ⟨0,abw _,rfl,Z.sub kr,b.pt 3 [0,1,2]⟩ ?_
 clear Z b;rintro S a w_ ⟨k,hk,rfl,Z,b⟩
 refine Jb Z b ((JP∘Jp 1∘Jj∘JQ) (Ji (λT=>?_) λT=>?_))
 ·
  obtain ⟨y,hy⟩:∃y,[n,m].getD k 0=y:=⟨_,rfl⟩
  have hyI:aR y:=by rw [←hy];rcases (show k=0∨k=1 by omega) with rfl|rfl<;>assumption
  obtain ⟨fi,fe,U⟩:∃fi fe,iD bs y=(fi,fe):=⟨_,_,rfl⟩
  refine (JT∘aD∘JQ∘JB∘JP∘l9 k 1∘Jy (v:=vI ([n,m].getD k 0)) (h:=by exact aae 0 k 0 (show k<[n,m].length from by show k<2;omega) rfl rfl rfl)∘Jo (vI y) (by rw [hy])∘Jp 1∘bH∘Jr∘Jp 2∘JI (h:=by exact λb=>q69 O P bs B _ (hL.mem b D) (b.le D) (b.rd (i:=1) rfl) R om t.lt y hyI U)) λZu s=>(Jp 1∘Jx∘Jx∘Jp 2∘Jq) ?_
  repeat (first|clear Z|clear b)
  intro a Z b
  rcases zdh t U with ⟨i,rfl,rfl,g,hqy,H⟩|⟨rfl,rfl,o⟩
  ·
   have aqt:=t.up 0 i (abw _) g
   refine Jb Z b ((JG∘JQ∘JP∘Jp 1∘Jl∘Jp 2) (Je (λp=>?_) λp=>?_))
   ·
    intro a Z b
    exfalso;omega
   refine (Jp 1) ?_
   repeat (first|clear Z|clear b)
   intro a Z b
   obtain ⟨d,rfl⟩:=b.rat 2 0
   refine Jb Z b ((Jy (v:=vP d 0) (h:=by exact Yl.indexAddr (ad:=⟨d,0,none⟩) (y:=0) (sz:=9) rfl rfl rfl om kr)∘Jf 0∘Jf 0∘Jy (v:=vI ((q.getD 0 Pm.zero).z.next)) (h:=by exact Pd rfl rfl kr (λ_ h=>(by have:=h.qq z8 (i:=2) rfl (k:=0) (off:=0) (x:=(q.getD 0 Pm.zero)) ((getD_at Pm.zero om)) rfl;simpa using this)))∘Jp 3∘aG∘Jj) (Ji (λr=>?_) λr=>?_))
   ·
    intro a Z b
    exfalso;omega
   refine (JF∘aD∘JP∘Jv 7 [(74,.bool (decide ((i:Int)<(0:Int))))]) (Ji (λV=>?_) λV=>?_)
   ·
    intro a Z b
    exfalso;omega
   refine (Jp 2∘Jl∘Jp 3) (Ji (λW=>?_) λW=>?_)
   ·
    intro a Z b
    exfalso;omega
   refine (Jp 2∘l9 i 9∘Jf 0∘Jf 0∘Jy (v:=vI ((q.getD i Pm.zero).z.next)) (h:=by exact Pd rfl rfl kr (λ_ h=>(by have:=h.qq z8 (i:=2) rfl (k:=i) (off:=0) (x:=(q.getD i Pm.zero)) ((getD_at Pm.zero g)) rfl;simpa using this)))∘Jp 4) (Ji (λX=>?_) λX=>?_)
   ·
    intro a Z b
    exfalso;omega
   refine (Jp 1∘bT 1∘Jp 1∘Jl∘Jp 2) (Ji (λY=>?_) λY=>?_)
   ·
    refine (Jp 2∘bT 1∘l9 (i+1) 9∘Jf 0∘Jf 0∘Jy (v:=vI ((q.getD (i+1) Pm.zero).z.next)) (h:=by exact Pd rfl rfl kr (λ_ h=>(by have:=h.qq z8 (i:=2) rfl (k:=(i+1)) (off:=0) (x:=(q.getD (i+1) Pm.zero)) ((getD_at Pm.zero om)) rfl;simpa using this)))∘Jp 4∘aG∘Jj) (Ji (λI=>?_) λI=>?_)
    ·
     have h1:=H (i+1) om om;exfalso;omega
    refine (JF∘aD∘JR∘bT 1∘Jp 1∘aK∘Jq) λa Z b=>?_
    exact ⟨_,om,k+1,by omega,rfl,Z.sub kr,b.pt 3 [0,1,2]⟩
   refine (Jv 11 [(107,.bool false)]∘aG∘Jj∘JF∘aD∘JR∘bT 1∘Jp 1∘aK∘Jq) λa Z b=>?_
   exact ⟨_,om,k+1,by omega,rfl,Z.sub kr,b.pt 3 [0,1,2]⟩
  ·
   refine Jb Z b ((JG∘JQ∘JP∘Jp 1∘Jl∘Jp 2) (Je (λp=>?_) λp=>?_))
   ·
    refine (Jv 8 [(61,.bool true)]∘gu∘Jj∘JT∘JQ∘JP∘Jv 6 [(67,.bool false)]∘Jj∘JF∘aD∘JX∘JG∘JR∘bT 1∘Jp 1∘aK∘Jq) λa Z b=>?_
    exact ⟨_,om,k+1,by omega,rfl,Z.sub kr,b.pt 3 [0,1,2]⟩
   refine (Jp 1) ?_
   repeat (first|clear Z|clear b)
   intro a Z b
   obtain ⟨d,rfl⟩:=b.rat 2 0
   refine Jb Z b ((Jy (v:=vP d 0) (h:=by exact Yl.indexAddr (ad:=⟨d,0,none⟩) (y:=0) (sz:=9) rfl rfl rfl om kr)∘Jf 0∘Jf 0∘Jy (v:=vI ((q.getD 0 Pm.zero).z.next)) (h:=by exact Pd rfl rfl kr (λ_ h=>(by have:=h.qq z8 (i:=2) rfl (k:=0) (off:=0) (x:=(q.getD 0 Pm.zero)) ((getD_at Pm.zero om)) rfl;simpa using this)))∘Jp 3∘aG∘Jj) (Ji (λr=>?_) λr=>?_))
   ·
    refine (JT∘JQ∘JP∘Jv 6 [(67,.bool false)]∘Jj∘JF∘aD∘JX∘JG∘JR∘bT 1∘Jp 1∘aK∘Jq) λa Z b=>?_
    exact ⟨_,om,k+1,by omega,rfl,Z.sub kr,b.pt 3 [0,1,2]⟩
   have h0:=o 0 om;exfalso;omega
 refine (JF∘JX∘JG∘JQ∘JP∘Jp 1∘Jl∘Jp 1∘Jj∘JB) λa Z b=>?_
 refine qg (λS aS wS=>∃(j:Nat),(j≤abl q)∧S=abl q-j∧Fr aS 150 [] [(111,vI j),(110,vI (abl q)),(109,abh F q G),(41,.bool false),(40,vI k),(39,vI 2),(38,vS u 2 2),(34,.bool false),(7,abh O bs P),(5,abh F q G),(18,.bool false),(4,.bool false)]∧Mem w wS (.row (vS u 2 2) 2 ([n,m].map aP) 3 1:: abj O bs P B8 5 1:: abk F q G lJ 53 9::gG q)) (m:=abl q-0) ⟨0,abw _,rfl,Z.sub kr,b.pt 3 [0,1,2]⟩ ?_
 clear Z b;rintro S a w_ ⟨j,hj,rfl,Z,b⟩
 refine Jb Z b ((JP∘Jp 1∘Jj∘JQ) (Ji (λJ=>?_) λJ=>?_))
 ·
  have C:j<abl q:=by omega
  obtain ⟨x,E⟩:∃x,q.getD j Pm.zero=x:=⟨_,rfl⟩
  have TB:=t.i64 j C
  rw [E] at TB
  have hxI:aR x.z.next:=by unfold aR;omega
  obtain ⟨gi,ge,hge⟩:∃gi ge,iD bs x.z.next=(gi,ge):=⟨_,_,rfl⟩
  refine (JT∘aD∘JQ∘JB∘JP∘Jp 1) ?_
  repeat (first|clear Z|clear b)
  intro a Z b
  obtain ⟨d,rfl⟩:=b.rat 2 j
  refine Jb Z b ((l9 j 9∘Jy (v:= .agg ((q.getD j Pm.zero).cells)) (h:=by exact Pe rfl rfl cB rfl (λ_ h=>h.CQ z8 (i:=2) rfl ((getD_at Pm.zero C))))∘Jo (.agg x.cells) (by rw [E])∘JA #[vI 0,vI 0,vQ 0,vN,vN,vN,vN,vN,vN]) λKR g14=>(Jp 1∘JV cB aT (h1:=by exact DR x)) λFD=>(Jr∘Jp 1∘Jf 0∘Jg 0 O0∘JI (h:=by exact λb=>q69 O P bs B _ (hL.mem b D) (b.le D) (b.rd (i:=2) rfl) R om t.lt x.z.next hxI hge)) λaqv s=>(Jp 1∘Jx∘Jx∘Jp 2∘Jq) ?_)
  repeat (first|clear Z|clear b)
  intro a Z b
  rcases zdh t hge with ⟨i,rfl,rfl,g,hqy,H⟩|⟨rfl,rfl,o⟩
  ·
   have hji:j≤i:=zbq E C H
   have TD:=t.up j i hji g
   rw [E] at TD
   refine wp_seq ?_
   refine Jb Z b ((Vs .n []) λGv=>(Vq [0,1,2,3,4,5,6,7] [(131,.bool (decide ((i:Int)<(j:Int))))]) λa Z b HS=>?_)
   rcases Z.tf 131 rfl with ⟨e,Z⟩|⟨e,Z⟩
   ·
    have K:=of_decide_eq_true e
    exfalso;omega
   have K:=of_decide_eq_false e
   refine Vb Z b HS ((Vp [8,9]∘Vl 10∘Vp [11,12,13]) λa Z b HS=>?_)
   rcases Z.tf 137 rfl with ⟨f,Z⟩|⟨f,Z⟩
   ·
    have M:=of_decide_eq_true f
    exfalso;omega
   have M:=of_decide_eq_false f
   refine Vb Z b HS ((Vp [14,15]∘Vf 20 0∘Vf 21 0∘Vy 16 (h:=by exact Yl.iw d i 9 rfl rfl rfl)∘Vf 17 0∘Vf 18 0∘Vy 19 (v:=vI ((q.getD i Pm.zero).z.next)) (h:=by exact Pd rfl rfl kr (λ_ h=>(by have:=h.qq z8 (i:=3) rfl (k:=i) (off:=0) (x:=(q.getD i Pm.zero)) ((getD_at Pm.zero g)) rfl;simpa using this)))∘Vc 22 O0∘Vp [23,24]∘Vd∘aG) (Jh (λN=>?_) λN=>?_))
   ·
    intro a Z b
    exfalso;omega
   refine (JF∘aD∘JR∘bT 1∘Jp 1∘aK∘Jq) λa Z b=>?_
   exact ⟨_,om,j+1,by omega,rfl,Z.sub kr,b.pt 4 [1,2,3]⟩
  ·
   have h1:=o j C;rw [E] at h1;exfalso;omega
 exact (JF∘JX∘JG∘JP∘Jp 1∘Jj∘JZ) sP
end Go.Proofs.YtekiimhdnigmcaaGreatDoor
