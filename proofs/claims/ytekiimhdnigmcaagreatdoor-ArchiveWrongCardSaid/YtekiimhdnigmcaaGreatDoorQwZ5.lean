/- Parts. -/
import Derived.Test.YtekiimhdnigmcaaGreatDoorQwBack
import Derived.Test.YtekiimhdnigmcaaGreatDoorQwVarRead
import Derived.Test.YtekiimhdnigmcaaGreatDoorQwZ4
set_option linter.all false
set_option maxRecDepth 100000
set_option maxHeartbeats 4000000
namespace Go.Proofs.YtekiimhdnigmcaaGreatDoor
open Go.RowKit
open List renaming length→abk
open _root_.Go.Proofs.Tryz renaming prog→abl,func20→agX
open _root_.List renaming length_append→abm,getD_eq_getElem?_getD→abn,getElem?_eq_getElem→abt,length_take→abu,length_map→abv,getElem?_eq_some_iff→aby,append_assoc→abz,length_set→abG,length_drop→abH,flatMap_cons→abL,append_nil→abN,flatMap_append→abO,map_append→abP,mem_cons→abQ,mem_of_mem_drop→abU,mem_append→abV,mem_or_eq_of_mem_set→abW,length_cons→abX,mem_cons_of_mem→ab2,take_append_drop→ab5,mem_map→acd,mem_of_mem_take→ach,drop_of_length_le→acw,getElem_of_mem→acz,mem_append_right→acA,mem_cons_self→acB,getElem?_set_self→acJ,mem_flatMap→acK,mem_append_left→acZ,mem_map_of_mem→ac8,getElem?_append_right→ac9,getElem?_map→adb,mem_singleton→adf,perm_append_comm→adh,perm_middle→adj,take_length→adn,length→adw,set_set→ad5,perm_append_comm_assoc→ad6,sublist_append_left→ad8,flatMap_nil→aeg,getElem?_append_left→aeh,cons_append→aev,sublist_append_right→afh,sublist_cons_self→afB,take_eq_take_min→afR
open Nat renaming le_refl→abo,zero_le→abx,lt_or_ge→acj,eq_zero_or_pos→acn,le_of_ble_eq_true→acE,sub_self→adN,succ_lt_succ→ae5,lt_of_succ_lt_succ→afQ,succ_pos→agW
open _root_.ByteArray renaming mk→abw
open Value renaming int→abJ
open Bool renaming eq_iff_iff→acg,true_and→acF,or_eq_true→adE,not_eq_true'→adI,not_eq_false'→ae3
open Hb renaming b→ac0
open Instr renaming sliceAt→adl
open List.Perm renaming append_left→adH
open Fact renaming row→ae9
open Classical renaming not_not→afz
open List.Sublist renaming cons₂→ag1
variable {w W:World} {l m:List Pv} {r:Ending} {k c j y x B:Nat} {A:Option Addr} {q:List Hb} {b:List Nat} {a:List Fact} {p:Pr} {n:Int} {α:Type} {L:List Pl}
def yU (W w:World) (g p:Nat) (e f:Value) (d:Option Addr) (sc:Nat) (l:List jo) (nm:ByteArray) (fs:List Fact) (m:Mem W w (.blk g #[e,vI p,f,.slice d (abk l) sc] 300:: .row (.slice d (abk l) sc) (abk l) (l.flatMap gK) 435 3::fs)) (j:abk l≤1000) {l2:List jo} (h:l++[(⟨nm,kV l,p⟩:jo)]=l2):
  Calls abl 279 #[vP g 0,.string nm] w (λr o=>r= .returned (.tuple #[])∧∃d sc,abk l2≤sc∧Mem W o (.blk g #[e,vI p,f,.slice d (abk l2) sc] 300:: .row (.slice d (abk l2) sc) (abk l2) (l2.flatMap gK) 435 3::fs)):=by
 subst h
 exact zkb W w g p e f d sc l nm fs m j
def MG (W:World) (g:Nat) (A:Option Addr) (c:Nat) (b:List Nat) (fs:List Fact) (r:Ending) (e:World):Prop:=
 (∃p f d h sc,tO b= .ok p∧r= .returned (vI 0)∧abk p.nums≤d∧abk p.secs≤sc∧Mem W e (.blk g #[.slice A (abk b) c,vI ((abk b+4:Nat):Int),.slice f (abk p.nums) d,.slice h (abk p.secs) sc] 300:: .row (.slice f (abk p.nums) d) (abk p.nums) (p.nums.map bq) 41 1:: .row (.slice h (abk p.secs) sc) (abk p.secs) (p.secs.flatMap gK) 435 3::fs))∨(∃k:Nat,tO b= .error k∧r= .returned (vI k)∧Mem W e fs)
section
variable {W w:World} {g g2 c k i n:Nat} {A:Option Addr} {b:List Nat} {fs ks:List Fact} {σ:List (Nat×Value)} {a:Act}
def rR (Z:Fr a n [{target:= .fn (.func 278) [Value.pointer (some ⟨g2,0,none⟩)].toArray,args:= #[]}] σ) (h2:σ.lookup 2=some (vP g2 0)) (d:Mem W w ks) (hi:ks[i]?=some (.blk g2 #[vI 0] fZ)) (e:tO b= .error k) (j:List Nat) (f:j.Nodup) (h:picks (ks.set i (.blk g2 #[vI k] fZ)) j=fs):
  Leaves abl Tryz.f240 a.tmps (MG W g A c b fs) a.defers (.panicking (qC fZ k)) w:=by
 refine q0e (v:=vI k) Z kr (q50 k 0 w d hi rfl) rfl λm hm=>⟨?_,.inr ⟨k,e,rfl,hm.picks j f h⟩⟩
 have l:=(aby.1 hi).1
 exact l7.cell1 (i:=i) Z hm h2 (acJ l) kr rfl
def zbi (Z:Fr a n [{target:= .fn (.func 278) [Value.pointer (some ⟨g2,0,none⟩)].toArray,args:= #[]}] σ) (h2:σ.lookup 2=some (vP g2 0)) (e:Mem W w ks) (hi:ks[i]?=some (.blk g2 #[vI 0] fZ)) (hk:∀d,Mem W d (ks.set i (.blk g2 #[vI 0] fZ))→MG W g A c b fs (.returned (vI 0)) d):
  Leaves abl Tryz.f240 a.tmps (MG W g A c b fs) a.defers .returning w:=by
 refine q5v (v:=vI 0) Z kr (q0f 0 w e hi rfl) rfl λd hm=>⟨?_,hk d hm⟩
 have f:=(aby.1 hi).1
 exact l7.cell1 (i:=i) Z hm h2 (acJ f) kr rfl
end
theorem qxm (nx cp cr gp:Nat) (gs cl cu:List Nat) (tk:Nat) (ts sp:List Nat) (e1 e2 e3 e4 e5 e6 e7:Nat):(⟨nx,cp,cr,gp,gs,cl,cu,tk,ts,sp,e1,e2,e3,e4,e5,e6,e7⟩:Pr).nums=((((((((((([]:List Nat)++[nx])++[cp])++[cr])++[gp])++gs)++cl)++cu)++[tk])++ts)++sp):=by simp [Pr.nums]
def qxn (W w : World) (g : Nat) (A : Option Addr) (c : Nat) (b : List Nat) (HW : Mem W w [.blk g #[.slice A (abk b) c, vI 0, vN, vN] 300]) (j : Rd W W.heap.size 1 A (abk b) (b.map B8)) (l : abk b ≤ c) (F : ∀ z ∈ b, z < 256) (hb : abk b ≤ 16777216) (hb3 : 3 ≤ abk b) :
    Calls abl 240 #[vP g 0] w (MG W g A c b []):=by
 refine qrw (vs:=[vP g 0]) Tryz.func240 rfl rfl kr (σ0:=[(0,vP g 0)]) rfl ?_
 intro a Z
 have d:=Mem.start w
 replace d:=(HW.nil 435 3).nil 41 1
 have hc0:abk ([]:List Nat)≤0:=abo _
 have r:tO b=tO b:=rfl
 have hq0:abk ([]:List Nat)≤3:=abx _
 refine Jb Z d ((JP∘JA #[vI 0]) λw2 g2=>(Jr∘Jy (h:=by exact Yl.makeFunc (fst:=[]) (caps:=[vP g2 0]) rfl rfl rfl)) λa Z d=>?_)
 refine fo Z 1 rfl rfl ?_
 refine zgj Z (f:=278) (caps:=[vP g2 0]) rfl rfl rfl ?_
 clear Z;intro a Z
 refine Jb Z d ((mZ∘Jr∘Jp 1∘Jn∘Jf 1∘JW qJ fO) λaor=>(oI∘Jr∘Jp 1∘JL (h:=by exact λd=>yU (l2:=[qf]) W _ g 3 _ _ none 0 ([]:List jo) _ _ (d.pk [3,2,0,1]) (acE rfl) rfl)) ?_)
 rintro d _ uz ⟨rfl,Ic,k10,hk10,e⟩
 refine ⟨_,rfl,_,e,?_⟩
 refine (mM∘Jq∘JC (h:=by exact λd=>(show Mem W _ [.blk g #[.slice A (abk b) c,vI 3,abg none ([]:List Nat) 0,.slice Ic ([qf].length) k10] 300,.row (.slice Ic ([qf].length) k10) ([qf].length) ([qf].flatMap gK) 435 3,.blk g2 #[vI 0] 27,abh none ([]:List Nat) 0 bq 41 1] from d))∘JG∘JQ) λa Z d=>?_
 rcases D5 b 3 with t|⟨nx,e1,t⟩
 ·
  refine Jb Z d ((JR∘Jp 1) λa Z d=>?_)
  refine fo Z 1 rfl rfl ?_
  exact ou Z [vP g 0] rfl (ME W _ g 3 A none c 0 b ([]:List Nat) (.slice Ic ([qf].length) k10) _ (d.pk [0,3,1,2]) j l F hb hb3 hq0 t) λw2 d=>rR Z rfl d (i:=1) rfl (r.trans (L9 t)) [] de rfl
 ·
  have r:=r.trans t.go1
  have G:=t.in hb3
  have Q:=pJ (x:=nx) hq0 G.1
  refine Jb Z d ((JR∘Jp 1∘JL (h:=by exact λd=>MC W _ g 3 A none c 0 b ([]:List Nat) (.slice Ic ([qf].length) k10) _ (d.pk [0,3,1,2]) j l F hb hb3 hq0 t)) ?_)
  rintro d _ Dz ⟨rfl,Ie,c12,aos,e⟩
  refine ⟨_,rfl,_,e,?_⟩
  refine (mM∘Jr∘Jp 1∘JL (h:=by exact λd=>yU (l2:=[qf,⟨qb 0,3,e1⟩]) W _ g e1 _ _ Ic k10 ([qf]) _ _ (d.pk [0,2,1,3]) (acE rfl) rfl)) ?_
  rintro d _ PY ⟨rfl,H,I,aot,e⟩
  refine ⟨_,rfl,_,e,?_⟩
  refine (mM∘Jq∘JC (h:=by exact λd=>(show Mem W _ [.blk g #[.slice A (abk b) c,vI e1,abg Ie (([]:List Nat)++[nx]) c12,.slice H ([qf,⟨qb 0,3,e1⟩].length) I] 300,.row (.slice H ([qf,⟨qb 0,3,e1⟩].length) I) ([qf,⟨qb 0,3,e1⟩].length) ([qf,⟨qb 0,3,e1⟩].flatMap gK) 435 3,abh Ie (([]:List Nat)++[nx]) c12 bq 41 1,.blk g2 #[vI 0] 27] from d))∘JG∘JQ) λa Z d=>?_
  rcases Mc b e1 1 64 with p|⟨cp,a1,p,J⟩|⟨cp,a1,p,J⟩
  ·
   refine Jb Z d ((JR∘Jp 1) λa Z d=>?_)
   refine fo Z 1 rfl rfl ?_
   exact ou Z [vP g 0,vQ 1,vQ 64] rfl (SX W _ g e1 A Ie c c12 b (([]:List Nat)++[nx]) (.slice H ([qf,⟨qb 0,3,e1⟩].length) I) _ 1 64 de (d.pk [0,2,1,3]) j l F hb G.2 Q p) λw2 d=>rR Z rfl d (i:=1) rfl (r.trans (Ma p)) [] de rfl
  ·
   refine Jb Z d ((JR∘Jp 1) λa Z d=>?_)
   refine fo Z 1 rfl rfl ?_
   exact ou Z [vP g 0,vQ 1,vQ 64] rfl (SV W _ g e1 A Ie c c12 b (([]:List Nat)++[nx]) (.slice H ([qf,⟨qb 0,3,e1⟩].length) I) _ 1 64 de (d.pk [0,2,1,3]) j l F hb G.2 Q p J) λw2 d=>rR Z rfl d (i:=1) rfl (r.trans (p.bad J)) [] de rfl
  ·
   have r:=r.trans (p.goC J)
   have R:=p.in G.2
   have Y:=pJ (x:=cp) Q R.1
   refine Jb Z d ((JR∘Jp 1∘JL (h:=by exact λd=>MF W _ g e1 A Ie c c12 b (([]:List Nat)++[nx]) (.slice H ([qf,⟨qb 0,3,e1⟩].length) I) _ 1 64 de (d.pk [0,2,1,3]) j l F hb G.2 Q p J)) ?_)
   rintro d _ w16 ⟨rfl,A16,c16,hc16,e⟩
   refine ⟨_,rfl,_,e,?_⟩
   refine (Jp 1∘bG∘Jj∘JQ) λa Z d=>?_
   rcases D5 b a1 with u|⟨cr,a2,u⟩
   ·
    refine Jb Z d ((JR∘Jp 1) λa Z d=>?_)
    refine fo Z 1 rfl rfl ?_
    exact ou Z [vP g 0] rfl (ME W _ g a1 A A16 c c16 b ((([]:List Nat)++[nx])++[cp]) (.slice H ([qf,⟨qb 0,3,e1⟩].length) I) _ (d.pk [0,1,2,3]) j l F hb R.2 Y u) λw2 d=>rR Z rfl d (i:=1) rfl (r.trans (L9 u)) [] de rfl
   ·
    have r:=r.trans u.go1
    have K:=u.in R.2
    have S:=pJ (x:=cr) Y K.1
    refine Jb Z d ((JR∘Jp 1∘JL (h:=by exact λd=>MC W _ g a1 A A16 c c16 b ((([]:List Nat)++[nx])++[cp]) (.slice H ([qf,⟨qb 0,3,e1⟩].length) I) _ (d.pk [0,1,2,3]) j l F hb R.2 Y u)) ?_)
    rintro d _ Dn ⟨rfl,MH,c18,hc18,e⟩
    refine ⟨_,rfl,_,e,?_⟩
    refine (mM∘Jj∘JQ) λa Z d=>?_
    rcases Mc b a2 1 256 with q|⟨gp,e2,q,L⟩|⟨gp,e2,q,L⟩
    ·
     refine Jb Z d ((JR∘Jp 1) λa Z d=>?_)
     refine fo Z 1 rfl rfl ?_
     exact ou Z [vP g 0,vQ 1,vQ 256] rfl (SX W _ g a2 A MH c c18 b (((([]:List Nat)++[nx])++[cp])++[cr]) (.slice H ([qf,⟨qb 0,3,e1⟩].length) I) _ 1 256 de (d.pk [0,1,2,3]) j l F hb K.2 S q) λw2 d=>rR Z rfl d (i:=1) rfl (r.trans (Ma q)) [] de rfl
    ·
     refine Jb Z d ((JR∘Jp 1) λa Z d=>?_)
     refine fo Z 1 rfl rfl ?_
     exact ou Z [vP g 0,vQ 1,vQ 256] rfl (SV W _ g a2 A MH c c18 b (((([]:List Nat)++[nx])++[cp])++[cr]) (.slice H ([qf,⟨qb 0,3,e1⟩].length) I) _ 1 256 de (d.pk [0,1,2,3]) j l F hb K.2 S q L) λw2 d=>rR Z rfl d (i:=1) rfl (r.trans (q.bad L)) [] de rfl
    ·
     have r:=r.trans (q.goC L)
     have T:=q.in K.2
     have wm:=pJ (x:=gp) S T.1
     refine Jb Z d ((JR∘Jp 1∘JL (h:=by exact λd=>MF W _ g a2 A MH c c18 b (((([]:List Nat)++[nx])++[cp])++[cr]) (.slice H ([qf,⟨qb 0,3,e1⟩].length) I) _ 1 256 de (d.pk [0,1,2,3]) j l F hb K.2 S q L)) ?_)
     rintro d _ PU ⟨rfl,MI,c20,Ig,e⟩
     refine ⟨_,rfl,_,e,?_⟩
     refine (Jp 1∘bG∘Jq) ?_
     have h3:3*cp*(gp-1)≤192*255:=Nat.mul_le_mul om om
     refine (JG∘JP∘Jp 1∘JL (h:=by exact λd=>yU (l2:=[qf,⟨qb 0,3,e1⟩,⟨qb 1,e1,e2⟩]) W _ g e2 _ _ H I ([qf,⟨qb 0,3,e1⟩]) _ _ (d.pk [0,2,1,3]) (acE rfl) rfl)) ?_
     rintro d _ Oi ⟨rfl,Ih,k22,aou,e⟩
     refine ⟨_,rfl,_,e,?_⟩
     refine (mM∘Jq∘JC (h:=by exact λd=>(show Mem W _ [.blk g #[.slice A (abk b) c,vI e2,.slice MI (abk ((((([]:List Nat)++[nx])++[cp])++[cr])++[gp])) c20,.slice Ih ([qf,⟨qb 0,3,e1⟩,⟨qb 1,e1,e2⟩].length) k22] 300,.row (.slice Ih ([qf,⟨qb 0,3,e1⟩,⟨qb 1,e1,e2⟩].length) k22) ([qf,⟨qb 0,3,e1⟩,⟨qb 1,e1,e2⟩].length) ([qf,⟨qb 0,3,e1⟩,⟨qb 1,e1,e2⟩].flatMap gK) 435 3,.row (.slice MI (abk ((((([]:List Nat)++[nx])++[cp])++[cr])++[gp])) c20) (abk ((((([]:List Nat)++[nx])++[cp])++[cr])++[gp])) (((((([]:List Nat)++[nx])++[cp])++[cr])++[gp]).map bq) 41 1,.blk g2 #[vI 0] 27] from d))∘JG∘JQ) λa Z d=>?_
     rcases D6 b (2*(gp-1)) e2 with v|⟨gs,e3,v⟩
     ·
      refine Jb Z d ((JR∘Jp 2∘xQ 1∘Jp 1∘Jo (vI (2*(gp-1):Nat)) (by exact q8 om om)) λa Z d=>?_)
      refine fo Z 4 rfl rfl ?_
      exact ou Z [vP g 0,vI (2*(gp-1):Nat)] rfl (Ib W _ g e2 A MI c c20 b ((((([]:List Nat)++[nx])++[cp])++[cr])++[gp]) (.slice Ih ([qf,⟨qb 0,3,e1⟩,⟨qb 1,e1,e2⟩].length) k22) _ (2*(gp-1)) om Ig (d.pk [0,2,1,3]) j l F hb T.2 wm v) λw2 d=>rR Z rfl d (i:=1) rfl (r.trans (DZ v)) [] de rfl
     ·
      have r:=r.trans v.goK
      have M:=v.in T.2
      have wo:=pK (xs:=gs) wm M.1 M.2.1
      refine Jb Z d ((JR∘Jp 2∘xQ 1∘Jp 1∘Jo (vI (2*(gp-1):Nat)) (by exact q8 om om)∘JL (h:=by exact λd=>Ia W _ g e2 A MI c c20 b ((((([]:List Nat)++[nx])++[cp])++[cr])++[gp]) (.slice Ih ([qf,⟨qb 0,3,e1⟩,⟨qb 1,e1,e2⟩].length) k22) _ (2*(gp-1)) om Ig (d.pk [0,2,1,3]) j l F hb T.2 wm v)) ?_)
      rintro d _ Gc ⟨rfl,MJ,MK,hc27,e⟩
      refine ⟨_,rfl,_,e,?_⟩
      refine (qK∘Jr∘Jp 1∘JL (h:=by exact λd=>yU (l2:=[qf,⟨qb 0,3,e1⟩,⟨qb 1,e1,e2⟩,⟨qb 2,e2,e3⟩]) W _ g e3 _ _ Ih k22 ([qf,⟨qb 0,3,e1⟩,⟨qb 1,e1,e2⟩]) _ _ (d.pk [0,2,1,3]) (acE rfl) rfl)) ?_
      rintro d _ w29 ⟨rfl,Ii,Ij,aov,e⟩
      refine ⟨_,rfl,_,e,?_⟩
      refine (mM∘Jq∘JC (h:=by exact λd=>(show Mem W _ [.blk g #[.slice A (abk b) c,vI e3,.slice MJ (abk (((((([]:List Nat)++[nx])++[cp])++[cr])++[gp])++gs)) MK,.slice Ii ([qf,⟨qb 0,3,e1⟩,⟨qb 1,e1,e2⟩,⟨qb 2,e2,e3⟩].length) Ij] 300,.row (.slice Ii ([qf,⟨qb 0,3,e1⟩,⟨qb 1,e1,e2⟩,⟨qb 2,e2,e3⟩].length) Ij) ([qf,⟨qb 0,3,e1⟩,⟨qb 1,e1,e2⟩,⟨qb 2,e2,e3⟩].length) ([qf,⟨qb 0,3,e1⟩,⟨qb 1,e1,e2⟩,⟨qb 2,e2,e3⟩].flatMap gK) 435 3,.row (.slice MJ (abk (((((([]:List Nat)++[nx])++[cp])++[cr])++[gp])++gs)) MK) (abk (((((([]:List Nat)++[nx])++[cp])++[cr])++[gp])++gs)) ((((((([]:List Nat)++[nx])++[cp])++[cr])++[gp])++gs).map bq) 41 1,.blk g2 #[vI 0] 27] from d))∘JG∘JQ) λa Z d=>?_
      rcases D6 b cp e3 with y|⟨cl,e4,y⟩
      ·
       refine Jb Z d ((JR∘Jp 2) λa Z d=>?_)
       refine fo Z 2 rfl rfl ?_
       exact ou Z [vP g 0,vI cp] rfl (Ib W _ g e3 A MJ c MK b (((((([]:List Nat)++[nx])++[cp])++[cr])++[gp])++gs) (.slice Ii ([qf,⟨qb 0,3,e1⟩,⟨qb 1,e1,e2⟩,⟨qb 2,e2,e3⟩].length) Ij) _ cp om hc27 (d.pk [0,2,1,3]) j l F hb M.2.2 wo y) λw2 d=>rR Z rfl d (i:=1) rfl (r.trans (DZ y)) [] de rfl
      ·
       have r:=r.trans y.goK
       have N:=y.in M.2.2
       have wu:=pK (xs:=cl) wo N.1 N.2.1
       refine Jb Z d ((JR∘Jp 2∘JL (h:=by exact λd=>Ia W _ g e3 A MJ c MK b (((((([]:List Nat)++[nx])++[cp])++[cr])++[gp])++gs) (.slice Ii ([qf,⟨qb 0,3,e1⟩,⟨qb 1,e1,e2⟩,⟨qb 2,e2,e3⟩].length) Ij) _ cp om hc27 (d.pk [0,2,1,3]) j l F hb M.2.2 wo y)) ?_)
       rintro d _ w32 ⟨rfl,ML,c32,hc32,e⟩
       refine ⟨_,rfl,_,e,?_⟩
       refine (oI∘Jr∘Jp 1∘JL (h:=by exact λd=>yU (l2:=[qf,⟨qb 0,3,e1⟩,⟨qb 1,e1,e2⟩,⟨qb 2,e2,e3⟩,⟨qb 3,e3,e4⟩]) W _ g e4 _ _ Ii Ij ([qf,⟨qb 0,3,e1⟩,⟨qb 1,e1,e2⟩,⟨qb 2,e2,e3⟩]) _ _ (d.pk [0,2,1,3]) (acE rfl) rfl)) ?_
       rintro d _ w34 ⟨rfl,Ik,Il,aow,e⟩
       refine ⟨_,rfl,_,e,?_⟩
       refine (mM∘Jq∘JC (h:=by exact λd=>(show Mem W _ [.blk g #[.slice A (abk b) c,vI e4,.slice ML (abk ((((((([]:List Nat)++[nx])++[cp])++[cr])++[gp])++gs)++cl)) c32,.slice Ik ([qf,⟨qb 0,3,e1⟩,⟨qb 1,e1,e2⟩,⟨qb 2,e2,e3⟩,⟨qb 3,e3,e4⟩].length) Il] 300,.row (.slice Ik ([qf,⟨qb 0,3,e1⟩,⟨qb 1,e1,e2⟩,⟨qb 2,e2,e3⟩,⟨qb 3,e3,e4⟩].length) Il) ([qf,⟨qb 0,3,e1⟩,⟨qb 1,e1,e2⟩,⟨qb 2,e2,e3⟩,⟨qb 3,e3,e4⟩].length) ([qf,⟨qb 0,3,e1⟩,⟨qb 1,e1,e2⟩,⟨qb 2,e2,e3⟩,⟨qb 3,e3,e4⟩].flatMap gK) 435 3,.row (.slice ML (abk ((((((([]:List Nat)++[nx])++[cp])++[cr])++[gp])++gs)++cl)) c32) (abk ((((((([]:List Nat)++[nx])++[cp])++[cr])++[gp])++gs)++cl)) (((((((([]:List Nat)++[nx])++[cp])++[cr])++[gp])++gs)++cl).map bq) 41 1,.blk g2 #[vI 0] 27] from d))∘JG∘JQ) λa Z d=>?_
       rcases D6 b cp e4 with B|⟨cu,e5,B⟩
       ·
        refine Jb Z d ((JR∘Jp 2) λa Z d=>?_)
        refine fo Z 2 rfl rfl ?_
        exact ou Z [vP g 0,vI cp] rfl (Ib W _ g e4 A ML c c32 b ((((((([]:List Nat)++[nx])++[cp])++[cr])++[gp])++gs)++cl) (.slice Ik ([qf,⟨qb 0,3,e1⟩,⟨qb 1,e1,e2⟩,⟨qb 2,e2,e3⟩,⟨qb 3,e3,e4⟩].length) Il) _ cp om hc32 (d.pk [0,2,1,3]) j l F hb N.2.2 wu B) λw2 d=>rR Z rfl d (i:=1) rfl (r.trans (DZ B)) [] de rfl
       ·
        have r:=r.trans B.goK
        have s:=B.in N.2.2
        have O:=pK (xs:=cu) wu s.1 s.2.1
        refine Jb Z d ((JR∘Jp 2∘JL (h:=by exact λd=>Ia W _ g e4 A ML c c32 b ((((((([]:List Nat)++[nx])++[cp])++[cr])++[gp])++gs)++cl) (.slice Ik ([qf,⟨qb 0,3,e1⟩,⟨qb 1,e1,e2⟩,⟨qb 2,e2,e3⟩,⟨qb 3,e3,e4⟩].length) Il) _ cp om hc32 (d.pk [0,2,1,3]) j l F hb N.2.2 wu B)) ?_)
        rintro d _ Dv ⟨rfl,Ed,c37,aox,e⟩
        refine ⟨_,rfl,_,e,?_⟩
        refine (oI∘Jr∘Jp 1∘JL (h:=by exact λd=>yU (l2:=[qf,⟨qb 0,3,e1⟩,⟨qb 1,e1,e2⟩,⟨qb 2,e2,e3⟩,⟨qb 3,e3,e4⟩,⟨qb 4,e4,e5⟩]) W _ g e5 _ _ Ik Il ([qf,⟨qb 0,3,e1⟩,⟨qb 1,e1,e2⟩,⟨qb 2,e2,e3⟩,⟨qb 3,e3,e4⟩]) _ _ (d.pk [0,2,1,3]) (acE rfl) rfl)) ?_
        rintro d _ LP ⟨rfl,U,V,aoy,e⟩
        refine ⟨_,rfl,_,e,?_⟩
        refine (mM∘Jq∘JC (h:=by exact λd=>(show Mem W _ [.blk g #[.slice A (abk b) c,vI e5,.slice Ed (abk (((((((([]:List Nat)++[nx])++[cp])++[cr])++[gp])++gs)++cl)++cu)) c37,.slice U ([qf,⟨qb 0,3,e1⟩,⟨qb 1,e1,e2⟩,⟨qb 2,e2,e3⟩,⟨qb 3,e3,e4⟩,⟨qb 4,e4,e5⟩].length) V] 300,.row (.slice U ([qf,⟨qb 0,3,e1⟩,⟨qb 1,e1,e2⟩,⟨qb 2,e2,e3⟩,⟨qb 3,e3,e4⟩,⟨qb 4,e4,e5⟩].length) V) ([qf,⟨qb 0,3,e1⟩,⟨qb 1,e1,e2⟩,⟨qb 2,e2,e3⟩,⟨qb 3,e3,e4⟩,⟨qb 4,e4,e5⟩].length) ([qf,⟨qb 0,3,e1⟩,⟨qb 1,e1,e2⟩,⟨qb 2,e2,e3⟩,⟨qb 3,e3,e4⟩,⟨qb 4,e4,e5⟩].flatMap gK) 435 3,.row (.slice Ed (abk (((((((([]:List Nat)++[nx])++[cp])++[cr])++[gp])++gs)++cl)++cu)) c37) (abk (((((((([]:List Nat)++[nx])++[cp])++[cr])++[gp])++gs)++cl)++cu)) ((((((((([]:List Nat)++[nx])++[cp])++[cr])++[gp])++gs)++cl)++cu).map bq) 41 1,.blk g2 #[vI 0] 27] from d))∘JG∘JQ) λa Z d=>?_
        rcases Mc b e5 0 65535 with o|⟨tk,a3,o,C⟩|⟨tk,a3,o,C⟩
        ·
         refine Jb Z d ((JR∘Jp 2) λa Z d=>?_)
         refine fo Z 2 rfl rfl ?_
         exact ou Z [vP g 0,vQ 0,vQ 65535] rfl (SX W _ g e5 A Ed c c37 b (((((((([]:List Nat)++[nx])++[cp])++[cr])++[gp])++gs)++cl)++cu) (.slice U ([qf,⟨qb 0,3,e1⟩,⟨qb 1,e1,e2⟩,⟨qb 2,e2,e3⟩,⟨qb 3,e3,e4⟩,⟨qb 4,e4,e5⟩].length) V) _ 0 65535 de (d.pk [0,2,1,3]) j l F hb s.2.2 O o) λw2 d=>rR Z rfl d (i:=1) rfl (r.trans (Ma o)) [] de rfl
        ·
         refine Jb Z d ((JR∘Jp 2) λa Z d=>?_)
         refine fo Z 2 rfl rfl ?_
         exact ou Z [vP g 0,vQ 0,vQ 65535] rfl (SV W _ g e5 A Ed c c37 b (((((((([]:List Nat)++[nx])++[cp])++[cr])++[gp])++gs)++cl)++cu) (.slice U ([qf,⟨qb 0,3,e1⟩,⟨qb 1,e1,e2⟩,⟨qb 2,e2,e3⟩,⟨qb 3,e3,e4⟩,⟨qb 4,e4,e5⟩].length) V) _ 0 65535 de (d.pk [0,2,1,3]) j l F hb s.2.2 O o C) λw2 d=>rR Z rfl d (i:=1) rfl (r.trans (o.bad C)) [] de rfl
        ·
         have r:=r.trans (o.goC C)
         have X:=o.in s.2.2
         have wz:=pJ (x:=tk) O X.1
         rcases D6 b (8*tk) a3 with D|⟨ts,e6,D⟩
         ·
          refine Jb Z d ((JR∘Jp 2∘JL (h:=by exact λd=>MF W _ g e5 A Ed c c37 b (((((((([]:List Nat)++[nx])++[cp])++[cr])++[gp])++gs)++cl)++cu) (.slice U ([qf,⟨qb 0,3,e1⟩,⟨qb 1,e1,e2⟩,⟨qb 2,e2,e3⟩,⟨qb 3,e3,e4⟩,⟨qb 4,e4,e5⟩].length) V) _ 0 65535 de (d.pk [0,2,1,3]) j l F hb s.2.2 O o C)) ?_)
          rintro d _ w42 ⟨rfl,S9,Ta,CO,e⟩
          refine ⟨_,rfl,_,e,?_⟩
          refine (Jp 1∘Jo (vI (8*tk:Nat)) (by exact q8 om om)) λa Z d=>?_
          refine fo Z 4 rfl rfl ?_
          exact ou Z [vP g 0,vI (8*tk:Nat)] rfl (Ib W _ g a3 A S9 c Ta b ((((((((([]:List Nat)++[nx])++[cp])++[cr])++[gp])++gs)++cl)++cu)++[tk]) (.slice U ([qf,⟨qb 0,3,e1⟩,⟨qb 1,e1,e2⟩,⟨qb 2,e2,e3⟩,⟨qb 3,e3,e4⟩,⟨qb 4,e4,e5⟩].length) V) _ (8*tk) om CO (d.pk [0,1,2,3]) j l F hb X.2 wz D) λw2 d=>rR Z rfl d (i:=1) rfl (r.trans (DZ D)) [] de rfl
         ·
          have r:=r.trans D.goK
          have P:=D.in X.2
          have wB:=pK (xs:=ts) wz P.1 P.2.1
          refine Jb Z d ((JR∘Jp 2∘JL (h:=by exact λd=>MF W _ g e5 A Ed c c37 b (((((((([]:List Nat)++[nx])++[cp])++[cr])++[gp])++gs)++cl)++cu) (.slice U ([qf,⟨qb 0,3,e1⟩,⟨qb 1,e1,e2⟩,⟨qb 2,e2,e3⟩,⟨qb 3,e3,e4⟩,⟨qb 4,e4,e5⟩].length) V) _ 0 65535 de (d.pk [0,2,1,3]) j l F hb s.2.2 O o C)) ?_)
          rintro d _ w42 ⟨rfl,S9,Ta,CO,e⟩
          refine ⟨_,rfl,_,e,?_⟩
          refine (Jp 1∘Jo (vI (8*tk:Nat)) (by exact q8 om om)∘JL (h:=by exact λd=>Ia W _ g a3 A S9 c Ta b ((((((((([]:List Nat)++[nx])++[cp])++[cr])++[gp])++gs)++cl)++cu)++[tk]) (.slice U ([qf,⟨qb 0,3,e1⟩,⟨qb 1,e1,e2⟩,⟨qb 2,e2,e3⟩,⟨qb 3,e3,e4⟩,⟨qb 4,e4,e5⟩].length) V) _ (8*tk) om CO (d.pk [0,1,2,3]) j l F hb X.2 wz D)) ?_
          rintro d _ Ox ⟨rfl,Im,Io,CP,e⟩
          refine ⟨_,rfl,_,e,?_⟩
          refine (qK∘Jr∘Jp 1∘JL (h:=by exact λd=>yU (l2:=[qf,⟨qb 0,3,e1⟩,⟨qb 1,e1,e2⟩,⟨qb 2,e2,e3⟩,⟨qb 3,e3,e4⟩,⟨qb 4,e4,e5⟩,⟨qb 5,e5,e6⟩]) W _ g e6 _ _ U V ([qf,⟨qb 0,3,e1⟩,⟨qb 1,e1,e2⟩,⟨qb 2,e2,e3⟩,⟨qb 3,e3,e4⟩,⟨qb 4,e4,e5⟩]) _ _ (d.pk [0,2,1,3]) (acE rfl) rfl)) ?_
          rintro d _ EY ⟨rfl,Ip,Iq,aoA,e⟩
          refine ⟨_,rfl,_,e,?_⟩
          refine (mM∘Jq∘JC (h:=by exact λd=>(show Mem W _ [.blk g #[.slice A (abk b) c,vI e6,.slice Im (abk (((((((((([]:List Nat)++[nx])++[cp])++[cr])++[gp])++gs)++cl)++cu)++[tk])++ts)) Io,.slice Ip ([qf,⟨qb 0,3,e1⟩,⟨qb 1,e1,e2⟩,⟨qb 2,e2,e3⟩,⟨qb 3,e3,e4⟩,⟨qb 4,e4,e5⟩,⟨qb 5,e5,e6⟩].length) Iq] 300,.row (.slice Ip ([qf,⟨qb 0,3,e1⟩,⟨qb 1,e1,e2⟩,⟨qb 2,e2,e3⟩,⟨qb 3,e3,e4⟩,⟨qb 4,e4,e5⟩,⟨qb 5,e5,e6⟩].length) Iq) ([qf,⟨qb 0,3,e1⟩,⟨qb 1,e1,e2⟩,⟨qb 2,e2,e3⟩,⟨qb 3,e3,e4⟩,⟨qb 4,e4,e5⟩,⟨qb 5,e5,e6⟩].length) ([qf,⟨qb 0,3,e1⟩,⟨qb 1,e1,e2⟩,⟨qb 2,e2,e3⟩,⟨qb 3,e3,e4⟩,⟨qb 4,e4,e5⟩,⟨qb 5,e5,e6⟩].flatMap gK) 435 3,.row (.slice Im (abk (((((((((([]:List Nat)++[nx])++[cp])++[cr])++[gp])++gs)++cl)++cu)++[tk])++ts)) Io) (abk (((((((((([]:List Nat)++[nx])++[cp])++[cr])++[gp])++gs)++cl)++cu)++[tk])++ts)) ((((((((((([]:List Nat)++[nx])++[cp])++[cr])++[gp])++gs)++cl)++cu)++[tk])++ts).map bq) 41 1,.blk g2 #[vI 0] 27] from d))∘JG∘JQ) λa Z d=>?_
          rcases D6 b (cp+3*cp*(gp-1)) e6 with E|⟨sp,e7,E⟩
          ·
           refine Jb Z d ((JR∘Jp 4∘Jo (vI (3*cp:Nat)) (by exact q8 om om)∘Jp 1∘xQ 1∘Jp 1∘Jo (vI (3*cp*(gp-1):Nat)) (by exact qrz (m:=3*cp) (n:=gp-1) (by have:=h3;omega))∘Ja) λa Z d=>?_)
           refine fo Z 8 rfl rfl ?_
           exact ou Z [vP g 0,vI (cp+(3*cp*(gp-1)):Nat)] rfl (Ib W _ g e6 A Im c Io b (((((((((([]:List Nat)++[nx])++[cp])++[cr])++[gp])++gs)++cl)++cu)++[tk])++ts) (.slice Ip ([qf,⟨qb 0,3,e1⟩,⟨qb 1,e1,e2⟩,⟨qb 2,e2,e3⟩,⟨qb 3,e3,e4⟩,⟨qb 4,e4,e5⟩,⟨qb 5,e5,e6⟩].length) Iq) _ (cp+(3*cp*(gp-1))) om CP (d.pk [0,2,1,3]) j l F hb P.2.2 wB E) λw2 d=>rR Z rfl d (i:=1) rfl (r.trans (DZ E)) [] de rfl
          ·
           have r:=r.trans E.goK
           have Aw:=E.in P.2.2
           have abp:=pK (xs:=sp) wB Aw.1 Aw.2.1
           refine Jb Z d ((JR∘Jp 4∘Jo (vI (3*cp:Nat)) (by exact q8 om om)∘Jp 1∘xQ 1∘Jp 1∘Jo (vI (3*cp*(gp-1):Nat)) (by exact qrz (m:=3*cp) (n:=gp-1) (by have:=h3;omega))∘Ja∘JL (h:=by exact λd=>Ia W _ g e6 A Im c Io b (((((((((([]:List Nat)++[nx])++[cp])++[cr])++[gp])++gs)++cl)++cu)++[tk])++ts) (.slice Ip ([qf,⟨qb 0,3,e1⟩,⟨qb 1,e1,e2⟩,⟨qb 2,e2,e3⟩,⟨qb 3,e3,e4⟩,⟨qb 4,e4,e5⟩,⟨qb 5,e5,e6⟩].length) Iq) _ (cp+(3*cp*(gp-1))) om CP (d.pk [0,2,1,3]) j l F hb P.2.2 wB E)) ?_)
           rintro d _ w55 ⟨rfl,CQ,CS,Ir,e⟩
           refine ⟨_,rfl,_,e,?_⟩
           refine (iA∘Jr∘Jp 1∘JL (h:=by exact λd=>yU (l2:=[qf,⟨qb 0,3,e1⟩,⟨qb 1,e1,e2⟩,⟨qb 2,e2,e3⟩,⟨qb 3,e3,e4⟩,⟨qb 4,e4,e5⟩,⟨qb 5,e5,e6⟩,⟨qb 6,e6,e7⟩]) W _ g e7 _ _ Ip Iq ([qf,⟨qb 0,3,e1⟩,⟨qb 1,e1,e2⟩,⟨qb 2,e2,e3⟩,⟨qb 3,e3,e4⟩,⟨qb 4,e4,e5⟩,⟨qb 5,e5,e6⟩]) _ _ (d.pk [0,2,1,3]) (acE rfl) rfl)) ?_
           rintro d _ w57 ⟨rfl,Iu,Iw,aoC,e⟩
           refine ⟨_,rfl,_,e,?_⟩
           refine (qK∘Jq∘JC (h:=by exact λd=>(show Mem W _ [.blk g #[.slice A (abk b) c,vI e7,.slice CQ (abk ((((((((((([]:List Nat)++[nx])++[cp])++[cr])++[gp])++gs)++cl)++cu)++[tk])++ts)++sp)) CS,.slice Iu ([qf,⟨qb 0,3,e1⟩,⟨qb 1,e1,e2⟩,⟨qb 2,e2,e3⟩,⟨qb 3,e3,e4⟩,⟨qb 4,e4,e5⟩,⟨qb 5,e5,e6⟩,⟨qb 6,e6,e7⟩].length) Iw] 300,.row (.slice Iu ([qf,⟨qb 0,3,e1⟩,⟨qb 1,e1,e2⟩,⟨qb 2,e2,e3⟩,⟨qb 3,e3,e4⟩,⟨qb 4,e4,e5⟩,⟨qb 5,e5,e6⟩,⟨qb 6,e6,e7⟩].length) Iw) ([qf,⟨qb 0,3,e1⟩,⟨qb 1,e1,e2⟩,⟨qb 2,e2,e3⟩,⟨qb 3,e3,e4⟩,⟨qb 4,e4,e5⟩,⟨qb 5,e5,e6⟩,⟨qb 6,e6,e7⟩].length) ([qf,⟨qb 0,3,e1⟩,⟨qb 1,e1,e2⟩,⟨qb 2,e2,e3⟩,⟨qb 3,e3,e4⟩,⟨qb 4,e4,e5⟩,⟨qb 5,e5,e6⟩,⟨qb 6,e6,e7⟩].flatMap gK) 435 3,.row (.slice CQ (abk ((((((((((([]:List Nat)++[nx])++[cp])++[cr])++[gp])++gs)++cl)++cu)++[tk])++ts)++sp)) CS) (abk ((((((((((([]:List Nat)++[nx])++[cp])++[cr])++[gp])++gs)++cl)++cu)++[tk])++ts)++sp)) (((((((((((([]:List Nat)++[nx])++[cp])++[cr])++[gp])++gs)++cl)++cu)++[tk])++ts)++sp).map bq) 41 1,.blk g2 #[vI 0] 27] from d))∘JG∘JQ) λa Z d=>?_
           refine wp_seq ?_
           refine zgi ?_
           refine EF d [.blk g #[abg A b c,vI e7,.slice CQ (abk ((((((((((([]:List Nat)++[nx])++[cp])++[cr])++[gp])++gs)++cl)++cu)++[tk])++ts)++sp)) CS,.slice Iu ([qf,⟨qb 0,3,e1⟩,⟨qb 1,e1,e2⟩,⟨qb 2,e2,e3⟩,⟨qb 3,e3,e4⟩,⟨qb 4,e4,e5⟩,⟨qb 5,e5,e6⟩,⟨qb 6,e6,e7⟩].length) Iw] 300,.row (.slice Iu ([qf,⟨qb 0,3,e1⟩,⟨qb 1,e1,e2⟩,⟨qb 2,e2,e3⟩,⟨qb 3,e3,e4⟩,⟨qb 4,e4,e5⟩,⟨qb 5,e5,e6⟩,⟨qb 6,e6,e7⟩].length) Iw) ([qf,⟨qb 0,3,e1⟩,⟨qb 1,e1,e2⟩,⟨qb 2,e2,e3⟩,⟨qb 3,e3,e4⟩,⟨qb 4,e4,e5⟩,⟨qb 5,e5,e6⟩,⟨qb 6,e6,e7⟩].length) ([qf,⟨qb 0,3,e1⟩,⟨qb 1,e1,e2⟩,⟨qb 2,e2,e3⟩,⟨qb 3,e3,e4⟩,⟨qb 4,e4,e5⟩,⟨qb 5,e5,e6⟩,⟨qb 6,e6,e7⟩].flatMap gK) 435 3,.row (.slice CQ (abk ((((((((((([]:List Nat)++[nx])++[cp])++[cr])++[gp])++gs)++cl)++cu)++[tk])++ts)++sp)) CS) (abk ((((((((((([]:List Nat)++[nx])++[cp])++[cr])++[gp])++gs)++cl)++cu)++[tk])++ts)++sp)) (((((((((((([]:List Nat)++[nx])++[cp])++[cr])++[gp])++gs)++cl)++cu)++[tk])++ts)++sp).map bq) 41 1,.blk g2 #[vI 0] 27] [0,1,2,3] [] λd HS=>?_
           refine ap Z (λ_=>HS) [0,4] (bf 10 [0,4]) [(62,vP g 0),(58,vP g 0)] λa Z=>?_
           refine nV Z HS 1 λa Z=>?_
           refine ap Z (λ_=>HS) [2] (bf 10 [0,1,2,4]) [(60,vP g 1)] λa Z=>?_
           refine dR Z HS 3 0 λa Z=>?_
           refine nV Z HS 5 λa Z=>?_
           refine ap Z (λ_=>HS) [6] (bt 10 [7,8,9]) [(64,vP g 0)] λa Z=>?_
           refine dR Z HS 7 0 λa Z=>?_
           refine xM Z HS 8 λa Z=>?_
           refine ap Z (λ_=>HS) [9] (bt 10 []) [(67,.bool ((e7:Int) !=(abk b:Int)))] λa Z=>?_
           refine qd kr ?_
           refine Jb Z d (Jh (λBZ=>?_) λBZ=>?_)
           ·
            have hne:e7≠abk b:=by omega
            refine (JT∘JR) λa Z d=>?_
            refine fo Z 0 rfl rfl ?_
            exact ou Z [vI 346] rfl (Md 346 _ d) λw2 d=>rR Z rfl d (i:=3) rfl (r.trans (if_pos hne)) [] de rfl
           obtain rfl:e7=abk b:=by omega
           have r:=r.trans (if_neg (λh=>h rfl))
           obtain ⟨qn,MN⟩:∃qn,((((((((((([]:List Nat)++[nx])++[cp])++[cr])++[gp])++gs)++cl)++cu)++[tk])++ts)++sp)=qn:=⟨_,rfl⟩
           intro a Z d
           rw [MN] at d Ir
           refine Jb Z d ((JF∘aD∘JP∘Jp 1∘Jn∘Jg 1 O0∘cK 4∘Jn∘Jf 1∘JW aU fO) λabq=>(iA∘Jr∘Jp 1∘JL (h:=by exact λd=>yU (l2:=[qf,⟨qb 0,3,e1⟩,⟨qb 1,e1,e2⟩,⟨qb 2,e2,e3⟩,⟨qb 3,e3,e4⟩,⟨qb 4,e4,e5⟩,⟨qb 5,e5,e6⟩,⟨qb 6,e6,abk b⟩,⟨⟨#[115,117,109]⟩,abk b,abk b+4⟩]) W _ g (abk b+4:Nat) _ _ Iu Iw ([qf,⟨qb 0,3,e1⟩,⟨qb 1,e1,e2⟩,⟨qb 2,e2,e3⟩,⟨qb 3,e3,e4⟩,⟨qb 4,e4,e5⟩,⟨qb 5,e5,e6⟩,⟨qb 6,e6,abk b⟩]) _ _ (d.pk [0,1,2,3]) (acE rfl) rfl)) ?_)
           rintro d _ QW ⟨rfl,Tc,Td,Te,e⟩
           refine ⟨_,rfl,_,e,?_⟩
           refine (mM∘Jq∘JC (h:=by exact λd=>(show Mem W _ [.blk g #[.slice A (abk b) c,vI (abk b+4:Nat),abg CQ qn CS,.slice Tc ([qf,⟨qb 0,3,e1⟩,⟨qb 1,e1,e2⟩,⟨qb 2,e2,e3⟩,⟨qb 3,e3,e4⟩,⟨qb 4,e4,e5⟩,⟨qb 5,e5,e6⟩,⟨qb 6,e6,abk b⟩,⟨⟨#[115,117,109]⟩,abk b,abk b+4⟩].length) Td] 300,.row (.slice Tc ([qf,⟨qb 0,3,e1⟩,⟨qb 1,e1,e2⟩,⟨qb 2,e2,e3⟩,⟨qb 3,e3,e4⟩,⟨qb 4,e4,e5⟩,⟨qb 5,e5,e6⟩,⟨qb 6,e6,abk b⟩,⟨⟨#[115,117,109]⟩,abk b,abk b+4⟩].length) Td) ([qf,⟨qb 0,3,e1⟩,⟨qb 1,e1,e2⟩,⟨qb 2,e2,e3⟩,⟨qb 3,e3,e4⟩,⟨qb 4,e4,e5⟩,⟨qb 5,e5,e6⟩,⟨qb 6,e6,abk b⟩,⟨⟨#[115,117,109]⟩,abk b,abk b+4⟩].length) ([qf,⟨qb 0,3,e1⟩,⟨qb 1,e1,e2⟩,⟨qb 2,e2,e3⟩,⟨qb 3,e3,e4⟩,⟨qb 4,e4,e5⟩,⟨qb 5,e5,e6⟩,⟨qb 6,e6,abk b⟩,⟨⟨#[115,117,109]⟩,abk b,abk b+4⟩].flatMap gK) 435 3,abh CQ qn CS bq 41 1,.blk g2 #[vI 0] 27] from d))∘JG∘JP∘JW qJ aU) λabr=>(aF∘Jj∘JZ) λa Z d=>?_
           exact zbi Z rfl d (i:=3) rfl λw3 d=> .inl ⟨(⟨nx,cp,cr,gp,gs,cl,cu,tk,ts,sp,e1,e2,e3,e4,e5,e6,abk b⟩:Pr),CQ,CS,Tc,Td,r,rfl,by subst MN;rw [qxm];exact Ir,Te,by subst MN;rw [qxm];exact d.pk [0,2,1]⟩
def zg3 (W w:World) (g:Nat) (A:Option Addr) (c:Nat) (b:List Nat) (m:Mem W w [.blk g #[.slice A (abk b) c,vI 0,vN,vN] 300]) (f:Rd W W.heap.size 1 A (abk b) (b.map B8)) (i:abk b≤c) (n:∀z∈b,z<256) (hb:abk b≤16777216) (j:3≤abk b) {p:Pr} (h:tO b= .ok p):Calls abl 240 #[vP g 0] w (λr l=>r= .returned (vI 0)∧∃d a e sc,abk p.nums≤a∧abk p.secs≤sc∧Mem W l [.blk g #[.slice A (abk b) c,vI ((abk b+4:Nat):Int),.slice d (abk p.nums) a,.slice e (abk p.secs) sc] 300,.row (.slice d (abk p.nums) a) (abk p.nums) (p.nums.map bq) 41 1,.row (.slice e (abk p.secs) sc) (abk p.secs) (p.secs.flatMap gK) 435 3]):=
 (qxn W w g A c b m f i n hb j).mono λr l h1 => by
  rcases h1 with ⟨o,d,a,e,sc,h2,h3,h4,h5,h6⟩|⟨k,h2,_⟩
  ·obtain rfl:o=p:=by rw [h] at h2;injection h2 with h2;exact h2.symm
   exact ⟨h3,d,a,e,sc,h4,h5,h6⟩
  ·rw [h] at h2;cases h2
def zg4 (W w:World) (g:Nat) (A:Option Addr) (c:Nat) (b:List Nat) (i:Mem W w [.blk g #[.slice A (abk b) c,vI 0,vN,vN] 300]) (a:Rd W W.heap.size 1 A (abk b) (b.map B8)) (d:abk b≤c) (j:∀z∈b,z<256) (hb:abk b≤16777216) (e:3≤abk b) {k:Nat} (h:tO b= .error k):Calls abl 240 #[vP g 0] w (λr f=>r= .returned (vI k)∧Mem W f []):=
 (qxn W w g A c b i a d j hb e).mono λr f h1 => by
  rcases h1 with ⟨m,n,o,p,sc,h2,_⟩|⟨l,h2,h3,h4⟩
  ·rw [h] at h2;cases h2
  ·obtain rfl:l=k:=by rw [h] at h2;injection h2 with h2;exact h2.symm
   exact ⟨h3,h4⟩
def Ay (w:World) (l:List Nat) (r:Ending) (b:World):Prop:=(∃p,fC l= .ok p∧∃g e f c a d sc,r= .returned (.tuple #[vP g 0,vI 0])∧abk p.nums≤a∧abk p.secs≤sc∧Mem w b [.blk g #[e,f,.slice c (abk p.nums) a,.slice d (abk p.secs) sc] 300,.row (.slice c (abk p.nums) a) (abk p.nums) (p.nums.map bq) 41 1,.row (.slice d (abk p.secs) sc) (abk p.secs) (p.secs.flatMap gK) 435 3])∨(∃k:Nat,fC l= .error k∧Is w (.tuple #[.pointer none,vI k]) r b)
def CU {l:List Nat} (n:Int) (h:fC l= .error k) (hk:n=k) (hr:r= .returned (.tuple #[.pointer none,vI n])) (hb:Below w.heap.size w W):Ay w l r W:= .inr ⟨k,h,by rw [hr,hk],hb⟩
def qxo (A:Option Addr) (c:Nat) (l:List Nat) (B:Nat) (w:World) (K:aM B w) (I:B≤w.heap.size) (hr:Rd w w.heap.size 1 A (abk l) (l.map B8)) (hc:abk l≤c) (S:abk l≤100000000) (J:∀z∈l,z<256):
    Calls abl 169 #[.slice A (abk l) c] w (Ay w l):=by
 refine (dY Tryz.func169 47) ?_
 refine (JP∘Jp 2∘Jj∘JQ∘JB∘JP∘Jp 1∘Jl∘Jp 2∘dU∘Jj) (Ji (λD=>?_) λD=>?_)
 ·
  exact (JT∘JP∘Jp 2∘Jj∘JZ∘bH) λd=>CU _ (q5z om) rfl rfl d.below
 refine (JF∘JP∘Jp 1∘Jl∘Jp 2∘dU∘Jj) (Ji (λn=>?_) λn=>?_)
 ·
  exact (JT∘JP∘Jp 2∘Jj∘JZ∘bH) λd=>CU _ (za1 om om) rfl rfl d.below
 refine (JF∘JP∘Jp 1∘JI (h:=by exact λd=>Ou A (abk l) c l B _ (K.mem d I) (d.le I) (d.old hr) hc rfl om J)) λL M=>(Jp 2∘dU∘Jj) (Ju (λg=>?_) λg=>?_)
 ·
  have e:zn l=false:=by simpa using g
  exact (JT∘JP∘Jp 2∘Jj∘JZ∘bH) λd=>CU _ (zgm om om e) rfl rfl d.below
 have e:zn l=true:=by simpa using g
 refine (JF∘JP∘Jp 1) ?_
 obtain ⟨gA,f,rfl,_⟩:=hr.sat 0
 refine (Jy (v:=vP gA f) (h:=by exact Yl.indexAddr (ad:=⟨gA,f,none⟩) (y:=0) (sz:=1) rfl rfl rfl om kr)∘Jy (h:=by exact aad hr 0 0 (by first|omega|(simp;omega)) rfl rfl)∘Jp 2) (Jh (λo=>?_) λo=>?_)
 ·
  exact (Jp 6∘aF∘Jj∘JT∘JP∘Jp 2∘Jj∘JZ∘bH) λd=>CU _ (qr0 om om e om) rfl rfl d.below
 refine (Jp 1∘Jy (v:=vP gA (f+1)) (h:=by exact Yl.indexAddr (ad:=⟨gA,f,none⟩) (y:=1) (sz:=1) rfl rfl rfl om kr)∘Jy (h:=by exact aad hr 1 0 (by first|omega|(simp;omega)) rfl rfl)∘Jp 3∘aF∘Jj) (Jh (λq=>?_) λq=>?_)
 ·
  exact (JT∘JP∘Jp 2∘Jj∘JZ∘bH) λd=>CU _ (qr0 om om e om) rfl rfl d.below
 refine (JF∘JP∘Jp 1∘Jy (v:=vP gA (f+2)) (h:=by exact Yl.indexAddr (ad:=⟨gA,f,none⟩) (y:=2) (sz:=1) rfl rfl rfl om kr)∘Jy (h:=by exact aad hr 2 0 (by first|omega|(simp;omega)) rfl rfl)∘Jp 2∘gG∘Jj) (Jh (λr=>?_) λr=>?_)
 ·
  exact (JT∘JP∘Jp 2∘Jj∘JZ∘bH) λd=>CU _ (qum om om e om om) rfl rfl d.below
 refine (JF∘aD∘JQ) ?_
 obtain ⟨b,i⟩:∃b,l.take (abk l-4)=b:=⟨_,rfl⟩
 have s:abk b=abk l-4:=by rw [←i,abu];omega
 have t:Rd w w.heap.size 1 (some ⟨gA,f,none⟩) (abk b) (b.map B8):=by rw [s,←i];exact hr.A8 om
 have u:∀z∈b,z<256:=λz hz=>J z (ach (i▸hz))
 have m:=zgn om om e om om
 rw [i] at m
 intro a Z d
 skip
 ·
  refine Jb Z d ((JR∘Jp 2∘Jl∘xQ 4∘Jy (v:= .slice (some ⟨gA,f,none⟩) (abk l-4) c) (h:=by exact aaf aX (j:=abk l-4) rfl rfl rfl om)∘Jo (.slice (some ⟨gA,f,none⟩) (abk b) c) (by rw [s])∘eH #[abg (some ⟨gA,f,none⟩) b c,vI 0,vN,vN]∘JE) λN x=>(Jp 1∘aF∘Jj∘JQ∘JQ) λa Z d=>?_)
  rcases hpr:tO b with k|p
  ·
   have O:=q5y hpr
   refine Jb Z d ((JR∘Jp 1∘JO (h:=by exact λd=>zg4 w _ x (some ⟨gA,f,none⟩) c b (d.pk [0]) t om u om om hpr)) λE=>(Jp 1∘bG∘Jr∘Jp 2∘aK∘Jj) (Jh (λC=>?_) λC=>?_))
   ·
    exact (JT∘JP∘Jp 3∘Jj∘JZ∘bH) λd=>CU _ (m.trans hpr) rfl rfl d.below
   intro a Z d
   exfalso;omega
  ·
   refine Jb Z d ((JR∘Jp 1∘JL (h:=by exact λd=>zg3 w _ x (some ⟨gA,f,none⟩) c b (d.pk [0]) t om u om om hpr)) ?_)
   rintro d _ E ⟨rfl,P,Q,R,sc,F,G,H⟩
   refine ⟨_,rfl,_,H,?_⟩
   exact (Jp 1∘bG∘Jr∘Jv 2 [(44,.bool false)]∘Jj∘JF∘aD∘JP∘Jp 3∘Jj∘JZ∘bH) λd=>by exact .inl ⟨p,m.trans hpr,_,_,_,P,Q,R,sc,rfl,F,G,d⟩
def zg5 (A:Option Addr) (c:Nat) (l:List Nat) (B:Nat) (w:World) (f:aM B w) (i:B≤w.heap.size) (hr:Rd w w.heap.size 1 A (abk l) (l.map B8)) (hc:abk l≤c) (j:abk l≤100000000) (m:∀z∈l,z<256) {p:Pr} (h:fC l= .ok p):Calls abl 169 #[.slice A (abk l) c] w (λr b=>∃g n o d a e sc,r= .returned (.tuple #[vP g 0,vI 0])∧abk p.nums≤a∧abk p.secs≤sc∧Mem w b [.blk g #[n,o,.slice d (abk p.nums) a,.slice e (abk p.secs) sc] 300,.row (.slice d (abk p.nums) a) (abk p.nums) (p.nums.map bq) 41 1,.row (.slice e (abk p.secs) sc) (abk p.secs) (p.secs.flatMap gK) 435 3]):=
 (qxo A c l B w f i hr hc j m).mono λr b h1 => by
  rcases h1 with ⟨q,h2,h3⟩|⟨k,h2,_⟩
  ·obtain rfl:q=p:=by rw [h] at h2;injection h2 with h2;exact h2.symm
   exact h3
  ·rw [h] at h2;cases h2
def zg6 (A:Option Addr) (c:Nat) (l:List Nat) (B:Nat) (w:World) (a:aM B w) (b:B≤w.heap.size) (hr:Rd w w.heap.size 1 A (abk l) (l.map B8)) (hc:abk l≤c) (d:abk l≤100000000) (e:∀z∈l,z<256) {k:Nat} (h:fC l= .error k):Calls abl 169 #[.slice A (abk l) c] w (Is w (.tuple #[.pointer none,vI k])):=
 (qxo A c l B w a b hr hc d e).mono λr g h1 => by
  rcases h1 with ⟨i,h2,_⟩|⟨f,h2,h3⟩
  ·rw [h] at h2;cases h2
  ·obtain rfl:f=k:=by rw [h] at h2;injection h2 with h2;exact h2.symm
   exact h3
def Hw (W:World) (g k:Nat) (b:Option Addr) (a:Nat) (q:List Nat) (o:Bool) (fs:List Fact) (v:Value) (r:Ending) (c:World):Prop:=r= .returned v∧Mem W c (.blk g #[.slice (dD b a k) (abk q-k) (a-k),.bool o] 302:: .row (.slice b (abk q) a) (abk q) (q.map bq) 41 1::fs)
def qnk {g:Nat} {q:List Nat} {o b:Bool} {fs:List Fact} {v:Value} (hr:r= .returned v) (a:b=o) (d:Mem W w (.blk g #[.slice (dD A c k) (abk q-k) (c-k),.bool b] 302:: .row (.slice A (abk q) c) (abk q) (q.map bq) 41 1::fs)):Hw W g k A c q o fs v r w:=by subst a;exact ⟨hr,d⟩
theorem zbb (x m:Nat):decide ((x:Int)≤(m:Int))=dle x m:=decide_eq_decide.2 Int.ofNat_le
def qxg (m:Nat) (W w:World) (g k:Nat) (f:Option Addr) (b:Nat) (q:List Nat) (o:Bool) (fs:List Fact) (s:Mem W w (.blk g #[.slice (dD f b k) (abk q-k) (b-k),.bool o] 302:: abh f q b bq 41 1::fs)) (l:abk q≤b) (hk:k<abk q):
    Calls abl 242 #[vP g 0,vQ m] w (Hw W g (k+1) f b q (o&&dle (q.getD k 0) m) fs (vQ (q.getD k 0:Int))):=by
 refine (iX Tryz.func242 33) ?_
 intro a Z d
 replace d:=s
 obtain ⟨n,oS,p,_⟩:=Rd.NH (RS (d.rd (i:=1) rfl) l k om) om de
 refine Jb Z d ((JP∘Jp 1∘Jr∘Jp 1∘Jn∘Jf 0∘Jc O0∘Jo (.slice (some ⟨n,oS,none⟩) (abk q-k) (b-k)) (by rw [p];try rfl)∘Jy (v:=vP n oS) (h:=by exact Yl.indexAddr (ad:=⟨n,oS,none⟩) (y:=0) (sz:=1) rfl rfl rfl om kr)∘Jy (v:=vQ (q.getD k 0)) (h:=by exact Pd rfl rfl kr (λ_ h=>zjt (h.rd (i:=1) rfl) l hk p))∘Jp 1∘aF∘Jr∘Jp 2∘Jn∘Jg 0 O0∘Jy (v:= .slice (if b-k=1 then dD f b k else (dD f b k:Option Addr).map (·.add (1*1))) ((abk q-k)-1) ((b-k)-1)) (h:=by exact aag kP (j:=1) rfl rfl rfl om)∘Jo (.slice (dD f b (k+1)) (abk q- (k+1)) (b- (k+1))) (by exact rfl)∘Jn∘Jf 0∘JW aU aU) λr=>(iA∘Jr∘Jp 2∘Jn∘Jg 1 O0∘Jp 1) (Ju (λc=>?_) λc=>?_))
 ·
  exact (Jp 4∘Jn∘Jf 1∘JW aU fO) λe=>(iA∘Jr∘Jp 2∘aF∘Jj∘JZ∘aZ) λd=>qnk rfl (by rw [c,acF];exact zbb _ _) d
 exact (Jp 4∘Jn∘Jf 1∘JW aU fO) λe=>(iA∘Jr∘Jp 2∘aF∘Jj∘JZ∘aZ) λd=>qnk rfl (by rw [c];rfl) d
def yR (m:Nat) (W w:World) (g k:Nat) (b:Option Addr) (a:Nat) (q:List Nat) (o:Bool) (fs:List Fact) (d:Mem W w (.blk g #[.slice (dD b a k) (abk q-k) (a-k),.bool o] 302:: .row (.slice b (abk q) a) (abk q) (q.map bq) 41 1::fs)) (c:abk q≤a) (hk:k<abk q) {x k2:Nat} {o2:Bool} (e:q.getD k 0=x) (h2:k+1=k2) (f:(o&&dle x m)=o2):Calls abl 242 #[vP g 0,vQ m] w (Hw W g k2 b a q o2 fs (vQ x)):=by
 subst e;subst h2;subst f
 exact qxg m W w g k b a q o fs d c hk
def q6i (W w:World) (g k:Nat) (b:Option Addr) (a:Nat) (q:List Nat) (o:Bool) (fs:List Fact) (e:Mem W w (.blk g #[.slice (dD b a k) (abk q-k) (a-k),.bool o] 302:: abh b q a bq 41 1::fs)) (d:abk q≤a) (hk:k<abk q):
    Calls abl 241 #[vP g 0] w (Hw W g (k+1) b a q (o&&dle (q.getD k 0) aA) fs (vI (bE (q.getD k 0)))):=by
 refine (dY Tryz.func241 6) ?_
 exact (JC (h:=by exact λc=>e)∘JP∘Jp 1∘Jr∘Jp 1∘JO (h:=by exact λc=>qxg aA W _ g k b a q o fs c d hk)) λf=>(Jv 1 [(5,vI (IntKind.i64.wrap (q.getD k 0:Int)))]∘Jo (vI (bE (q.getD k 0))) (by exact rfl)∘Jp 1∘dU∘Jj∘JZ∘aZ) λc=>by exact ⟨rfl,c⟩
theorem tV (W w:World) (g k:Nat) (b:Option Addr) (a:Nat) (q:List Nat) (o:Bool) (fs:List Fact) (d:Mem W w (.blk g #[.slice (dD b a k) (abk q-k) (a-k),.bool o] 302:: .row (.slice b (abk q) a) (abk q) (q.map bq) 41 1::fs)) (c:abk q≤a) (hk:k<abk q) {x k2:Nat} {o2:Bool} {v:Int} (e:q.getD k 0=x) (h2:k+1=k2) (f:(o&&dle x aA)=o2) (h:bE x=v):Calls abl 241 #[vP g 0] w (Hw W g k2 b a q o2 fs (vI v)):=by
 subst e;subst h2;subst f;subst h
 exact q6i W w g k b a q o fs d c hk
def aaW {f r1 a b c d:Fact} {fs rs:List Fact} (h:Mem W w (f::r1::a::b::c::d::(fs++rs))):Mem W w (f::(fs++([r1,a,b,c,d]++rs))):=h.perm ((ad6 [r1,a,b,c,d] fs rs).cons f)
def zg1 (x:Nat):((x:Int)==(1:Int))=decide (x=1):=by
 rw [acg,beq_iff_eq,decide_eq_true_eq]
 omega
theorem zbc (h:0<j):p.oL (j+1)=((p.oL j&&dle (p.gs.getD (2*(j-1)) 0) aA)&&dle (p.gs.getD (2*(j-1)+1) 0) aA):=if_neg om
theorem q6k (h:j=0):p.oL (j+1)=p.oL j:=by subst h;rfl
theorem Hy (h:y=0):p.so y (x+1)=p.so y x+1:=by subst h;rw [yM,yM]
theorem Hz (h:0<y):p.so y (x+1)=p.so y x+3:=by rw [sS h,sS h];omega
theorem HV {b:Bool} (h:y=0):p.lI b y (x+1)=(p.lI b y x&&dle (p.sn y x 0) 18446744073709551615):=if_pos h
theorem HY {b:Bool} (h:0<y):p.lI b y (x+1)=(((p.lI b y x&&dle (p.sn y x 0) 18446744073709551615)&&dle (p.sn y x 1) 4294967295)&&dle (p.sn y x 2) 18446744073709551615):=if_neg om
def zbd (W:World) (g:Nat) (p:Pr) (fs:List Fact) (r:Ending) (a:World):Prop:=∃(z:cO) (A:Option Addr) (n c:Nat),r= .returned (.agg z.cells)∧eU p.qD z∧fq z.st∧Mem W a (.blk g #[.slice A n c,.bool p.okB] 302::(fs++iU z.st))
def q0h (W w:World) (g:Nat) (e:Option Addr) (d:Nat) (p:Pr) (h:p.Fit) (fs:List Fact) (HW:Mem W w (.blk g #[abg e p.nums d,.bool true] 302:: abh e p.nums d bq 41 1::fs)) (o:abk p.nums≤d):
    Calls abl 170 #[vP g 0] w (zbd W g p fs):=by
 obtain ⟨hnl,hsl⟩:=za5 h
 have n0:=za4 p
 have eC:p.oC=4+2*(p.gp-1):=rfl
 have eT:p.oT=p.oC+2*p.cp:=rfl
 have eS:p.oS=p.oT+1+8*p.tk:=rfl
 have c1:=h.cp1;have c2:=h.cp2;have c3:=h.gp1;have c4:=h.G9;have c5:=h.tk
 refine (dY Tryz.func170 191) ?_
 refine (JC (h:=by exact λb=>HW)∘JP∘JA #[vI 0,vI 0,vQ 0,vN,vN,vN,vN,vN]) λw2 O=>(Jr∘Jp 1∘JO (h:=by exact λb=>tV W _ g 0 e d p.nums true _ (b.pt 3 [1,2,0]) o om (x:=p.nx) (k2:=1) (o2:=true&&dle p.nx aA) (n0.1) (rfl) (rfl) (rfl))) λuJ=>(eH #[vI (bE p.nx),vI 0,vQ 0,vN,vN,vN,vN,vN]∘JA #[vI 0,vI 0,vQ 0,vN,vN,vN,vN,vN]) λw3 F=>(JV zp aU) λPW=>(dU∘Jr∘Jf 1∘Jp 1∘aK∘Jr∘Jp 3∘JO (h:=by exact λb=>tV W _ g 1 e d p.nums (true&&dle p.nx aA) _ (b.pt 4 [1,2,0,3]) o om (x:=p.cp) (k2:=2) (o2:=(true&&dle p.nx aA)&&dle p.cp aA) (n0.2.1) (rfl) (rfl) (RU om))) λQS=>(Jp 1∘JO (h:=by exact λb=>yR 18446744073709551615 W _ g 2 e d p.nums ((true&&dle p.nx aA)&&dle p.cp aA) _ (b.pt 4 [0,1,2,3]) o om (x:=p.cr) (k2:=3) (o2:=((true&&dle p.nx aA)&&dle p.cp aA)&&dle p.cr 18446744073709551615) (n0.2.2.1) (rfl) (rfl))) λQF=>(Jn∘Jf 0∘Jf 0∘JW iO fO) λanI=>(Jn∘Jf 0∘Jf 1∘JW iO iO) λaa5=>(iA∘Jj∘JQ∘JP∘Jp 1∘JO (h:=by exact λb=>tV W _ g 3 e d p.nums (((true&&dle p.nx aA)&&dle p.cp aA)&&dle p.cr 18446744073709551615) _ (b.pt 4 [0,1,2,3]) o om (x:=p.gp) (k2:=4+2*(0-1)) (o2:=p.oL 0) (n0.2.2.2) (rfl) (rfl) (RU om))) λw29=>(Jp 1∘Jq∘JC (h:=by exact λb=>b.nil 198 2)∘JG∘JB) λa Z b=>?_
 refine qg (λV aS wS=>∃(j:Nat) (G:List Gr) (B:Option Addr) (r:Nat),(j≤p.gp)∧(G=bQ j p.iq)∧(abk G=j)∧(abk G≤r)∧V=p.gp-j∧Fr aS 191 [] [(30,vI j),(29,vI p.gp),(4,vP F 1),(3,vP F 0),(2,vP O 0),(0,vP g 0)]∧Mem W wS (abj B G r eZ 198 2:: .blk g #[.slice (dD e d (4+2*(j-1))) (abk p.nums- (4+2*(j-1))) (d- (4+2*(j-1))),.bool (p.oL j)] 302:: abh e p.nums d bq 41 1:: .blk F #[vI (bE p.nx),vI p.cp,vQ p.cr,abg B G r,vN,vN,vN,vN] 50:: .blk O #[vI 0,vI 0,vQ 0,vN,vN,vN,vN,vN] 50::fs)) (m:=p.gp-0) ⟨0,[],none,0,abx _,rfl,rfl,abo _,rfl,Z.sub kr,b.pt 5 [0,1,2,3,4]⟩ ?_
 clear Z b;rintro V a w_ ⟨j,G,B,r,hj,hG,hGl,hGc,rfl,Z,b⟩
 refine Jb Z b ((JP∘Jp 1∘Jj∘JQ) (Ji (λhd31=>?_) λhd31=>?_))
 ·
  refine (JT∘aD∘JQ∘JB∘JP∘Jp 2∘aK∘Jr∘eH #[vI 0,vI 1]∘JA #[vI 0,vI 0]) λw6 g6=>(JV lC aU) λOV=>(aK∘Jj∘JQ∘JP∘Jp 2∘aK∘Jj) (Ji (λSl=>?_) λSl=>?_)
  ·
   have hgr:p.iq j=⟨bE (p.gs.getD (2*(j-1)) 0),bE (p.gs.getD (2*(j-1)+1) 0)⟩:=if_neg om
   refine (JT∘JR∘Jp 1∘JO (h:=by exact λb=>tV W _ g (4+2*(j-1)) e d p.nums (p.oL j) _ (b.pt 6 [2,3,0,1,4,5]) o om (x:=p.gs.getD (2*(j-1)) 0) (k2:=4+(2*(j-1)+1)) (o2:=p.oL j&&dle (p.gs.getD (2*(j-1)) 0) aA) (q51 h (j:=2*(j-1)) om) (rfl) (rfl) (rfl))) λDv=>(Jp 1∘JO (h:=by exact λb=>tV W _ g (4+(2*(j-1)+1)) e d p.nums (p.oL j&&dle (p.gs.getD (2*(j-1)) 0) aA) _ (b.pt 6 [0,1,2,3,4,5]) o om (x:=p.gs.getD (2*(j-1)+1) 0) (k2:=4+2*(j+1-1)) (o2:=(p.oL j&&dle (p.gs.getD (2*(j-1)) 0) aA)&&dle (p.gs.getD (2*(j-1)+1) 0) aA) (q51 h (j:=2*(j-1)+1) om) om (rfl) (rfl))) λLP=>(Jf 0∘JW iO aU) λSn=>(Jf 1∘JW iO fO) λanL=>(iA∘Jq∘JC (h:=by exact λb=>(show Mem W _ (.blk g #[.slice (dD e d (4+2*(j+1-1))) (abk p.nums- (4+2*(j+1-1))) (d- (4+2*(j+1-1))),.bool ((p.oL j&&dle (p.gs.getD (2*(j-1)) 0) aA)&&dle (p.gs.getD (2*(j-1)+1) 0) aA)] 302:: abh e p.nums d bq 41 1:: .blk g6 #[vI (bE (p.gs.getD (2*(j-1)) 0)),vI (bE (p.gs.getD (2*(j-1)+1) 0))] 198:: abj B G r eZ 198 2:: .blk F #[vI (bE p.nx),vI p.cp,vQ p.cr,abg B G r,vN,vN,vN,vN] 50:: .blk O #[vI 0,vI 0,vQ 0,vN,vN,vN,vN,vN] 50::fs) from b))∘JG∘Vs (.t (.t (.t (.f .n)))) [12]) λqO=>(Vp [0,1]∘Vn 2∘Vf 3 0∘Vf 4 2∘Vc 5 O3∘qL 6 lC O2) λa Z b I=>?_
   refine s_on Z 7 rfl (iW Z b iQ [(0,.agg #[vI (bE (p.gs.getD (2*(j-1)) 0)),vI (bE (p.gs.getD (2*(j-1)+1) 0))])] #[vI (bE (p.gs.getD (2*(j-1)) 0)),vI (bE (p.gs.getD (2*(j-1)+1) 0))] ?_)
   clear Z b;intro a BO g49 Z b
   refine ay (b.pt 7 [1,2,3,5,6]) (λI=>?_)
   refine s_on Z 8 rfl (qF Z b (i:=4) rfl iQ rfl rfl rfl (news:=([(⟨bE (p.gs.getD (2*(j-1)) 0),bE (p.gs.getD (2*(j-1)+1) 0)⟩:Gr)].flatMap eZ)) (b.aW (i:=0) (n:=1) (size:=2) rfl rfl) (F8 _) om om rfl de ?_)
   clear Z b;intro a WK Cz CB Z b X
   refine ay (b.pt 7 [1,2,3,5,6]) (λI=>?_)
   refine Vb Z b I ((Vn 9∘Vf 10 0∘Vf 11 2) λa Z b I=>?_)
   refine s_on Z 12 rfl (fJ Z b 5 λCF b=>?_)
   refine dM kr ?_
   refine qd kr ?_
   have s:abk G+1=abk (G++[p.iq j]):=nC rfl
   rw [s] at X
   replace b:=b.aT (i:=4) (ys:=(G++[p.iq j]).flatMap eZ) rfl s (by rw [hgr];exact List.flatMap_append.symm)
   replace Z:=Z.sp 50 (abg Cz (G++[p.iq j]) CB) rfl (gF s)
   replace b:=b.dO (i:=5) (ds:= #[vI (bE p.nx),vI p.cp,vQ p.cr,abg Cz (G++[p.iq j]) CB,vN,vN,vN,vN]) rfl (by rw [s];try rfl)
   refine Jb Z b ((JG∘JR∘cK 1∘Jp 1∘aK∘Jq) λa Z b=>?_)
   replace b:=b.dO (i:=1) (ds:= #[.slice (dD e d (4+2*(j+1-1))) (abk p.nums- (4+2*(j+1-1))) (d- (4+2*(j+1-1))),.bool (p.oL (j+1))]) rfl (by rw [zbc om])
   exact ⟨_,om,j+1,(G++[p.iq j]),Cz,CB,by omega,by rw [hG,yK],by rw [abm,hGl];rfl,X,rfl,Z.sub kr,b.pt 7 [4,1,2,5,6]⟩
  have hgr:p.iq j=⟨0,1⟩:=if_pos om
  refine (JF∘aD∘Vs (.t (.f .n)) [12]) λqO=>(Vp [0,1]∘Vn 2∘Vf 3 0∘Vf 4 2∘Vc 5 O3∘qL 6 lC O0) λa Z b I=>?_
  refine s_on Z 7 rfl (iW Z b iQ [(0,.agg #[vI 0,vI 1])] #[vI 0,vI 1] ?_)
  clear Z b;intro a BO g49 Z b
  refine ay (b.pt 7 [1,3,4,5,6]) (λI=>?_)
  refine s_on Z 8 rfl (qF Z b (i:=2) rfl iQ rfl rfl rfl (news:=([(⟨0,1⟩:Gr)].flatMap eZ)) (b.aW (i:=0) (n:=1) (size:=2) rfl rfl) (F8 _) om om rfl de ?_)
  clear Z b;intro a WK Cz CB Z b X
  refine ay (b.pt 7 [1,3,4,5,6]) (λI=>?_)
  refine Vb Z b I ((Vn 9∘Vf 10 0∘Vf 11 2) λa Z b I=>?_)
  refine s_on Z 12 rfl (fJ Z b 5 λCF b=>?_)
  refine dM kr ?_
  refine qd kr ?_
  have s:abk G+1=abk (G++[p.iq j]):=nC rfl
  rw [s] at X
  replace b:=b.aT (i:=2) (ys:=(G++[p.iq j]).flatMap eZ) rfl s (by rw [hgr];exact List.flatMap_append.symm)
  replace Z:=Z.sp 50 (abg Cz (G++[p.iq j]) CB) rfl (gF s)
  replace b:=b.dO (i:=5) (ds:= #[vI (bE p.nx),vI p.cp,vQ p.cr,abg Cz (G++[p.iq j]) CB,vN,vN,vN,vN]) rfl (by rw [s];try rfl)
  refine Jb Z b ((JG∘JR∘cK 1∘Jp 1∘aK∘Jq) λa Z b=>?_)
  replace b:=b.dO (i:=3) (ds:= #[.slice (dD e d (4+2*(j+1-1))) (abk p.nums- (4+2*(j+1-1))) (d- (4+2*(j+1-1))),.bool (p.oL (j+1))]) rfl (by rw [q6k om,show 4+2*(j+1-1)=4+2*(j-1) by omega])
  exact ⟨_,om,j+1,(G++[p.iq j]),Cz,CB,by omega,by rw [hG,yK],by rw [abm,hGl];rfl,X,rfl,Z.sub kr,b.pt 7 [2,3,4,5,6]⟩
 refine (JF∘JX∘JG∘JQ∘JP∘Jp 1∘Jn∘Jf 0∘Jg 0 O3∘Jp 1∘Jq∘JC (h:=by exact λb=>b.nil 3 1)∘JC (h:=by exact λb=>b.dO (i:=2) (ds:= #[.slice (dD e d (p.oC+0)) (abk p.nums- (p.oC+0)) (d- (p.oC+0)),.bool (p.yL 0)]) rfl (by rw [show j=p.gp by omega];rfl))∘JG∘JB) λa Z b=>?_
 refine qg (λV aS wS=>∃(k:Nat) (C:List Int) (D:Option Addr) (cl:Nat),(k≤p.cp)∧(C=bQ k λi=>bE (p.cl.getD i 0))∧(abk C=k)∧(abk C≤cl)∧V=p.cp-k∧Fr aS 191 [] [(60,vI k),(59,vI p.cp),(31,.bool false),(30,vI j),(29,vI p.gp),(4,vP F 1),(3,vP F 0),(2,vP O 0),(0,vP g 0)]∧Mem W wS (abh D C cl aP 3 1:: abj B G r eZ 198 2:: .blk g #[.slice (dD e d (p.oC+k)) (abk p.nums- (p.oC+k)) (d- (p.oC+k)),.bool (p.yL k)] 302:: abh e p.nums d bq 41 1:: .blk F #[vI (bE p.nx),vI p.cp,vQ p.cr,abg B G r,abg D C cl,vN,vN,vN] 50:: .blk O #[vI 0,vI 0,vQ 0,vN,vN,vN,vN,vN] 50::fs)) (m:=p.cp-0) ⟨0,[],none,0,abx _,rfl,rfl,abo _,rfl,Z.sub kr,b.pt 6 [0,1,2,3,4,5]⟩ ?_
 clear Z b;rintro V a w_ ⟨k,C,D,cl,hk,hC,hCl,hCc,rfl,Z,b⟩
 refine Jb Z b ((JP∘Jp 1∘Jj∘JQ) (Ji (λBL=>?_) λBL=>?_))
 ·
  refine (JT∘aD∘JQ∘JB∘Vs (.f (.t (.f .n))) [11]) λBR=>(Vp [0,1,5]∘Vn 2∘Vf 3 3∘Vc 4 O2) λa Z b I=>?_
  refine s_on Z 6 rfl ?_
  refine ES Z [vP g 0] (tV W _ g (p.oC+k) e d p.nums (p.yL k) _ (b.pt 6 [2,3,0,1,4,5]) o om (x:=p.cl.getD k 0) (k2:=p.oC+(k+1)) (o2:=p.yL (k+1)) (zgp h om) (rfl) (rfl) (rfl)) λLK b a Z=>?_
  refine ay (b.pt 6 [3,1,4,5]) (λI=>?_)
  refine s_on Z 7 rfl (iW Z b zy [(0,vI (bE (p.cl.getD k 0)))] #[vI (bE (p.cl.getD k 0))] ?_)
  clear Z b;intro a w69 g69 Z b
  refine ay (b.pt 7 [4,2,5,6]) (λI=>?_)
  refine s_on Z 8 rfl (qF Z b (i:=3) rfl zy rfl rfl rfl (news:=([bE (p.cl.getD k 0)].map aP)) (b.aW (i:=0) (n:=1) (size:=1) rfl rfl) (Qa _) om om rfl de ?_)
  clear Z b;intro a w70 Sq c70 Z b HZ
  refine ay (b.pt 7 [4,2,5,6]) (λI=>?_)
  refine Vb Z b I ((Vn 9∘Vf 10 3) λa Z b I=>?_)
  refine s_on Z 11 rfl (fJ Z b 5 λSr b=>?_)
  refine dM kr ?_
  refine qd kr ?_
  have P:abk C+1=abk (C++[bE (p.cl.getD k 0)]):=nC rfl
  rw [P] at HZ
  replace b:=b.aT (i:=3) (ys:=(C++[bE (p.cl.getD k 0)]).map aP) rfl P (by exact List.map_append.symm)
  replace Z:=Z.sp 70 (abg Sq (C++[bE (p.cl.getD k 0)]) c70) rfl (gF P)
  replace b:=b.dO (i:=5) (ds:= #[vI (bE p.nx),vI p.cp,vQ p.cr,abg B G r,abg Sq (C++[bE (p.cl.getD k 0)]) c70,vN,vN,vN]) rfl (by rw [P];try rfl)
  refine Jb Z b ((JG∘JR∘cK 1∘Jp 1∘aK∘Jq) λa Z b=>?_)
  exact ⟨_,om,k+1,(C++[bE (p.cl.getD k 0)]),Sq,c70,by omega,by rw [hC,yK],by rw [abm,hCl];rfl,HZ,rfl,Z.sub kr,b.pt 7 [3,4,1,2,5,6]⟩
 refine (JF∘JX∘JG∘JQ∘JP∘Jp 1∘Jn∘Jf 0∘Jg 0 O4∘Jp 1∘Jq∘JC (h:=by exact λb=>b.nil 3 1)∘JC (h:=by exact λb=>b.dO (i:=3) (ds:= #[.slice (dD e d (p.oC+p.cp+0)) (abk p.nums- (p.oC+p.cp+0)) (d- (p.oC+p.cp+0)),.bool (p.vJ 0)]) rfl (by rw [show k=p.cp by omega];rfl))∘JG∘JB) λa Z b=>?_
 refine qg (λV aS wS=>∃(u:Nat) (U:List Int) (E:Option Addr) (cu:Nat),(u≤p.cp)∧(U=bQ u λi=>bE (p.cu.getD i 0))∧(abk U=u)∧(abk U≤cu)∧V=p.cp-u∧Fr aS 191 [] [(79,vI u),(78,vI p.cp),(61,.bool false),(60,vI k),(59,vI p.cp),(31,.bool false),(30,vI j),(29,vI p.gp),(4,vP F 1),(3,vP F 0),(2,vP O 0),(0,vP g 0)]∧Mem W wS (abh E U cu aP 3 1:: abh D C cl aP 3 1:: abj B G r eZ 198 2:: .blk g #[.slice (dD e d (p.oC+p.cp+u)) (abk p.nums- (p.oC+p.cp+u)) (d- (p.oC+p.cp+u)),.bool (p.vJ u)] 302:: abh e p.nums d bq 41 1:: .blk F #[vI (bE p.nx),vI p.cp,vQ p.cr,abg B G r,abg D C cl,abg E U cu,vN,vN] 50:: .blk O #[vI 0,vI 0,vQ 0,vN,vN,vN,vN,vN] 50::fs)) (m:=p.cp-0) ⟨0,[],none,0,abx _,rfl,rfl,abo _,rfl,Z.sub kr,b.pt 7 [0,1,2,3,4,5,6]⟩ ?_
 clear Z b;rintro V a w_ ⟨u,U,E,cu,hu,hU,hUl,hUc,rfl,Z,b⟩
 refine Jb Z b ((JP∘Jp 1∘Jj∘JQ) (Ji (λSv=>?_) λSv=>?_))
 ·
  refine (JT∘aD∘JQ∘JB∘Vs (.f (.t (.t (.f .n)))) [11]) λQO=>(Vp [0,1,5]∘Vn 2∘Vf 3 4∘Vc 4 O3) λa Z b I=>?_
  refine s_on Z 6 rfl ?_
  refine ES Z [vP g 0] (tV W _ g (p.oC+p.cp+u) e d p.nums (p.vJ u) _ (b.pt 7 [3,4,0,1,2,5,6]) o om (x:=p.cu.getD u 0) (k2:=p.oC+p.cp+(u+1)) (o2:=p.vJ (u+1)) (zgq h om) (rfl) (rfl) (rfl)) λLU b a Z=>?_
  refine ay (b.pt 7 [3,4,1,5,6]) (λI=>?_)
  refine s_on Z 7 rfl (iW Z b zy [(0,vI (bE (p.cu.getD u 0)))] #[vI (bE (p.cu.getD u 0))] ?_)
  clear Z b;intro a w88 Sw Z b
  refine ay (b.pt 8 [4,5,2,6,7]) (λI=>?_)
  refine s_on Z 8 rfl (qF Z b (i:=3) rfl zy rfl rfl rfl (news:=([bE (p.cu.getD u 0)].map aP)) (b.aW (i:=0) (n:=1) (size:=1) rfl rfl) (Qa _) om om rfl de ?_)
  clear Z b;intro a QL Mw Mx Z b CG
  refine ay (b.pt 8 [4,5,2,6,7]) (λI=>?_)
  refine Vb Z b I ((Vn 9∘Vf 10 4) λa Z b I=>?_)
  refine s_on Z 11 rfl (fJ Z b 6 λSy b=>?_)
  refine dM kr ?_
  refine qd kr ?_
  have Q:abk U+1=abk (U++[bE (p.cu.getD u 0)]):=nC rfl
  rw [Q] at CG
  replace b:=b.aT (i:=3) (ys:=(U++[bE (p.cu.getD u 0)]).map aP) rfl Q (by exact List.map_append.symm)
  replace Z:=Z.sp 89 (abg Mw (U++[bE (p.cu.getD u 0)]) Mx) rfl (gF Q)
  replace b:=b.dO (i:=6) (ds:= #[vI (bE p.nx),vI p.cp,vQ p.cr,abg B G r,abg D C cl,abg Mw (U++[bE (p.cu.getD u 0)]) Mx,vN,vN]) rfl (by rw [Q];try rfl)
  refine Jb Z b ((JG∘JR∘cK 1∘Jp 1∘aK∘Jq) λa Z b=>?_)
  exact ⟨_,om,u+1,(U++[bE (p.cu.getD u 0)]),Mw,Mx,by omega,by rw [hU,yK],by rw [abm,hUl];rfl,CG,rfl,Z.sub kr,b.pt 8 [3,4,5,1,2,6,7]⟩
 refine (JF∘JX∘JG∘JP∘Jp 1∘Jq∘JC (h:=by exact λb=>b.dO (i:=3) (ds:= #[.slice (dD e d p.oT) (abk p.nums-p.oT) (d-p.oT),.bool (p.vJ p.cp)]) rfl (by rw [show u=p.cp by omega,show p.oC+p.cp+p.cp=p.oT by omega]))∘JG∘JQ∘JP∘Jp 1∘JO (h:=by exact λb=>tV W _ g p.oT e d p.nums (p.vJ p.cp) _ (b.pt 7 [3,4,0,1,2,5,6]) o om (x:=p.tk) (k2:=p.oT+1+8*0) (o2:=p.jB 0) (zgr h) (rfl) (rfl) (RU om))) λw94=>(Jp 1∘Jq∘JC (h:=by exact λb=>b.nil 232 8)∘JG∘JB) λa Z b=>?_
 refine qg (λV aS wS=>∃(i:Nat) (T:List Tk) (At:Option Addr) (H:Nat),(i≤p.tk)∧(T=bQ i p.sQ)∧(abk T=i)∧(abk T≤H)∧V=p.tk-i∧Fr aS 191 [] [(95,vI i),(94,vI p.tk),(7,vI (p.rM i)),(80,.bool false),(79,vI u),(78,vI p.cp),(61,.bool false),(60,vI k),(59,vI p.cp),(31,.bool false),(30,vI j),(29,vI p.gp),(4,vP F 1),(3,vP F 0),(2,vP O 0),(0,vP g 0)]∧Mem W wS (abj At T H bI 232 8:: .blk g #[.slice (dD e d (p.oT+1+8*i)) (abk p.nums- (p.oT+1+8*i)) (d- (p.oT+1+8*i)),.bool (p.jB i)] 302:: abh e p.nums d bq 41 1:: abh E U cu aP 3 1:: abh D C cl aP 3 1:: abj B G r eZ 198 2:: .blk F #[vI (bE p.nx),vI p.cp,vQ p.cr,abg B G r,abg D C cl,abg E U cu,abg At T H,vN] 50:: .blk O #[vI 0,vI 0,vQ 0,vN,vN,vN,vN,vN] 50::fs)) (m:=p.tk-0) ⟨0,[],none,0,abx _,rfl,rfl,abo _,rfl,Z.sub kr,b.pt 8 [0,1,2,3,4,5,6,7]⟩ ?_
 clear Z b;rintro V a w_ ⟨i,T,At,H,hi,hT,hTl,hTc,rfl,Z,b⟩
 refine Jb Z b ((JP∘Jp 1∘Jj∘JQ) (Ji (λhd96=>?_) λhd96=>?_))
 ·
  refine (JT∘aD∘JQ∘JB∘JP∘Jp 2∘JO (h:=by exact λb=>tV W _ g (p.oT+1+8*i) e d p.nums (p.jB i) _ (b.pt 8 [1,2,0,3,4,5,6,7]) o om (x:=p.tn i 0) (k2:=p.oT+1+(8*i+1)) (o2:=p.jB i&&dle (p.tn i 0) aA) (Af h (j:=8*i) om) (rfl) (rfl) (rfl))) λw99=>(Jp 1∘Jo (vI (p.lH i)) (by exact rfl)∘Jp 1∘gG∘Jr∘Jp 2∘JO (h:=by exact λb=>tV W _ g (p.oT+1+(8*i+1)) e d p.nums (p.jB i&&dle (p.tn i 0) aA) _ (b.pt 8 [0,1,2,3,4,5,6,7]) o om (x:=p.tn i 1) (k2:=p.oT+1+(8*i+2)) (o2:=(p.jB i&&dle (p.tn i 0) aA)&&dle (p.tn i 1) aA) (Af h (j:=8*i+1) om) (rfl) (rfl) (rfl))) λSz=>(Jp 1∘JO (h:=by exact λb=>tV W _ g (p.oT+1+(8*i+2)) e d p.nums ((p.jB i&&dle (p.tn i 0) aA)&&dle (p.tn i 1) aA) _ (b.pt 8 [0,1,2,3,4,5,6,7]) o om (x:=p.tn i 2) (k2:=p.oT+1+(8*i+3)) (o2:=((p.jB i&&dle (p.tn i 0) aA)&&dle (p.tn i 1) aA)&&dle (p.tn i 2) aA) (Af h (j:=8*i+2) om) (rfl) (rfl) (rfl))) λGK=>(Jp 1∘JO (h:=by exact λb=>tV W _ g (p.oT+1+(8*i+3)) e d p.nums (((p.jB i&&dle (p.tn i 0) aA)&&dle (p.tn i 1) aA)&&dle (p.tn i 2) aA) _ (b.pt 8 [0,1,2,3,4,5,6,7]) o om (x:=p.tn i 3) (k2:=p.oT+1+(8*i+4)) (o2:=(((p.jB i&&dle (p.tn i 0) aA)&&dle (p.tn i 1) aA)&&dle (p.tn i 2) aA)&&dle (p.tn i 3) aA) (Af h (j:=8*i+3) om) (rfl) (rfl) (rfl))) λanT=>(Jp 1∘JO (h:=by exact λb=>yR 18446744073709551615 W _ g (p.oT+1+(8*i+4)) e d p.nums ((((p.jB i&&dle (p.tn i 0) aA)&&dle (p.tn i 1) aA)&&dle (p.tn i 2) aA)&&dle (p.tn i 3) aA) _ (b.pt 8 [0,1,2,3,4,5,6,7]) o om (x:=p.tn i 4) (k2:=p.oT+1+(8*i+5)) (o2:=((((p.jB i&&dle (p.tn i 0) aA)&&dle (p.tn i 1) aA)&&dle (p.tn i 2) aA)&&dle (p.tn i 3) aA)&&dle (p.tn i 4) 18446744073709551615) (Af h (j:=8*i+4) om) (rfl) (rfl))) λRl=>(eH #[vI (p.lH i),vI (bE (p.tn i 1)),vI (bE (p.tn i 2)),vI (bE (p.tn i 3)),vQ (p.tn i 4),.bool false,vQ 0,vW 0]∘JA #[vI 0,vI 0,vI 0,vI 0,vQ 0,.bool false,vQ 0,vW 0]) λw8 g8=>(JV fu aU) λSA=>(aF∘Jq∘JC (h:=by exact λb=>(show Mem W _ (.blk g8 #[vI (p.lH i),vI (bE (p.tn i 1)),vI (bE (p.tn i 2)),vI (bE (p.tn i 3)),vQ (p.tn i 4),.bool false,vQ 0,vW 0] 232:: .blk g #[.slice (dD e d (p.oT+1+(8*i+5))) (abk p.nums- (p.oT+1+(8*i+5))) (d- (p.oT+1+(8*i+5))),.bool (((((p.jB i&&dle (p.tn i 0) aA)&&dle (p.tn i 1) aA)&&dle (p.tn i 2) aA)&&dle (p.tn i 3) aA)&&dle (p.tn i 4) 18446744073709551615)] 302:: abh e p.nums d bq 41 1:: abj At T H bI 232 8:: abh E U cu aP 3 1:: abh D C cl aP 3 1:: abj B G r eZ 198 2:: .blk F #[vI (bE p.nx),vI p.cp,vQ p.cr,abg B G r,abg D C cl,abg E U cu,abg At T H,vN] 50:: .blk O #[vI 0,vI 0,vQ 0,vN,vN,vN,vN,vN] 50::fs) from b))∘JG∘JP∘Jp 1∘JO (h:=by exact λb=>yR 1 W _ g (p.oT+1+(8*i+5)) e d p.nums (((((p.jB i&&dle (p.tn i 0) aA)&&dle (p.tn i 1) aA)&&dle (p.tn i 2) aA)&&dle (p.tn i 3) aA)&&dle (p.tn i 4) 18446744073709551615) _ (b.pt 9 [1,2,0,3,4,5,6,7,8]) o om (x:=p.tn i 5) (k2:=p.oT+1+(8*i+6)) (o2:=(((((p.jB i&&dle (p.tn i 0) aA)&&dle (p.tn i 1) aA)&&dle (p.tn i 2) aA)&&dle (p.tn i 3) aA)&&dle (p.tn i 4) 18446744073709551615)&&dle (p.tn i 5) 1) (Af h (j:=8*i+5) om) (rfl) (rfl))) λanU=>(Jp 1∘Jo (.bool (decide (p.tn i 5=1))) (by exact congrArg Value.bool (zg1 _))∘Jp 1∘JO (h:=by exact λb=>yR 18446744073709551615 W _ g (p.oT+1+(8*i+6)) e d p.nums ((((((p.jB i&&dle (p.tn i 0) aA)&&dle (p.tn i 1) aA)&&dle (p.tn i 2) aA)&&dle (p.tn i 3) aA)&&dle (p.tn i 4) 18446744073709551615)&&dle (p.tn i 5) 1) _ (b.pt 9 [0,1,2,3,4,5,6,7,8]) o om (x:=p.tn i 6) (k2:=p.oT+1+(8*i+7)) (o2:=((((((p.jB i&&dle (p.tn i 0) aA)&&dle (p.tn i 1) aA)&&dle (p.tn i 2) aA)&&dle (p.tn i 3) aA)&&dle (p.tn i 4) 18446744073709551615)&&dle (p.tn i 5) 1)&&dle (p.tn i 6) 18446744073709551615) (Af h (j:=8*i+6) om) (rfl) (rfl))) λRm=>(Jp 1∘JO (h:=by exact λb=>yR 4294967295 W _ g (p.oT+1+(8*i+7)) e d p.nums (((((((p.jB i&&dle (p.tn i 0) aA)&&dle (p.tn i 1) aA)&&dle (p.tn i 2) aA)&&dle (p.tn i 3) aA)&&dle (p.tn i 4) 18446744073709551615)&&dle (p.tn i 5) 1)&&dle (p.tn i 6) 18446744073709551615) _ (b.pt 9 [0,1,2,3,4,5,6,7,8]) o om (x:=p.tn i 7) (k2:=p.oT+1+8*(i+1)) (o2:=(((((((p.jB i&&dle (p.tn i 0) aA)&&dle (p.tn i 1) aA)&&dle (p.tn i 2) aA)&&dle (p.tn i 3) aA)&&dle (p.tn i 4) 18446744073709551615)&&dle (p.tn i 5) 1)&&dle (p.tn i 6) 18446744073709551615)&&dle (p.tn i 7) 4294967295) (Af h (j:=8*i+7) om) om (rfl))) λanV=>(Jv 1 [(118,vW (IntKind.u32.wrap (p.tn i 7:Int)))]∘Jo (vW ((p.tn i 7)%4294967296:Nat)) (by exact Ve (p.tn i 7))∘Jf 5∘JW iO uw) λaa8=>(Jf 6∘JW iO xO) λSB=>(Jf 7∘JW iO xP) λCJ=>(iA∘Jq∘JC (h:=by exact λb=>(show Mem W _ (.blk g #[.slice (dD e d (p.oT+1+8*(i+1))) (abk p.nums- (p.oT+1+8*(i+1))) (d- (p.oT+1+8*(i+1))),.bool ((((((((p.jB i&&dle (p.tn i 0) aA)&&dle (p.tn i 1) aA)&&dle (p.tn i 2) aA)&&dle (p.tn i 3) aA)&&dle (p.tn i 4) 18446744073709551615)&&dle (p.tn i 5) 1)&&dle (p.tn i 6) 18446744073709551615)&&dle (p.tn i 7) 4294967295)] 302:: abh e p.nums d bq 41 1:: .blk g8 #[vI (p.lH i),vI (bE (p.tn i 1)),vI (bE (p.tn i 2)),vI (bE (p.tn i 3)),vQ (p.tn i 4),.bool (decide (p.tn i 5=1)),vQ (p.tn i 6),vW ((p.tn i 7)%4294967296:Nat)] 232:: abj At T H bI 232 8:: abh E U cu aP 3 1:: abh D C cl aP 3 1:: abj B G r eZ 198 2:: .blk F #[vI (bE p.nx),vI p.cp,vQ p.cr,abg B G r,abg D C cl,abg E U cu,abg At T H,vN] 50:: .blk O #[vI 0,vI 0,vQ 0,vN,vN,vN,vN,vN] 50::fs) from b))) λa Z b=>?_
  refine wp_seq ?_
  refine Jb Z b ((Vs (.t (.t (.t (.f .n)))) [10]) λanW=>(Vp [0,1]∘Vn 2∘Vf 3 5∘Vc 4 O6∘qL 5 fu O2) λa Z b I=>?_)
  refine s_on Z 6 rfl (iW Z b bX [(0,.agg #[vI (p.lH i),vI (bE (p.tn i 1)),vI (bE (p.tn i 2)),vI (bE (p.tn i 3)),vQ (p.tn i 4),.bool (decide (p.tn i 5=1)),vQ (p.tn i 6),vW ((p.tn i 7)%4294967296:Nat)])] #[vI (p.lH i),vI (bE (p.tn i 1)),vI (bE (p.tn i 2)),vI (bE (p.tn i 3)),vQ (p.tn i 4),.bool (decide (p.tn i 5=1)),vQ (p.tn i 6),vW ((p.tn i 7)%4294967296:Nat)] ?_)
  clear Z b;intro a anX anY Z b
  refine ay (b.pt 10 [1,2,3,5,6,7,8,9]) (λI=>?_)
  refine s_on Z 7 rfl (qF Z b (i:=4) rfl bX rfl rfl rfl (news:=([p.sQ i].flatMap bI)) (b.aW (i:=0) (n:=1) (size:=8) rfl rfl) (F9 _) om om rfl de ?_)
  clear Z b;intro a anZ yS yT Z b vV
  refine ay (b.pt 10 [1,2,3,5,6,7,8,9]) (λI=>?_)
  refine Vb Z b I ((Vn 8∘Vf 9 5) λa Z b I=>?_)
  refine s_on Z 10 rfl (fJ Z b 8 λSC b=>?_)
  refine dM kr ?_
  refine qd kr ?_
  have M:abk T+1=abk (T++[p.sQ i]):=nC rfl
  rw [M] at vV
  replace b:=b.aT (i:=4) (ys:=(T++[p.sQ i]).flatMap bI) rfl M (by exact List.flatMap_append.symm)
  replace Z:=Z.sp 129 (abg yS (T++[p.sQ i]) yT) rfl (gF M)
  replace b:=b.dO (i:=8) (ds:= #[vI (bE p.nx),vI p.cp,vQ p.cr,abg B G r,abg D C cl,abg E U cu,abg yS (T++[p.sQ i]) yT,vN]) rfl (by rw [M];try rfl)
  refine Jb Z b ((JP∘Jp 2∘Jn∘Jg 1 O1∘Jp 1) (Ju (λvX=>?_) λvX=>?_))
  ·
   refine (Jp 3∘Jn∘Jf 1∘JW fO fO) λCK=>(iA∘Jj∘JR∘Jp 1∘Jy (v:=vI (if (65535:Int)<(p.lH i:Int) then 65535 else p.lH i)) (h:=by exact Yl.min rfl rfl rfl)∘Jo (vI (p.rM (i+1))) (by exact rfl)∘Jp 1∘aF∘Jj∘JR∘cK 1∘Jp 1∘aK∘Jq) λa Z b=>?_
   replace b:=b.dO (i:=1) (ds:= #[.slice (dD e d (p.oT+1+8*(i+1))) (abk p.nums- (p.oT+1+8*(i+1))) (d- (p.oT+1+8*(i+1))),.bool (p.jB (i+1))]) rfl (by rw [show p.jB (i+1)=(((((((((p.jB i&&dle (p.tn i 0) aA)&&dle (p.tn i 1) aA)&&dle (p.tn i 2) aA)&&dle (p.tn i 3) aA)&&dle (p.tn i 4) 18446744073709551615)&&dle (p.tn i 5) 1)&&dle (p.tn i 6) 18446744073709551615)&&dle (p.tn i 7) 4294967295)&&decide (p.lH i≤65535)) from rfl,vX];rfl)
   exact ⟨_,om,i+1,(T++[p.sQ i]),yS,yT,by omega,by rw [hT,yK],by rw [abm,hTl];rfl,vV,rfl,Z.sub kr,b.pt 10 [4,1,2,5,6,7,8,9]⟩
  refine (Jp 3∘Jn∘Jf 1∘JW fO fO) λCK=>(iA∘Jj∘JR∘Jp 1∘Jy (v:=vI (if (65535:Int)<(p.lH i:Int) then 65535 else p.lH i)) (h:=by exact Yl.min rfl rfl rfl)∘Jo (vI (p.rM (i+1))) (by exact rfl)∘Jp 1∘aF∘Jj∘JR∘cK 1∘Jp 1∘aK∘Jq) λa Z b=>?_
  replace b:=b.dO (i:=1) (ds:= #[.slice (dD e d (p.oT+1+8*(i+1))) (abk p.nums- (p.oT+1+8*(i+1))) (d- (p.oT+1+8*(i+1))),.bool (p.jB (i+1))]) rfl (by rw [show p.jB (i+1)=(((((((((p.jB i&&dle (p.tn i 0) aA)&&dle (p.tn i 1) aA)&&dle (p.tn i 2) aA)&&dle (p.tn i 3) aA)&&dle (p.tn i 4) 18446744073709551615)&&dle (p.tn i 5) 1)&&dle (p.tn i 6) 18446744073709551615)&&dle (p.tn i 7) 4294967295)&&decide (p.lH i≤65535)) from rfl,vX];rfl)
  exact ⟨_,om,i+1,(T++[p.sQ i]),yS,yT,by omega,by rw [hT,yK],by rw [abm,hTl];rfl,vV,rfl,Z.sub kr,b.pt 10 [4,1,2,5,6,7,8,9]⟩
 refine (JF∘JX∘JG∘JQ∘JP∘Jp 1∘Jn∘Jf 0∘Jg 2 O6∘Jl∘Jp 1∘Jq∘JC (h:=by exact λb=>b.dO (i:=1) (ds:= #[.slice (dD e d (p.oS+p.so 0 0)) (abk p.nums- (p.oS+p.so 0 0)) (d- (p.oS+p.so 0 0)),.bool (p.mG 0)]) rfl (by rw [show i=p.tk by omega];rfl))∘JC (h:=by exact λb=>b.nil 176 1)∘JC (h:=by exact λb=>b.nU 200 3)∘JC (h:=by exact λb=>(show Mem W _ (.row (vN) 0 [] 176 1:: abj At T H bI 232 8:: .blk g #[.slice (dD e d (p.oS+p.so 0 0)) (abk p.nums- (p.oS+p.so 0 0)) (d- (p.oS+p.so 0 0)),.bool (p.mG 0)] 302:: abh e p.nums d bq 41 1:: abh E U cu aP 3 1:: abh D C cl aP 3 1:: abj B G r eZ 198 2:: .blk F #[vI (bE p.nx),vI p.cp,vQ p.cr,abg B G r,abg D C cl,abg E U cu,abg At T H,vN] 50:: .blk O #[vI 0,vI 0,vQ 0,vN,vN,vN,vN,vN] 50::(fs++(kM 200 []))) from b))∘JG∘JB) λa Z b=>?_
 refine qg (λV aS wS=>∃(y:Nat) (z:List Rw) (As:Option Addr) (cs:Nat),(y≤abk G)∧(abk z=y)∧(z.map Rw.l=bQ y p.row)∧(∀q∈z,abk q.l≤q.c)∧(abk z≤cs)∧V=abk G-y∧Fr aS 191 [] [(152,vI y),(151,vI (abk G)),(96,.bool false),(95,vI i),(94,vI p.tk),(7,vI (p.rM i)),(80,.bool false),(79,vI u),(78,vI p.cp),(61,.bool false),(60,vI k),(59,vI p.cp),(31,.bool false),(30,vI j),(29,vI p.gp),(4,vP F 1),(3,vP F 0),(2,vP O 0),(0,vP g 0)]∧Mem W wS (abh As z cs aac 176 1:: abj At T H bI 232 8:: .blk g #[.slice (dD e d (p.oS+p.so y 0)) (abk p.nums- (p.oS+p.so y 0)) (d- (p.oS+p.so y 0)),.bool (p.mG y)] 302:: abh e p.nums d bq 41 1:: abh E U cu aP 3 1:: abh D C cl aP 3 1:: abj B G r eZ 198 2:: .blk F #[vI (bE p.nx),vI p.cp,vQ p.cr,abg B G r,abg D C cl,abg E U cu,abg At T H,abg As z cs] 50:: .blk O #[vI 0,vI 0,vQ 0,vN,vN,vN,vN,vN] 50::(fs++(kM 200 z)))) (m:=abk G-0) ⟨0,[],none,0,abx _,rfl,rfl,(λq h=>by cases h),abo _,rfl,Z.sub kr,b.pt 9 [0,1,2,3,4,5,6,7,8]⟩ ?_
 clear Z b;rintro V a w_ ⟨y,z,As,cs,hy,hzl,hz,hzc,hcs,rfl,Z,b⟩
 refine Jb Z b ((JP∘Jp 1∘Jj∘JQ) (Ji (λhd153=>?_) λhd153=>?_))
 ·
  have hyg:y<p.gp:=by omega
  refine (JT∘aD∘JQ∘JB∘JP∘Jp 2∘aK∘Jr∘Jp 1∘Jq∘JC (h:=by exact λb=>b.nil 200 3)∘JG∘JQ∘JP∘Jp 1∘Jn∘Jf 0∘Jg 0 O8∘Jp 1∘Jj∘JB) λa Z b=>?_
  refine qg (λV aS wS=>∃(x:Nat) (R:List Sp) (J:Option Addr) (cr:Nat),(x≤p.cp)∧(R=bQ x (p.qW y))∧(abk R=x)∧(abk R≤cr)∧V=p.cp-x∧Fr aS 191 [] [(160,vI x),(159,vI p.cp),(10,abg J R cr),(9,vI y),(153,.bool true),(152,vI y),(151,vI (abk G)),(96,.bool false),(95,vI i),(94,vI p.tk),(7,vI (p.rM i)),(80,.bool false),(79,vI u),(78,vI p.cp),(61,.bool false),(60,vI k),(59,vI p.cp),(31,.bool false),(30,vI j),(29,vI p.gp),(4,vP F 1),(3,vP F 0),(2,vP O 0),(0,vP g 0)]∧Mem W wS (abj J R cr iT 200 3:: abh As z cs aac 176 1:: abj At T H bI 232 8:: .blk g #[.slice (dD e d (p.oS+p.so y x)) (abk p.nums- (p.oS+p.so y x)) (d- (p.oS+p.so y x)),.bool (p.lI (p.mG y) y x)] 302:: abh e p.nums d bq 41 1:: abh E U cu aP 3 1:: abh D C cl aP 3 1:: abj B G r eZ 198 2:: .blk F #[vI (bE p.nx),vI p.cp,vQ p.cr,abg B G r,abg D C cl,abg E U cu,abg At T H,abg As z cs] 50:: .blk O #[vI 0,vI 0,vQ 0,vN,vN,vN,vN,vN] 50::(fs++(kM 200 z)))) (m:=p.cp-0) ⟨0,[],none,0,abx _,rfl,rfl,abo _,rfl,Z.sub kr,b.pt 10 [0,1,2,3,4,5,6,7,8,9]⟩ ?_
  clear Z b;rintro V a w_ ⟨x,R,J,cr,hx,hR,hRl,hRc,rfl,Z,b⟩
  refine Jb Z b ((JP∘Jp 1∘Jj∘JQ) (Ji (λH6=>?_) λH6=>?_))
  ·
   have hxc:x<p.cp:=by omega
   have hin:=He h hyg hxc
   refine (JT∘aD∘JQ∘JB∘JP∘JA #[vQ 0,vW 0,vQ 0]) λwW g11=>(Jj∘JQ∘JP∘Jp 2∘aK∘Jj) (Ji (λH7=>?_) λH7=>?_)
   ·
    rw [if_neg om] at hin
    have hsp:p.qW y x=⟨p.sn y x 0,p.sn y x 1%4294967296,p.sn y x 2⟩:=if_neg om
    refine (JT∘JR∘Jp 1∘JO (h:=by exact λb=>yR 18446744073709551615 W _ g (p.oS+p.so y x) e d p.nums (p.lI (p.mG y) y x) _ (b.pt 11 [4,5,0,1,2,3,6,7,8,9,10]) o om (x:=p.sn y x 0) (k2:=p.oS+(p.so y x+1)) (o2:=p.lI (p.mG y) y x&&dle (p.sn y x 0) 18446744073709551615) (Mf h (p.so y x)) (rfl) (rfl))) λan1=>(Jp 1∘JO (h:=by exact λb=>yR 4294967295 W _ g (p.oS+(p.so y x+1)) e d p.nums (p.lI (p.mG y) y x&&dle (p.sn y x 0) 18446744073709551615) _ (b.pt 11 [0,1,2,3,4,5,6,7,8,9,10]) o om (x:=p.sn y x 1) (k2:=p.oS+(p.so y x+2)) (o2:=(p.lI (p.mG y) y x&&dle (p.sn y x 0) 18446744073709551615)&&dle (p.sn y x 1) 4294967295) (Mf h (p.so y x+1)) (rfl) (rfl))) λan2=>(Jv 1 [(168,vW (IntKind.u32.wrap (p.sn y x 1:Int)))]∘Jo (vW ((p.sn y x 1)%4294967296:Nat)) (by exact Ve (p.sn y x 1))∘Jf 0∘JW iO aU) λaa9=>(Jf 1∘JW iO fO) λabb=>(iA∘Jq∘JC (h:=by exact λb=>(show Mem W _ (.blk g #[.slice (dD e d (p.oS+(p.so y x+2))) (abk p.nums- (p.oS+(p.so y x+2))) (d- (p.oS+(p.so y x+2))),.bool ((p.lI (p.mG y) y x&&dle (p.sn y x 0) 18446744073709551615)&&dle (p.sn y x 1) 4294967295)] 302:: abh e p.nums d bq 41 1:: .blk g11 #[vQ (p.sn y x 0),vW ((p.sn y x 1)%4294967296:Nat),vQ 0] 200:: abj J R cr iT 200 3:: abh As z cs aac 176 1:: abj At T H bI 232 8:: abh E U cu aP 3 1:: abh D C cl aP 3 1:: abj B G r eZ 198 2:: .blk F #[vI (bE p.nx),vI p.cp,vQ p.cr,abg B G r,abg D C cl,abg E U cu,abg At T H,abg As z cs] 50:: .blk O #[vI 0,vI 0,vQ 0,vN,vN,vN,vN,vN] 50::(fs++(kM 200 z))) from b))∘JG∘JP∘Jp 1∘JO (h:=by exact λb=>yR 18446744073709551615 W _ g (p.oS+(p.so y x+2)) e d p.nums ((p.lI (p.mG y) y x&&dle (p.sn y x 0) 18446744073709551615)&&dle (p.sn y x 1) 4294967295) _ (b.pt 11 [0,1,2,3,4,5,6,7,8,9,10]) o om (x:=p.sn y x 2) (k2:=p.oS+p.so y (x+1)) (o2:=p.lI (p.mG y) y (x+1)) (Mf h (p.so y x+2)) (by rw [Hz om];rfl) ((HY om).symm))) λSE=>(Jf 2∘JW iO iO) λH8=>(wT∘Jq∘JC (h:=by exact λb=>(show Mem W _ (.blk g #[.slice (dD e d (p.oS+p.so y (x+1))) (abk p.nums- (p.oS+p.so y (x+1))) (d- (p.oS+p.so y (x+1))),.bool (p.lI (p.mG y) y (x+1))] 302:: abh e p.nums d bq 41 1:: .blk g11 #[vQ (p.sn y x 0),vW ((p.sn y x 1)%4294967296:Nat),vQ (p.sn y x 2)] 200:: abj J R cr iT 200 3:: abh As z cs aac 176 1:: abj At T H bI 232 8:: abh E U cu aP 3 1:: abh D C cl aP 3 1:: abj B G r eZ 198 2:: .blk F #[vI (bE p.nx),vI p.cp,vQ p.cr,abg B G r,abg D C cl,abg E U cu,abg At T H,abg As z cs] 50:: .blk O #[vI 0,vI 0,vQ 0,vN,vN,vN,vN,vN] 50::(fs++(kM 200 z))) from b))∘JG∘JR∘Jp 1∘eF nM O2∘JU lD #[vQ (p.sn y x 0),vW ((p.sn y x 1)%4294967296:Nat),vQ (p.sn y x 2)]) λSF SG=>(JD ([(⟨p.sn y x 0,p.sn y x 1%4294967296,p.sn y x 2⟩:Sp)].flatMap iT) 4 (λ_ _=>sF) lD (hr:=by exact λb=>b.aW (i:=0) (n:=1) (size:=3) rfl rfl) (h1:=by exact P9 _)) λSH Y vY N=>(Jp 1∘gG∘Jq) ?_
    have A:abk R+1=abk (R++[p.qW y x]):=nC rfl
    rw [A] at N
    refine (JC (h:=by exact λb=>b.aT (i:=4) (ys:=(R++[p.qW y x]).flatMap iT) rfl A (by rw [hsp];exact List.flatMap_append.symm))∘Jk 10 (.slice Y (abk (R++[p.qW y x])) vY) (h:=by exact gF A)∘JG∘JR∘cK 1∘Jp 1∘aK∘Jq) λa Z b=>?_
    exact ⟨_,om,x+1,(R++[p.qW y x]),Y,vY,by omega,by rw [hR,yK],by rw [abm,hRl];rfl,N,rfl,Z.sub kr,b.pt 12 [4,5,6,1,2,7,8,9,10,11]⟩
   rw [if_pos om] at hin
   have hsp:p.qW y x=⟨0,0,p.sn y x 0⟩:=if_pos om
   refine (JF∘aD∘JP∘Jp 1∘JO (h:=by exact λb=>yR 18446744073709551615 W _ g (p.oS+p.so y x) e d p.nums (p.lI (p.mG y) y x) _ (b.pt 11 [4,5,0,1,2,3,6,7,8,9,10]) o om (x:=p.sn y x 0) (k2:=p.oS+p.so y (x+1)) (o2:=p.lI (p.mG y) y (x+1)) (Mf h (p.so y x)) (by rw [Hy om];rfl) ((HV om).symm))) λSE=>(Jf 2∘JW iO iO) λH8=>(oI∘Jq∘JC (h:=by exact λb=>(show Mem W _ (.blk g #[.slice (dD e d (p.oS+p.so y (x+1))) (abk p.nums- (p.oS+p.so y (x+1))) (d- (p.oS+p.so y (x+1))),.bool (p.lI (p.mG y) y (x+1))] 302:: abh e p.nums d bq 41 1:: .blk g11 #[vQ 0,vW 0,vQ (p.sn y x 0)] 200:: abj J R cr iT 200 3:: abh As z cs aac 176 1:: abj At T H bI 232 8:: abh E U cu aP 3 1:: abh D C cl aP 3 1:: abj B G r eZ 198 2:: .blk F #[vI (bE p.nx),vI p.cp,vQ p.cr,abg B G r,abg D C cl,abg E U cu,abg At T H,abg As z cs] 50:: .blk O #[vI 0,vI 0,vQ 0,vN,vN,vN,vN,vN] 50::(fs++(kM 200 z))) from b))∘JG∘JR∘Jp 1∘eF nM O2∘JU lD #[vQ 0,vW 0,vQ (p.sn y x 0)]) λSF SG=>(JD ([(⟨0,0,p.sn y x 0⟩:Sp)].flatMap iT) 4 (λ_ _=>sF) lD (hr:=by exact λb=>b.aW (i:=0) (n:=1) (size:=3) rfl rfl) (h1:=by exact P9 _)) λSH Y vY N=>(Jp 1∘gG∘Jq) ?_
   have A:abk R+1=abk (R++[p.qW y x]):=nC rfl
   rw [A] at N
   refine (JC (h:=by exact λb=>b.aT (i:=4) (ys:=(R++[p.qW y x]).flatMap iT) rfl A (by rw [hsp];exact List.flatMap_append.symm))∘Jk 10 (.slice Y (abk (R++[p.qW y x])) vY) (h:=by exact gF A)∘JG∘JR∘cK 1∘Jp 1∘aK∘Jq) λa Z b=>?_
   exact ⟨_,om,x+1,(R++[p.qW y x]),Y,vY,by omega,by rw [hR,yK],by rw [abm,hRl];rfl,N,rfl,Z.sub kr,b.pt 12 [4,5,6,1,2,7,8,9,10,11]⟩
  refine (JF∘JX∘JG∘JR∘Jp 2∘Jn∘Jg 6 O8∘Jp 1∘JU nN #[abg J R cr]) λan3 an4=>(JD ([(⟨J,cr,R⟩:Rw)].map aac) 2 (λ_ _=>iO) nN (hr:=by exact λb=>b.aW (i:=0) (n:=1) (size:=1) rfl rfl) (h1:=by exact Yv _)) λan5 K L Av=>(Jn∘Jf 6∘JW Ob xP) λSK=>(iA∘Jq) ?_
  have S:abk z+1=abk (z++[(⟨J,cr,R⟩:Rw)]):=nC rfl
  rw [S] at Av
  refine (JC (h:=by exact λb=>b.aT (i:=2) (ys:=(z++[(⟨J,cr,R⟩:Rw)]).map aac) rfl S (by exact List.map_append.symm))∘JC (h:=by exact λb=>b.dO (i:=9) (ds:= #[vI (bE p.nx),vI p.cp,vQ p.cr,abg B G r,abg D C cl,abg E U cu,abg At T H,abg K (z++[(⟨J,cr,R⟩:Rw)]) L]) rfl (by rw [S];try rfl))∘JC (h:=by exact λb=>b.pt (fs':=(abj J R cr iT 200 3:: abh K (z++[(⟨J,cr,R⟩:Rw)]) L aac 176 1:: abj At T H bI 232 8:: .blk g #[.slice (dD e d (p.oS+p.so y x)) (abk p.nums- (p.oS+p.so y x)) (d- (p.oS+p.so y x)),.bool (p.lI (p.mG y) y x)] 302:: abh e p.nums d bq 41 1:: abh E U cu aP 3 1:: abh D C cl aP 3 1:: abj B G r eZ 198 2:: .blk F #[vI (bE p.nx),vI p.cp,vQ p.cr,abg B G r,abg D C cl,abg E U cu,abg At T H,abg K (z++[(⟨J,cr,R⟩:Rw)]) L] 50:: .blk O #[vI 0,vI 0,vQ 0,vN,vN,vN,vN,vN] 50::(fs++(kM 200 z)))) 11 [1,2,3,4,5,6,7,8,9,10])∘JC (h:=by exact λb=>aaB (fs:=(abh K (z++[(⟨J,cr,R⟩:Rw)]) L aac 176 1:: abj At T H bI 232 8:: .blk g #[.slice (dD e d (p.oS+p.so y x)) (abk p.nums- (p.oS+p.so y x)) (d- (p.oS+p.so y x)),.bool (p.lI (p.mG y) y x)] 302:: abh e p.nums d bq 41 1:: abh E U cu aP 3 1:: abh D C cl aP 3 1:: abj B G r eZ 198 2:: .blk F #[vI (bE p.nx),vI p.cp,vQ p.cr,abg B G r,abg D C cl,abg E U cu,abg At T H,abg K (z++[(⟨J,cr,R⟩:Rw)]) L] 50:: .blk O #[vI 0,vI 0,vQ 0,vN,vN,vN,vN,vN] 50::fs)) b)∘JC (h:=by exact λb=>(show Mem W _ (abh K (z++[(⟨J,cr,R⟩:Rw)]) L aac 176 1:: abj At T H bI 232 8:: .blk g #[.slice (dD e d (p.oS+p.so y x)) (abk p.nums- (p.oS+p.so y x)) (d- (p.oS+p.so y x)),.bool (p.lI (p.mG y) y x)] 302:: abh e p.nums d bq 41 1:: abh E U cu aP 3 1:: abh D C cl aP 3 1:: abj B G r eZ 198 2:: .blk F #[vI (bE p.nx),vI p.cp,vQ p.cr,abg B G r,abg D C cl,abg E U cu,abg At T H,abg K (z++[(⟨J,cr,R⟩:Rw)]) L] 50:: .blk O #[vI 0,vI 0,vQ 0,vN,vN,vN,vN,vN] 50::(fs++(kM 200 (z++[(⟨J,cr,R⟩:Rw)])))) from b))∘JG∘JR∘cK 1∘Jp 1∘gG∘Jq) λa Z b=>?_
  replace b:=b.dO (i:=2) (ds:= #[.slice (dD e d (p.oS+p.so (y+1) 0)) (abk p.nums- (p.oS+p.so (y+1) 0)) (d- (p.oS+p.so (y+1) 0)),.bool (p.mG (y+1))]) rfl (by rw [Mg,show x=p.cp by omega];rfl)
  exact ⟨_,om,y+1,(z++[(⟨J,cr,R⟩:Rw)]),K,L,by omega,by rw [abm,hzl];rfl,by rw [abP,hz,yK,hR,show x=p.cp by omega];rfl,λq h=>(abV.1 h).elim (hzc q) (λh=>by rw [adf] at h;subst h;exact hRc),Av,rfl,Z.sub kr,b.pt 9 [0,1,2,3,4,5,6,7,8]⟩
 have e0:y=p.gp:=by omega
 have e1:bQ p.gp p.iq=G:=by rw [hG,show j=p.gp by omega]
 have e2:p.cl.map bE=C:=by rw [hC,show k=p.cp by omega];exact (qr1 h.cl bE).symm
 have e3:p.cu.map bE=U:=by rw [hU,show u=p.cp by omega];exact (qr1 h.cu bE).symm
 have e4:bQ p.tk p.sQ=T:=by rw [hT,show i=p.tk by omega]
 have e5:(bQ p.gp λg=>(⟨none,0,p.row g⟩:Rw)).map Rw.l=z.map Rw.l:=by rw [hz,e0];exact za3 _ _ _
 refine (JF∘JX∘JG∘JP∘eF zp O7∘JV zp Oa) λabd=>(mZ∘Jq∘JC (h:=by exact λb=>b.dO (i:=2) (ds:= #[.slice (dD e d (p.oS+p.so p.gp 0)) (abk p.nums- (p.oS+p.so p.gp 0)) (d- (p.oS+p.so p.gp 0)),.bool p.okB]) rfl (by rw [e0];try rfl))∘JG∘JZ) λa Z b=>?_
 exact iy rfl Z (.cellS (i:=8) Z b rfl rfl zp rfl) (⟨(⟨bE p.nx,⟨(p.cp:Int),p.cr,B,r,G,D,cl,C,E,cu,U,At,H,T,As,cs,z⟩⟩:cO),_,_,_,rfl,uZ rfl ⟨⟨rfl,rfl,e1⟩,e2,e3,e4,e5⟩,⟨hGc,hCc,hUc,hTc,hcs,hzc⟩,aaW (b.pt 9 [2,6,5,4,1,0])⟩)
def q6q (A:Option Addr) (c:Nat) (l:List Nat) (B:Nat) (w:World) (x:aM B w) (o:B≤w.heap.size) (hr:Rd w w.heap.size 1 A (abk l) (l.map B8)) (hc:abk l≤c) (y:abk l≤100000000) (q:∀z∈l,z<256):
    Calls abl 112 #[.slice A (abk l) c] w (Mr w (oz l) (lJ l)):=by
 refine (dY Tryz.func112 37) ?_
 refine (JP∘JA #[vI 0,vI 0,vQ 0,vN,vN,vN,vN,vN]) λR C=>(Jp 1∘Jj∘JQ) λa Z b=>?_
 rcases hop:fC l with k|p
 ·
  have I:=RP hop
  refine Jb Z b ((JR∘Jp 1∘JI (h:=by exact λb=>zg6 A c l B _ (x.mem b o) (b.le o) (b.old hr) hc y q hop)) λr s=>(Jp 1∘Jx∘Jx∘Jp 2∘Jj∘JQ∘JP∘Jp 2∘aK∘Jj) (Jh (λg=>?_) λg=>?_))
  ·
   refine (JT∘JP∘eH #[vI 0,vI 0,vQ 0,vN,vN,vN,vN,vN]∘Jp 1∘JV zp aU) λD=>(Jp 1∘bG∘Jj∘JZ) λa Z b=>?_
   exact eG rfl Z (.cellS (i:=0) Z b rfl rfl zp rfl) (.tmp Z rfl) (R6 (vR hop) rfl (b.pk []))
  intro a Z b
  exfalso;omega
 ·
  have e:=(R4 q hop).2.2.1
  refine Jb Z b ((JR∘Jp 1∘JL (h:=by exact λb=>zg5 A c l B _ (x.mem b o) (b.le o) (b.old hr) hc y q hop)) ?_)
  rintro b _ r ⟨J,S,T,E,F,U,sc,rfl,t,K,hm⟩
  refine ⟨_,rfl,_,b.join hm,?_⟩
  refine (Jp 1∘Jx∘Jx∘Jp 2∘Jj∘JQ∘JP∘Jv 2 [(14,.bool false)]∘Jj∘JF∘aD∘JP∘Jp 1∘Jn∘Jg 2 O0∘eH #[abg E p.nums F,.bool true]∘JE) λL j=>(Jp 1∘lT∘Jr∘Jp 1∘JL (h:=by exact λb=>q0h _ _ j E F p e [.blk C #[vI 0,vI 0,vQ 0,vN,vN,vN,vN,vN] 50] (b.pk [0,2,4]) t)) ?_
  rintro b _ M ⟨z,u,N,O,rfl,hz,f,v⟩
  refine ⟨_,rfl,_,v,?_⟩
  refine (JA #[vI 0,vI 0,vQ 0,vN,vN,vN,vN,vN]) λV P=>(JV zp aU (h1:=by exact K9 z)) λG=>(bG∘Jj∘JQ∘JP∘Jp 1∘Jn∘Jg 1 O1∘Jp 2) (Ju (λd=>?_) λd=>?_)
  ·
   refine (Jp 4∘aF∘Jj∘JT∘JP∘eH #[vI 0,vI 0,vQ 0,vN,vN,vN,vN,vN]∘JV zp iO) λm=>(Jp 1∘aK∘Jj∘JZ) λa Z b=>?_
   exact eG rfl Z (.cellS (i:=2) Z b rfl rfl zp rfl) (.tmp Z rfl) (R6 (Mq hop (λh=>by rw [h.1] at d;cases d)) rfl (b.pk []))
  refine (eF zp O0∘JI (h:=by exact λb=>SQ z (zdm hz (zdl e)) (Yz (Lh hz) (R3 e _ (.inl rfl))) f _ (b.stX 3 rfl))) λQ s=>(Jp 2∘aF∘Jj) (Jh (λn=>?_) λn=>?_)
  ·
   refine (JT∘JP∘eH #[vI 0,vI 0,vQ 0,vN,vN,vN,vN,vN]∘JV zp iO) λm=>(Jp 1∘aK∘Jj∘JZ) λa Z b=>?_
   exact eG rfl Z (.cellS (i:=2) Z b rfl rfl zp rfl) (.tmp Z rfl) (R6 (Mq hop (λh=>by have h2:=h.2;rw [←Ga hz] at h2;omega)) rfl (b.pk []))
  refine (JF∘aD∘JP∘eF zp O0∘JV zp iO (h1:=by exact K9 z)) λH=>(Jp 1∘aK∘Jj∘JZ) λa Z b=>?_
  exact eG rfl Z (.cellS (i:=2) Z b rfl rfl zp rfl) (.tmp Z rfl) (q59 (R5 hop ⟨by simpa using d,by rw [←Ga hz];omega⟩) rfl hz f (b.lS (afh ([.blk P z.cells 50,.blk j #[.slice u N O,.bool p.okB] 302,.blk C z.cells 50]:List Fact) _)))
section
variable {l:List Nat}
def Iy (c:∀z∈l,z<256) (h:oz l=0):(lJ l).st.av.Ok∧bP (lJ l).st∧1≤(lJ l).next∧(lJ l).next≤281474976710657:=by
 have hc:=(xg (zj5 c h).1).1
 refine ⟨?_,?_,by omega,by omega⟩
 all_goals
  cases ho:fC l with
  |error k=>
   rw [(vR ho).1] at h
   have:=RP ho
   omega
  | ok p =>
   have a:=(R4 c ho).2.2.1
   by_cases h2:p.okB=true∧bJ p.qD=0
   ·rw [(R5 ho h2).2]
    first|exact zdl a|exact R3 a _ (.inl rfl)
   ·rw [(Mq ho h2).1] at h
    cases h
def Az (bs:List Bk):Prop:=(∀b∈bs,b.Ok∧abk b.evs≤4096)∧abk bs≤1000000
def qr8:∀(f:Nat) (l:List Nat),13*(qx f l).1.length≤abk l
 |0,l=>abx _
 | f + 1, l => by
  rw [qx]
  split
  ·exact abx _
  ·split
   ·exact abx _
   ·rename_i h
    obtain ⟨h1,h2,_⟩:=KO (l:=l) (b:=(dz l).1) (m:=(dz l).2.1) (by rw [←afz.1 h])
    have h3:=qr8 f (l.drop (dz l).2.1)
    rw [abH] at h3
    show 13*((qx f _).1.length+1)≤_
    omega
def qu2 (h:(readAll l).2=0):(readAll l).1.length≤1000000:=by
 rcases acj 524288 (abk l) with h5|h5
 ·rw [Xt h5] at h;cases h
 ·have h1:=qr8 (abk l) l
  by_cases a:(qx (abk l) l).2.2=0
  ·rw [Xv om a];show (qx (abk l) l).1.length≤_;omega
  ·rw [Xu om rfl a];exact abx _
def qnm:∀(f:Nat) (l:List Nat),iI l→∀b∈(qx f l).1,b.Ok∧abk b.evs≤4096
 |0,l,_=>λb a=>by cases a
 | f + 1, l, c => by
  rw [qx]
  split
  ·exact λb a=>by cases a
  ·split
   ·exact λb a=>by cases a
   ·rename_i h
    obtain ⟨h1,h2⟩:=q2u (b:=(dz l).1) (m:=(dz l).2.1) c (by rw [←afz.1 h])
    intro b a
    rcases abQ.1 a with rfl|a
    ·exact ⟨h1,by rw [h2];exact abx _⟩
    ·exact qnm f _ (c.drop _) b a
theorem q6r (hk:iI l) (h:(readAll l).2=0):Az (readAll l).1:=by
 refine ⟨λb a=>?_,qu2 h⟩
 unfold readAll at a
 split at a
 ·cases a
 ·unfold Bv at a
  split at a
  ·cases a
  ·exact qnm _ _ hk b a
end
def Tf (w:World) (b:List Nat) (x:Pl) (r:Ending) (w':World):Prop:=∃p:Pm,r= .returned (.tuple #[.agg p.cells,.int .i64 (kg b x:Int)])∧(kg b x=0→eU (lJ (bT b x.sn x.st)) p.z∧p.q.map ac0=(readAll (bT b x.st x.en)).1)∧gq p∧Mem w w' (jV p)
theorem q6t:gq Pm.zero:=by
 refine ⟨⟨?_,?_,?_,?_,?_,?_,?_⟩,⟨?_,?_,?_,?_,?_,?_⟩,qxb,?_,?_,?_,?_,?_⟩
 all_goals first|exact abx _|(intro z hz;cases hz)|(show (0:Nat)<_;decide)|(show aQ (0:Int);unfold aQ;decide)
section
variable {W w w':World} {F T:List Fact} {b:List Nat} {x:Pl}
theorem Mem.wC (h:Mem W w []):Mem W w (jV Pm.zero):=by
 exact ((((((h.nil 85 5).nil 176 1).nil 232 8).nil 3 1).nil 3 1).nil 198 2)
def Tg (c:(kg b x:Int)=n) (a:n≠0) (d:Mem W w []):Tf W b x (.returned (.tuple #[.agg Pm.zero.cells,.int .i64 n])) w:=by
 subst c
 exact ⟨Pm.zero,rfl,λh=>absurd (by rw [h];rfl) a,q6t,d.wC⟩
def zbj {z:cO} (hb:∀y∈b,y<256) (h1:oz (bT b x.sn x.st)=0) (h2:(lJ (bT b x.sn x.st)).next=(x.nx:Int)) (h3:(readAll (bT b x.st x.en)).2=0) (hz:eU (lJ (bT b x.sn x.st)) z) (a:fq z.st) (d:q.map ac0=(readAll (bT b x.st x.en)).1) (hc:abk q≤c) (h5:Az (readAll (bT b x.st x.en)).1) (i:Mem W w (jV ⟨z,A,c,q⟩)):Tf W b x (.returned (.tuple #[.agg (Pm.cells ⟨z,A,c,q⟩),.int .i64 0])) w:=by
 have j:kg b x=0:=(q6b h1 h2).trans h3
 have e:=Sd hb x.sn x.st
 obtain ⟨o1,k,n,o⟩:=Iy e h1
 obtain ⟨r1,m⟩:=h5
 have f:abk q=(readAll (bT b x.st x.en)).1.length:=by rw [←d,abv]
 refine ⟨⟨z,A,c,q⟩,by rw [j];rfl,λ_=>⟨hz,d⟩,⟨zdm hz o1,Yz (Lh hz) k,a,?_,λh g=>?_,λh g=>?_,by rw [f];exact m,hc⟩,i⟩
 ·show aQ z.next
  rw [←hz.1]
  unfold aQ
  omega
 ·exact (r1 h.b (by rw [←d];exact ac8 g)).1
 ·have:=(r1 h.b (by rw [←d];exact ac8 g)).2
  omega
end
def IC (b:List Nat) (x:Pl) (p:Pm):Prop:=kg b x=0→eU (lJ (bT b x.sn x.st)) p.z∧p.q.map ac0=(readAll (bT b x.st x.en)).1
section
variable {W w w':World} {a pa T F G es fr:List Fact} {p:Pm} {q:List Pm}
theorem Mem.ku (n:Nat) (h:Mem W w F) (k:Mem w w' G) (b:F.drop n=T):Mem W w' (F.take n++(G++T)):=by
 have h2:=h.pE k
 rw [←ab5 n F,b,abz] at h2
 exact h2.perm (adH _ adh)
end
def Ei (L:List Pl) (next:Int):Nat→Int×Nat
 |0=>(0,6)
 |k+1=>if ((L.getD k Pl.zero).nx:Int)≤next then ((k:Int),0) else Ei L next k
def jW (b:List Nat) (next:Int):Int×Nat:=if (bW b).2≠0 then (0,(bW b).2) else Ei (bW b).1 next (bW b).1.length
def jC (b:List Nat) (i:Int):Nat:=if (bW b).2≠0 then (bW b).2 else if i<0∨((bW b).1.length:Int)≤i then 2 else kg b ((bW b).1.getD i.toNat Pl.zero)
def IE (w:World) (b:List Nat) (i:Int) (r:Ending) (a:World):Prop:=∃p:Pm,r= .returned (.tuple #[.agg p.cells,.int .i64 (jC b i:Int)])∧(jC b i=0→IC b ((bW b).1.getD i.toNat Pl.zero) p)∧gq p∧Mem w a (jV p)
section
variable {W w:World} {b:List Nat} {L:List Pl} {i:Int} {ie k:Nat}
def Tn {e:Nat} (c:jC b i=e) (d:n=(e:Int)) (a:e≠0) (f:Mem W w []):IE W b i (.returned (.tuple #[.agg Pm.zero.cells,.int .i64 n])) w:=by
 subst c d
 exact ⟨Pm.zero,rfl,λh=>absurd h a,q6t,f.wC⟩
def zbk {x:Pl} {p:Pm} (hi:bW b=(L,0)) (h:i=(k:Int)) (hk:k<abk L) (a:L.getD k Pl.zero=x) (c:IC b x p) (d:gq p) (e:Mem W w (jV p)):IE W b i (.returned (.tuple #[.agg p.cells,.int .i64 (kg b x:Int)])) w:=by
 subst h a
 have f:jC b (k:Int)=kg b (L.getD k Pl.zero):=by unfold jC;rw [hi,if_neg (λh=>h rfl),if_neg (by show ¬((k:Int)<0∨(abk L:Int)≤(k:Int));omega)];rfl
 refine ⟨p,by rw [f],λ_=>?_,d,e⟩
 rw [hi]
 exact c
def zbl (hi:bW b=(L,ie)) (h:ie≠0):jC b i=ie:=by unfold jC;rw [hi];exact if_pos h
theorem qxp (hi:bW b=(L,0)) (h:i<0∨(abk L:Int)≤i):jC b i=2:=by grind [jC]
def zbm (hi:bW b=(L,ie)) (h:ie≠0):jW b n=(0,ie):=by unfold jW;rw [hi];exact if_pos h
def zhb (hi:bW b=(L,0)):jW b n=Ei L n (abk L):=by unfold jW;rw [hi];exact if_neg (λh=>h rfl)
end
def kK (next:Int):cO:=⟨next,⟨1,0,none,1,[⟨0,1⟩],none,1,[0],none,1,[0],none,0,[],none,1,[⟨none,1,[⟨0,0,0⟩]⟩]⟩⟩
def pR (next:Int):Pv:=⟨kK next,[fK 7]⟩
def cB:List Nat:=(nK [pR 1]).1
def zdq (w:World) (next:Int) (r:Ending) (a:World):Prop:=∃p:Pm,r= .returned (.agg p.cells)∧eU (kK next) p.z∧p.q.map ac0=[fK 7]∧gq p∧Mem w a (jV p)
def CX (x y:Pv):Prop:=eU x.s y.s∧x.bs=y.bs
inductive jX:List Pv→List Pv→Prop where
 |nil:jX [] []
 |cons {x y:Pv} {l m:List Pv} (h:CX x y) (t:jX l m):jX (x::l) (y::m)
theorem q6x:∀{l m:List Pv} (last:Int) (i:Nat),jX l m→ko m last i=ko l last i
 |_,_,_,_,.nil=>rfl
 |_,_,last,i,.cons h t=>by
  rw [ko,ko,Ga h.1,h.2,h.1.1,q6x _ _ t]
theorem zdr (h:jX l m):abk m=abk l:=by induction h<;>grind
theorem Tp (h:jX l m):mU m=mU l:=by
 unfold mU
 rw [zdr h,q6x _ _ h]
theorem q6y (h:jX l m) (i:Nat):CX (l.getD i Pv.zero) (m.getD i Pv.zero):=by
 induction h generalizing i with
 |nil=>exact ⟨qr2 _,rfl⟩
 |cons h _ a=>
  cases i with
  |zero=>exact h
  |succ i=>exact a i
theorem zds (h:jX l m):∀i,stA m i=stA l i
 |0=>rfl
 |i+1=>by
  rw [stA,stA,zds h i]
  unfold pO
  rw [Yy (q6y h i).1,(q6y h i).2]
theorem zbn (h:jX l m):m.flatMap jm=l.flatMap jm:=by
 induction h with
 |nil=>rfl
 |cons h _ a=>
  rw [abL,abL,a]
  unfold jm
  rw [Yy h.1,h.2,h.1.1]
theorem q6z (h:jX l m):nK m=nK l:=by grind [Tp,headA,zdr,lK,zbn,zds,nK]
theorem nR {p:Pm} (h:eU (kK n) p.z) (a:p.q.map ac0=[fK 7]):CX (pR n) p.v:=⟨h,a.symm⟩
set_option maxRecDepth 100000 in
theorem zbo:nK [pR 1]=(cB,0):=by kernel_rfl
set_option maxRecDepth 100000 in
theorem Tq:bW cB=([⟨1,11,26,39⟩],0):=by kernel_rfl
set_option maxRecDepth 100000 in
theorem zkc:kg cB ⟨1,11,26,39⟩=0:=by kernel_rfl
set_option maxRecDepth 100000 in
theorem IG:(readAll (bT cB 26 39)).1=[fK 7]:=by kernel_rfl
set_option maxRecDepth 100000 in
theorem II:mU [pR 1,pR 0]=(1,330):=by kernel_rfl
set_option maxRecDepth 100000 in
theorem IJ:mU [pR 1,pR 5,pR 4]=(2,411):=by kernel_rfl
def I6 (n:Int) (a b c d e f:Nat):Pm:=⟨⟨n,(MX a b c d e).st⟩,some ⟨f,0,none⟩,1,[⟨fK 7,none,0⟩]⟩
section
variable {W w w':World} {n:Int} {a b c d e f:Nat} {F S S2 T:List Fact} {p q s:Pm} {r:Ending}
def I7 (g:aQ n) (h:Mem W w [.blk a #[.int .i64 0,.int .i64 1] 198,.blk b #[.int .i64 0] 3,.blk c #[.int .i64 0] 3,.blk e #[.slice (some ⟨d,0,none⟩) 1 1] 176,.blk d #[.int .u64 0,.int .u32 0,.int .u64 0] 200,.blk f #[.int .u8 2,.int .u8 0,.int .i64 0,.int .i64 7,.slice none 0 0] 85]):zdq W n (.returned (.agg (I6 n a b c d e f).cells)) w:=by
 have h1:=h.eB (i:=0) (n:=1) (size:=2) rfl rfl de
 have h2:=h1.eB (i:=1) (n:=1) (size:=1) rfl rfl de
 have h3:=h2.eB (i:=2) (n:=1) (size:=1) rfl rfl de
 have h4:=h3.eB (i:=3) (n:=1) (size:=1) rfl rfl de
 have h5:=h4.eB (i:=4) (n:=1) (size:=3) rfl rfl de
 have h6:=h5.eB (i:=5) (n:=1) (size:=5) rfl rfl de
 have h7:=(h6.nil 232 8).nil 73 11
 exact ⟨I6 n a b c d e f,rfl,uZ rfl ⟨⟨rfl,rfl,rfl⟩,rfl,rfl,rfl,rfl⟩,rfl,⟨zkn,zhq,zhr,g,xD (ze0 (by unfold aQ;decide)),xD (abx _),by show 1≤1000000;decide,abo _⟩,h7.picks [2,3,4,1,5,6,7,0] de rfl⟩
theorem Mem.TR (n:Nat) (h:Mem W w F) (g:F.drop n=jV p++T):dL w p:=h.yQ λf i=>abU (g▸acZ _ i)
theorem Mem.I8 (n:Nat) (h:Mem W w F) (g:F.drop n=S++(jV p++T)):dL w p:=h.yQ λf i=>abU (g▸acA _ (acZ _ i))
theorem Mem.TS (n:Nat) (h:Mem W w F) (g:F.drop n=S++(S2++(jV p++T))):dL w p:=h.yQ λf i=>abU (g▸acA _ (acA _ (acZ _ i)))
def zhs (h:gq p) (k:dL w p):∀x∈[p],gq x∧dL w x:=xD (p:=λx=>gq x∧dL w x) ⟨h,k⟩
theorem zht (h:gq p) (k:dL w p) (h2:gq q) (k2:dL w q):∀x∈[p,q],gq x∧dL w x:=by grind
theorem zhu (h:gq p) (k:dL w p) (h2:gq q) (k2:dL w q) (h3:gq s) (g:dL w s):∀x∈[p,q,s],gq x∧dL w x:=by grind
end
def l5:List Nat:=(nK []).1
set_option maxRecDepth 100000 in
theorem AJ:nK []=(l5,0)∧l5=[113,97,1,0]++l5.drop 4∧l5.length=8:=by refine ⟨?_,?_,?_⟩<;>kernel_rfl
set_option maxRecDepth 100000 in
theorem zko:cB=[113,97,1,1,1,15,13]++cB.drop 7:=by kernel_rfl
set_option maxRecDepth 100000 in
theorem pV:cB.length=39:=by kernel_rfl
set_option maxRecDepth 100000 in
theorem rV:∀x∈cB,x<256:=by
 have h:(cB.all λx=>decide (x<256))=true:=by kernel_rfl
 exact λx g=>of_decide_eq_true (List.all_eq_true.1 h x g)
set_option maxRecDepth 100000 in
theorem zhv:bW (cB++[0])=([],410):=by kernel_rfl
set_option maxRecDepth 100000 in
theorem I9:jW cB 9=(0,0)∧jW cB 0=(0,6)∧jC cB 0=0∧jC cB 1=2:=by refine ⟨?_,?_,?_,?_⟩<;>kernel_rfl
set_option maxRecDepth 100000 in
theorem Jd:(lJ (bT cB 11 26)).next=1:=by kernel_rfl
theorem zkp:∀x∈cB++[0],x<256:=by decide
def zhw {m:Nat} (h:Rd w B 1 A m (cB.map B8)) (hm:m=39):Rd w B 1 A 7 ([113,97,1,1,1,15,13].map B8):=by
 rw [zko] at h
 exact Rd.pre h rfl om
def zhx {m:Nat} (h:Rd w B 1 A m (l5.map B8)) (hm:m=8):Rd w B 1 A 4 ([113,97,1,0].map B8):=by
 rw [AJ.2.1] at h
 exact Rd.pre h rfl om
def Jm (w:World) (r:Ending) (w':World):Prop:=∃(z:aC) (g c:Nat) (h:Hb),r= .returned (.tuple #[.agg #[.int .i64 1,.int .i64 z.ak,.int .u64 (z.aj:Int),.slice z.gA (abk z.gs) z.gc,.slice z.lA (abk z.cl) z.lc,.slice z.uA (abk z.cu) z.uc,.slice z.tA (abk z.ts) z.tc,.slice z.sA (abk z.rs) z.sc,.slice (some ⟨g,0,none⟩) 1 c],.int .i64 0])∧h.b=fK 7∧Mem w w' [.row (.slice (some ⟨g,0,none⟩) 1 c) 1 ([h].flatMap hbL) 85 5]
def zhy {w':World} (h:IE w cB 0 r w'):Jm w r w':=by
 obtain ⟨⟨⟨nx,z⟩,A,c,q⟩,rfl,k,l,hm⟩:=h
 rw [I9.2.2.1]
 have h1:=k I9.2.2.1
 rw [Tq] at h1
 obtain ⟨h2,h3⟩:=h1 zkc
 have h4:(lJ (bT cB 11 26)).next=nx:=h2.1
 rw [Jd] at h4
 subst h4
 have h5:q.map ac0=[fK 7]:=h3.trans IG
 obtain ⟨h,t,rfl,m,ht⟩:=List.map_eq_cons_iff.1 h5
 obtain rfl:=List.map_eq_nil_iff.1 ht
 have j:Mem w w' [.row (.slice A 1 c) 1 ([h].flatMap hbL) 85 5]:=hm.lS (List.sublist_append_of_sublist_right (ag1 _ (List.nil_sublist _)))
 obtain ⟨g,rfl⟩:=zl (j.own (i:=0) rfl) de
 exact ⟨z,g,c,h,rfl,m,j⟩
def zbw {w':World} (h:IE w cB 1 r w'):∃p:Pm,r= .returned (.tuple #[.agg p.cells,.int .i64 2])∧Below w.heap.size w w':=by
 obtain ⟨p,rfl,_,_,hm⟩:=h
 rw [I9.2.2.2]
 exact ⟨p,rfl,hm.below⟩
def Jt:oO abl 4 57 (.agg (Pl.cells ⟨1,11,26,39⟩)) (.agg #[.int .i64 1,.int .i64 11,.int .i64 26,.int .i64 39])=some true:=by kernel_rfl
set_option maxRecDepth 100000 in
theorem q7d:∀x∈(bW cB).1,iI (bT cB x.st x.en):=λx g=>by
 rw [Tq] at g
 rw [List.mem_singleton.1 g]
 exact zet kr
structure Ap where
 n:bZ
 A:Option Addr
 c:Nat
 l:List iM
 gap:Nat
 B:Option Addr
 d:Nat
 q:List fD
def Ap.zero:Ap:=⟨⟨0,0,0,[],[]⟩,none,0,[],0,none,0,[]⟩
def Ap.cells (x:Ap):Array Value:= #[.int .u8 (x.n.ak:Int),.int .u8 (x.n.groups:Int),.int .u32 (x.n.aj:Int),.int .u8 (x.n.ps.getD 0 0:Int),.int .u8 (x.n.ps.getD 1 0:Int),.int .u8 (x.n.ps.getD 2 0:Int),.int .u8 (x.n.ps.getD 3 0:Int),.int .u8 (x.n.ps.getD 4 0:Int),.int .u16 (x.n.ws.getD 0 0:Int),.int .u16 (x.n.ws.getD 1 0:Int),.int .u16 (x.n.ws.getD 2 0:Int),.int .u16 (x.n.ws.getD 3 0:Int),.int .u16 (x.n.ws.getD 4 0:Int),.slice x.A (abk x.l) x.c,.int .u32 (x.gap:Int),.slice x.B (abk x.q) x.d]
def sW (x:Ap):List Value:=x.cells.toList
theorem Tt (x:Ap):abk (sW x)=16:=rfl
theorem zkh (x:Ap):∀v∈x.cells.toList,v.oneCell'=true:=by simp [Ap.cells,Value.oneCell']
theorem AB:SI abl 104 16:=⟨by kernel_rfl,by kernel_rfl⟩
theorem rT:EI abl 22 104 (.agg Ap.zero.cells) 16 80:=⟨by kernel_rfl,by kernel_rfl,rfl,by omega⟩
def five {l:List α} (h:abk l=5):∃a b c d e,l=[a,b,c,d,e]:=by
 match l,h with
 |[a,b,c,d,e],_=>exact ⟨a,b,c,d,e,rfl⟩
theorem zdv {n:bZ} (h:n.Ok):(#[.int .u8 (n.ak:Int),.int .u8 (n.groups:Int),.int .u32 (n.aj:Int),.int .u8 (n.ps.getD 0 0:Int),.int .u8 (n.ps.getD 1 0:Int),.int .u8 (n.ps.getD 2 0:Int),.int .u8 (n.ps.getD 3 0:Int),.int .u8 (n.ps.getD 4 0:Int),.int .u16 (n.ws.getD 0 0:Int),.int .u16 (n.ws.getD 1 0:Int),.int .u16 (n.ws.getD 2 0:Int),.int .u16 (n.ws.getD 3 0:Int),.int .u16 (n.ws.getD 4 0:Int)]:Array Value)=n.cells:=by
 obtain ⟨c,g,r,ps,ws⟩:=n
 obtain ⟨a,b,c,d,e,rfl⟩:=five h.pl
 obtain ⟨a,b,c,d,e,rfl⟩:=five h.wl
 rfl
structure jD (W:World) (x:Ap):Prop where
 n:x.n.Ok
 l:∀y∈x.l,y.Ok
 lc:abk x.l≤x.c
 ln:abk x.l≤9223372036854775807
 lr:Rd W W.heap.size 8 x.A (abk x.l) (x.l.flatMap yJ)
 gap:x.gap<4294967296
 q:∀y∈x.q,oZ W y
 qc:abk x.q≤x.d
 qn:abk x.q≤9223372036854775807
 qr:Rd W W.heap.size 6 x.B (abk x.q) (x.q.flatMap xW)
def iN:List Ap→Nat→Nat
 |x::l,j+1=>x.gap+iN l j
 |_,_=>0
section
variable {l:List Ap} {i j:Nat} {x:Ap} {p:Pm} {qs:List Pm}
theorem Tv:iN l 0=0:=by cases l<;>rfl
theorem Tw:∀{l:List Ap} {i:Nat},i<abk l→iN l (i+1)=iN l i+(l.getD i Ap.zero).gap
 |x::l,0,_=>by show x.gap+iN l 0=iN (x::l) 0+x.gap;rw [Tv,Tv];omega
 |x::l,i+1,h=>by
  show x.gap+iN l (i+1)=x.gap+iN l i+(l.getD i Ap.zero).gap
  rw [Tw (afQ h),Nat.add_assoc]
def zhf (h:∀x∈l,x.gap<4294967296):iN l i≤i*4294967296:=by
 induction l generalizing i with
 |nil=>exact abx _
 | cons x l d =>
  cases i with
  |zero=>exact abx _
  |succ i=>
   have h1:=d (i:=i) (λy e=>h y (ab2 _ e))
   have h2:=h x (acB ..)
   show x.gap+iN l i≤_
   omega
structure mJ (x:Ap) (nx:Nat) (p:Pm):Prop where
 sn:dQ p.z
 good:GoodS p.z.st.av
 ids:eP 12 p.z.st.ts
 nx:p.z.next=1+(nx:Int)
 bl:p.q.map ac0=qP (x.q.take 5)
 qc:abk p.q≤p.c
def jY (l:List Ap) (qs:List Pm) (i:Nat):Prop:=abk qs=i∧∀j,j<i→mJ (l.getD j Ap.zero) (iN l (j+1)) (qs.getD j Pm.zero)
def zbt:jY l [] 0:=⟨rfl,λj h=>absurd h (Nat.not_lt_zero j)⟩
theorem zki (h:jY l qs i) (d:l.getD i Ap.zero=x) (e:mJ x (iN l (i+1)) p):jY l (qs++[p]) (i+1):=by
 refine ⟨by rw [abm,h.1];rfl,λj f=>?_⟩
 rw [abn (l:=qs++[p])]
 rcases acj j i with h1|h1
 ·rw [aeh (by rw [h.1];exact h1),←abn]
  exact h.2 j h1
 ·obtain rfl:j=i:=by omega
  rw [ac9 (by rw [h.1];exact abo _),h.1,adN,d]
  exact e
end
section
variable {W w:World} {a:List Fact} {l:List Pm} {z:cO} {A:Option Addr} {c:Nat} {b:List Hb}
def aaP (h:Mem W w (.row (.slice A (abk b) c) (abk b) (b.flatMap hbL) 85 5::(a++(gJ 73 b++(dn l++iU z.st))))):Mem W w (a++dn (l++[⟨z,A,c,b⟩])):=by
 rw [q6d]
 refine h.perm (List.perm_middle.symm.trans (adH a ?_))
 have h1:=adh (l₁:=ae9 (.slice A (abk b) c) (abk b) (b.flatMap hbL) 85 5::gJ 73 b) (l₂:=dn l++iU z.st)
 rw [abz (dn l)] at h1
 exact h1
def IL (w:World) (l:List Ap) (r:Ending) (d:World):Prop:=∃(A:Option Addr) (c:Nat) (q:List Pm),r= .returned (.tuple #[.slice A (abk q) c,.bool true])∧jY l q (abk (l.take 4))∧abk q≤c∧Mem w d (.row (.slice A (abk q) c) (abk q) (q.flatMap iB) 53 9::dn q)
end
section
variable {b r:List Nat} {p m y:Nat}
def MU (h:b.drop p=au y++r) (hy:y≤m) (hm:m<18446744073709551616):eO b p m=true∧dF b p m=y∧bg b p=p+abk (au y)∧b.drop (bg b p)=r:=by
 have a:aB (b.drop p)=(y,abk (au y),0):=by rw [h];exact KM r om
 have c:bg b p=p+abk (au y):=by unfold bg;rw [a]
 refine ⟨?_,?_,c,?_⟩
 ·unfold eO ji;rw [a];exact decide_eq_true ⟨rfl,hy⟩
 ·unfold dF bK;rw [a];exact if_neg (by show ¬m<y;omega)
 ·rw [c,←List.drop_drop,h,List.drop_left]
end
def qX:Nat→List Pv→List Pl
 |_,[]=>[]
 |s,x::l=>⟨aH x.s.next,s,s+abk (dh x.s),s+abk (dh x.s)+(zc x.bs).1.length⟩::qX (s+abk (dh x.s)+(zc x.bs).1.length) l
def wD:Nat→List Pv→Nat
 |s,[]=>s
 |s,x::l=>wD (s+abk (dh x.s)+(zc x.bs).1.length) l
def nS:Nat→List Pv→Prop
 |_,[]=>True
 |a,x::l=>a≤aH x.s.next∧nS (aH x.s.next) l
structure IX (x:Pv):Prop where
 nx:aH x.s.next≤4611686018427387904
 sn:abk (dh x.s)≤16777216
 bl:(zc x.bs).1.length≤16777216
def q64 {r:List Nat}:∀(lv:List Pv) (p last s:Nat),(∀x∈lv,IX x)→nS last lv→b.drop p=(lv.flatMap jm).flatMap au++r→jU b (abk lv) p last s=some (qX s lv,p+abk ((lv.flatMap jm).flatMap au),wD s lv)
 |[],p,last,s,_,_,_=>rfl
 | x :: l, p, last, s, c, hs, h => by
  have a:=c x (acB ..)
  have e:((x::l).flatMap jm).flatMap au=au (aH x.s.next)++(au (abk (dh x.s))++(au (zc x.bs).1.length++(l.flatMap jm).flatMap au)):=by
   rw [abL,abO]
   show (au _++(au _++(au _++[])))++_=_
   rw [abN,abz,abz]
  rw [e,abz,abz,abz] at h
  obtain ⟨o1,v1,f,g⟩:=MU h a.nx om
  obtain ⟨o,t,u,v⟩:=MU g a.sn om
  obtain ⟨w,z,A,B⟩:=MU v a.bl om
  have C:sU b p=true:=by unfold sU;rw [o1,o,w];rfl
  have d:kW b p=aH x.s.next:=v1
  have D:kX b p=abk (dh x.s):=t
  have E:mI b p=(zc x.bs).1.length:=z
  have F:=q64 l (rowP b p) (aH x.s.next) (s+abk (dh x.s)+(zc x.bs).1.length) (λy G=>c y (ab2 _ G)) hs.2 B
  rw [abX,jU,if_pos ⟨C,by rw [d];exact hs.1⟩,d,D,E,F,e]
  have H:rowP b p+abk ((l.flatMap jm).flatMap au)=p+abk (au (aH x.s.next)++(au (abk (dh x.s))++(au (zc x.bs).1.length++(l.flatMap jm).flatMap au))):=by
   unfold rowP
   rw [abm,abm,abm,A,u,f]
   omega
  rw [H]
  rfl
def jE (lv:List Pv) (i:Nat):List Nat:=(lv.take i).flatMap λx=>dh x.s++(zc x.bs).1
section
variable {lv:List Pv} {i k:Nat}
theorem Tz (h:i<abk lv):jE lv (i+1)=jE lv i++dh (lv.getD i Pv.zero).s++(zc (lv.getD i Pv.zero).bs).1:=by
 unfold jE
 rw [xV Pv.zero h,abO,abL,aeg,abN,abz]
theorem qxt:∀(lv:List Pv) (s:Nat),wD s lv=s+abk (jE lv (abk lv))
 |[],s=>rfl
 |x::l,s=>by
  have a:=qxt l (s+abk (dh x.s)+(zc x.bs).1.length)
  unfold jE at a⊢
  rw [adn] at a⊢
  rw [abL,abm,abm]
  show wD _ l=_
  omega
structure iG (x:Pv):Prop where
 nL:bJ x.s=0
 bl:dN x.bs=0
 ws:(zc x.bs).2=0
 sn:abk (dh x.s)≤600000
 nx:1≤x.s.next∧x.s.next≤281474976710657
def iG.fit {x:Pv} (h:iG x):IX x:=⟨by have:=h.nx;unfold aH;omega,by have:=h.sn;omega,by have:=KU x.bs;omega⟩
theorem iG.aH {x:Pv} (h:iG x):(aH x.s.next:Int)=x.s.next:=by have:=h.nx;unfold Go.Proofs.YtekiimhdnigmcaaGreatDoor.aH;omega
def TA (a:∀x∈lv,iG x):∀i,i≤abk lv→abk (jE lv i)≤i*1124288
 |0,_=>abx _
 |i+1,h=>by
  have c:=TA a i om
  have h1:=a _ (qe Pv.zero (show i<abk lv by omega))
  have h2:=h1.sn
  have h3:=KU (lv.getD i Pv.zero).bs
  rw [Tz om,abm,abm]
  omega
theorem TB (a:∀x∈lv,iG x) (c:abk lv≤8):∀i,i≤abk lv→stA lv i=(jE lv i,false)
 |0,_=>rfl
 | i + 1, h => by
  have h1:=a _ (qe Pv.zero (show i<abk lv by omega))
  have d:=TA a (i+1) h
  rw [Tz om,abm,abm] at d
  rw [stA,TB a c i om,Tz om]
  unfold pO
  refine if_neg ?_
  rw [adE,adE,decide_eq_true_eq,decide_eq_true_eq]
  rintro ((h2|h2)|h2)
  ·cases h2
  ·exact h2 h1.ws
  ·have h2:16777216<abk (jE lv i)+abk (dh (lv.getD i Pv.zero).s)+(zc (lv.getD i Pv.zero).bs).1.length:=h2
   omega
theorem qsc (c:∀x∈lv,iG x):∀(l:List Pv) (last:Nat) (i:Nat),(∀x∈l,iG x)→nS last l→ko l (last:Int) i=(-1,0)
 |[],_,_,_,_=>rfl
 |x::l,last,i,h,hs=>by
  have a:=h x (acB ..)
  have d:=a.aH
  have h1:=hs.1
  rw [ko,if_neg (λn=>n a.nL),if_neg (λn=>n a.bl),if_neg om,←d]
  exact qsc c l _ _ (λy e=>h y (ab2 _ e)) hs.2
theorem qsd:∀lv:List Pv,abk (lv.flatMap jm)=3*abk lv
 |[]=>rfl
 |x::l=>by rw [abL,abm,qsd l,abX];show 3+_=_;omega
theorem TD:∀(lv:List Pv) (s:Nat),abk (qX s lv)=abk lv
 |[],_=>rfl
 |x::l,s=>by rw [qX,abX,TD l,abX]
theorem q65:∀(lv:List Pv) (s i:Nat),i<abk lv→((qX s lv).getD i Pl.zero).nx=aH (lv.getD i Pv.zero).s.next
 |x::l,s,0,_=>rfl
 |x::l,s,i+1,h=>q65 l _ i (afQ h)
structure WrA (lv:List Pv) (L:List Pl) (bs:List Nat):Prop where
 nL:mU lv=(-1,0)
 wr:nK lv=(bs,0)
 idx:bW bs=(L,0)
 len:abk L=abk lv
 nx:∀i,i<abk lv→((L.getD i Pl.zero).nx:Int)=(lv.getD i Pv.zero).s.next
 few:abk bs≤16777216
def zhj (c:∀x∈lv,iG x) (hs:nS 0 lv) (u:abk lv≤8):∃L bs,WrA lv L bs:=by
 have hc:mU lv=(-1,0):=by unfold mU;rw [if_neg om];exact qsc c lv 0 0 c hs
 have f:=TB c u (abk lv) (abo _)
 have v:=TA c (abk lv) (abo _)
 obtain ⟨h,d⟩:∃h,h=[113,97,1]++(lK lv (abk lv)).flatMap au:=⟨_,rfl⟩
 have a:lK lv (abk lv)=abk lv::lv.flatMap jm:=by unfold lK;rw [adn]
 have w:abk h≤3+10*(1+3*8):=by
  have h1:=zm (lK lv (abk lv))
  have h2:=qsd lv
  rw [d,abm,show abk ([113,97,1]:List Nat)=3 from rfl]
  rw [a,abX,h2] at h1
  rw [a]
  omega
 have z:headA lv=bA h:=by unfold headA;rw [d]
 have e:abk (bA h)=abk h+4:=uq h
 have A:nK lv=(bA h++jE lv (abk lv),0):=by
  unfold nK
  rw [hc,f,z,if_neg (λn=>n rfl)]
  refine if_neg ?_
  rintro (h1|h1)
  ·cases h1
  ·have h1:16777216<abk (bA h)+abk (jE lv (abk lv)):=h1
   omega
 have g:abk (bA h++jE lv (abk lv))=abk h+4+abk (jE lv (abk lv)):=by rw [abm,e]
 obtain ⟨t,ht⟩:∃t,bA h=h++t:=⟨_,rfl⟩
 have B:(bA h++jE lv (abk lv)).drop 3=au (abk lv)++((lv.flatMap jm).flatMap au++(t++jE lv (abk lv))):=by
  rw [ht,d,a,abL]
  show (au (abk lv)++(lv.flatMap jm).flatMap au)++t++_=_
  rw [abz,abz]
 have o:(bA h++jE lv (abk lv)).take 3=[113,97,1]:=by rw [ht,d];rfl
 obtain ⟨o1,v1,C,D⟩:=MU (m:=1024) B om om
 have hi:=q64 lv (bg (bA h++jE lv (abk lv)) 3) 0 0 (λx E=>(c x E).fit) hs D
 have F:bg (bA h++jE lv (abk lv)) 3+abk ((lv.flatMap jm).flatMap au)=abk h:=by
  rw [C,d,a,abL,abm,abm]
  show 3+_+_=3+_
  omega
 rw [F] at hi
 refine ⟨(qX 0 lv).map (Pl.up (abk h+4)),_,hc,A,?_,by rw [abv,TD],λi hi=>?_,by omega⟩
 ·refine zdn (s:=wD 0 lv) om o (by rw [o1,v1];exact hi) ⟨by omega,?_,by rw [qxt,g];omega⟩
  rw [←e,List.take_left]
  exact qsx
 ·rw [abn,adb,getD_at Pl.zero (by rw [TD];exact hi)]
  show ((((qX 0 lv).getD i Pl.zero).nx:Nat):Int)=_
  rw [q65 lv 0 i hi,(c _ (qe Pv.zero hi)).aH]
end
section
variable {L:List Pl} {n:Int} {k:Nat}
structure TF (L:List Pl) (n:Int) (k:Nat) (i:Nat):Prop where
 lt:i<k
 le:((L.getD i Pl.zero).nx:Int)≤n
 gt:∀j,i<j→j<k→n<((L.getD j Pl.zero).nx:Int)
end
section
variable {l:List Ap} {q:List Pm} {x:Ap} {p:Pm} {i j nx:Nat}
def q66 {t:List Tk} (hs:d9 t) (h1:∀y∈t,1≤y.id):∀i,i<abk t→(i:Int)+1≤(t.getD i Tk.zero).id
 |0,h=>by have:=h1 _ (qe Tk.zero h);omega
 |i+1,h=>by
  have h2:=q66 hs h1 i om
  have h3:=hs i (i+1) om h
  omega
def IY {s:aY} (a:GoodS s) (c:eP 12 s.ts):abk s.ts≤12:=by
 rcases acn (abk s.ts) with h|h
 ·omega
 ·have h1:=q66 a.sh.sort (λy d=>(a.sh.tasks y d).id.1) (abk s.ts-1) om
  have h2:=c _ (qe Tk.zero (show abk s.ts-1<abk s.ts by omega))
  omega
end
def q67 {s:cO} (hs:dQ s) (a:GoodS s.st.av) (b:eP 12 s.st.ts):abk (dh s)≤600000:=by
 have c:=BP hs.nL
 obtain ⟨h0,h1,h2,h3,h4,_,h6⟩:=Yk c
 have d:abk s.st.ts≤12:=IY a b
 have h5:abk (aG s 5)≤97:=by
  have:=FM (f:=λi=>l8 (qo s.st.ts i) (s.st.ts.getD i Tk.zero)) (m:=8) (λi=>abo 8) (abk s.st.ts)
  show abk (dW (abk s.st.ts) λi=>l8 (qo s.st.ts i) (s.st.ts.getD i Tk.zero))+1≤97
  omega
 have e:abk (dX s)≤50000:=by rw [DC];simp only [abm];omega
 have:=zm (dX s)
 rw [DF hs.nL,uq,Le]
 omega
def qno:∀(bs:List Bk),abk (dP bs)≤abk bs*4096
 |[]=>abx _
 |b::t=>by
  have h1:=qno t
  have h2:=Oz b
  unfold dP at h1⊢
  rw [abL,abm,abX]
  omega
def qxu:∀(b:List Pv) (a:Nat),(∀j,j<abk b→a≤aH (b.getD j Pv.zero).s.next)→(∀i j,i<j→j<abk b→aH (b.getD i Pv.zero).s.next≤aH (b.getD j Pv.zero).s.next)→nS a b
 |[],_,_,_=>trivial
 |x::l,a,h1,h2=>⟨h1 0 (agW _),qxu l _ (λj c=>h2 0 (j+1) (agW _) (ae5 c)) (λi j hi c=>h2 (i+1) (j+1) (ae5 hi) (ae5 c))⟩
section
variable {w w' W:World} {fs:List Fact} {l:List Ap} {q:List Pm} {x:Ap} {p:Pm} {i j nx K:Nat}
theorem jD.old (h:jD W x) (b:Mem W w fs):jD w x:=⟨h.n,h.l,h.lc,h.ln,b.old h.lr,h.gap,λy a=>⟨(h.q y a).ok,(h.q y a).hc,(h.q y a).hm,b.old (h.q y a).rd⟩,h.qc,h.qn,b.old h.qr⟩
def q68 (h:i≤j):iN l i≤iN l j:=by
 induction l generalizing i j with
 |nil=>exact abo _
 | cons x l a =>
  cases i with
  |zero=>exact abx _
  |succ i=>
   cases j with
   |zero=>omega
   |succ j=>exact Nat.add_le_add_left (a om) _
def zhk (d:jD W x) (a:mJ x nx p):iG p.v:=by
 have c:=XF (W:=W) (l:=x.q.take 5) (λy e=>d.q y (ach e))
 have g:abk (qP (x.q.take 5))≤5:=by rw [OZ,abu];omega
 have k:=qno (qP (x.q.take 5))
 have f:dN (qP (x.q.take 5))=0:=Xx λb h=>(c b h).2
 refine ⟨a.sn.nL,?_,?_,q67 a.sn a.good a.ids,(xg a.sn.nL).1⟩
 ·show dN (p.q.map ac0)=0
  rw [a.bl];exact f
 ·show (zc (p.q.map ac0)).2=0
  rw [a.bl,qyt (λb h=>(c b h).2) om]
def IZ (d:jD W x) (a:mJ x nx p):gq p:=by
 have e:=XF (W:=W) (l:=x.q.take 5) (λy c=>d.q y (ach c))
 have f:=q3b (W:=W) (l:=x.q.take 5) (λy c=>d.q y (ach c))
 have g:abk p.q≤5:=by have h:=congrArg adw a.bl;rw [abv,OZ,abu] at h;omega
 have h1:=(xg a.sn.nL).1
 exact ⟨a.sn.ok,a.sn.few,a.sn.cap,by unfold aQ;omega,zQ a.bl (λb h=>(e b h).1),zQ a.bl (p:=λb=>abk b.evs≤1000000) f,by omega,a.qc⟩
theorem TG (h:jY l q K) (a:j<K):(q.getD j Pm.zero).z.next=1+(iN l (j+1):Int):=(h.2 j a).nx
def TH (h:jY l q K) (d:K≤abk l) (b:∀x∈l,jD W x) (c:p∈q):∃x nx,jD W x∧mJ x nx p:=by
 obtain ⟨j,a,rfl⟩:=acz c
 have h1:=h.2 j (by rw [←h.1];exact a)
 rw [abn (l:=q),abt a] at h1
 exact ⟨_,_,b _ (qe Ap.zero (by have:=h.1;omega)),h1⟩
theorem wE (h:j<abk q):(q.map Pm.v).getD j Pv.zero=(q.getD j Pm.zero).v:=by rw [abn,adb,getD_at Pm.zero h];rfl
structure lN (q:List Pm) (L:List Pl) (bs:List Nat):Prop where
 wr:WrA (q.map Pm.v) L bs
 len:abk L=abk q
 nx:∀j,j<abk q→((L.getD j Pl.zero).nx:Int)=(q.getD j Pm.zero).z.next
 up:∀i j,i≤j→j<abk q→(q.getD i Pm.zero).z.next≤(q.getD j Pm.zero).z.next
 i64:∀j,j<abk q→1≤(q.getD j Pm.zero).z.next∧(q.getD j Pm.zero).z.next≤281474976710657
 ok:∀p∈q,gq p
 good:∀p∈q,iG p.v
 lt:∀z∈bs,z<256
def zkj (h:jY l q K) (s:K≤abk l) (h8:K≤4) (t:∀x∈l,jD W x):∃L bs,lN q L bs:=by
 have k:∀x∈q.map Pm.v,iG x:=λy c=>by
  obtain ⟨p,f,rfl⟩:=acd.1 c
  obtain ⟨x,nx,h1,h2⟩:=TH h s t f
  exact zhk h1 h2
 have m:∀i j,i≤j→j<abk q→(q.getD i Pm.zero).z.next≤(q.getD j Pm.zero).z.next:=λi j hi a=>by
  have B:=h.1
  rw [TG h om,TG h om]
  have:=q68 (l:=l) (show i+1≤j+1 by omega)
  omega
 have g:∀j,j<abk q→1≤(q.getD j Pm.zero).z.next∧(q.getD j Pm.zero).z.next≤281474976710657:=λj a=>(k _ (acd.2 ⟨_,qe Pm.zero a,rfl⟩)).nx
 have d:abk (q.map Pm.v)=abk q:=abv _
 have hs:nS 0 (q.map Pm.v):=qxu _ _ (λj a=>abx _) λi j hi a=>by
  rw [d] at a
  rw [wE om,wE a]
  show aH (q.getD i Pm.zero).z.next≤aH (q.getD j Pm.zero).z.next
  have h1:=m i j om a
  have h2:=g i om
  have h3:=g j a
  unfold aH
  omega
 have n:abk (q.map Pm.v)≤8:=by have:=h.1;omega
 obtain ⟨L,bs,o⟩:=zhj k hs n
 have u:∀p∈q,gq p:=λp f=>by
  obtain ⟨x,nx,h1,h2⟩:=TH h s t f
  exact IZ h1 h2
 refine ⟨L,bs,o,by rw [o.len,d],λj a=>?_,m,g,u,λp f=>k _ (acd.2 ⟨p,f,rfl⟩),?_⟩
 ·rw [o.nx j om,wE a]
  rfl
 ·have e:=o.wr
  unfold nK at e
  split at e
  ·injection e with e _;subst e;intro z hz;cases hz
  ·split at e
   ·injection e with e _;subst e;intro z hz;cases hz
   ·rename_i C _
    injection e with e _
    subst e
    intro z hz
    rcases abV.1 hz with hz|hz
    ·unfold headA at hz
     refine NZ (λy c=>?_) z hz
     rcases abV.1 c with c|c
     ·have:∀y∈([113,97,1]:List Nat),y<256:=by decide
      exact this y c
     ·exact Yn y c
    ·rw [TB k n _ (abo _)] at hz
     obtain ⟨x,r,hz⟩:=acK.1 hz
     rw [adn] at r
     obtain ⟨p,f,rfl⟩:=acd.1 r
     rcases abV.1 hz with hz|hz
     ·rw [DF (k _ r).nL] at hz
      exact NZ (Yo _) z hz
     ·exact q29 (λb A=>by obtain ⟨y,c,rfl⟩:=acd.1 A;exact (u p f).Cx y c) z hz
end
def Pm.xC (x:Pm):Pm:={x with z:={x.z with st:={x.z.st with cl:=[],lA:=none,lc:=0}}}
def Pm.qE (x:Pm) (v:Int):Pm:={x with z:={x.z with next:=v}}
def Pm.wF (x:Pm) (A:Option Addr) (c:Nat):Pm:={x with A:=A,c:=c,q:=x.q++[⟨Bk.zero,none,0⟩,⟨fK 1,none,0⟩]}
def pU (q:List Pm) (j:Nat):Int:=if j=0 then 0 else (q.getD (j-1) Pm.zero).z.next
section
variable {q p:List Pm} {k j:Nat} {x y:Pm} {e:Nat}
theorem qxv (b:∀j,j<k→iG (p.getD j Pm.zero).v) (hs:∀i j,i≤j→j<k→(p.getD i Pm.zero).z.next≤(p.getD j Pm.zero).z.next) (hk:k≤abk p):∀j,j≤k→ko (p.map Pm.v) 0 0=ko ((p.map Pm.v).drop j) (pU p j) j
 |0,_=>rfl
 | j + 1, h => by
  have g:=b j om
  have c:pU p j≤(p.getD j Pm.zero).z.next:=by
   unfold pU
   split
   ·have:=g.nx.1;show (0:Int)≤(p.getD j Pm.zero).v.s.next;omega
   ·exact hs (j-1) j om om
  rw [qxv b hs hk j om,Sj om,if_neg (λn=>n g.nL),if_neg (λn=>n g.bl),if_neg om]
  rfl
def I4 (p:List Pm) (k:Nat) (y:Pm) (e:Nat):Prop:=(bJ y.z=e∧e≠0)∨(bJ y.z=0∧dN (y.q.map ac0)=e∧e≠0)∨(bJ y.z=0∧dN (y.q.map ac0)=0∧y.z.next<pU p k∧e=411)
def zkk (b:∀j,j<k→iG (p.getD j Pm.zero).v) (hs:∀i j,i≤j→j<k→(p.getD i Pm.zero).z.next≤(p.getD j Pm.zero).z.next) (hk:k<abk p) (c:abk p≤1024) (hy:p.getD k Pm.zero=y) (hb:I4 p k y e):mU (p.map Pm.v)=((k:Int),e):=by
 unfold mU
 rw [if_neg (by rw [abv];omega),qxv b hs om k (abo _),Sj hk,hy]
 rcases hb with ⟨h1,h2⟩|⟨h1,h2,h3⟩|⟨h1,h2,h3,h4⟩
 ·rw [if_pos (by rw [h1];exact h2),h1]
 ·rw [if_neg (λn=>n h1),if_pos (by rw [h2];exact h3),h2]
 ·rw [if_neg (λn=>n h1),if_neg (λn=>n h2),if_pos h3,h4]
theorem MV (h:j≠k):(q.set k y).getD j Pm.zero=q.getD j Pm.zero:=by
 rw [abn,List.getElem?_set_ne (λe=>h e.symm),←abn]
theorem zkl (h:k<abk q):(q.set k y).getD k Pm.zero=y:=by
 rw [abn,acJ h];rfl
structure sZ (q p:List Pm) (k:Nat) (e:Nat):Prop where
 nL:mU (p.map Pm.v)=((k:Int),e)
 ne:e≠0
 len:abk p=abk q
 ok:∀y∈p,gq y
variable {L:List Pl} {bs:List Nat}
def MW (b:lN q L bs) (h4:abk q≤4) (hk:k<abk q) (hy:gq y) (c:e≠0) (hb:I4 (q.set k y) k y e):sZ q (q.set k y) k e:=by
 refine ⟨zkk (λj d=>?_) (λi j hi d=>?_) (by rw [abG];exact hk) (by rw [abG];omega) (zkl hk) hb,c,abG,λz hz=>?_⟩
 ·rw [MV om];exact b.good _ (qe Pm.zero om)
 ·rw [MV om,MV om];exact b.up i j hi om
 ·rcases abW hz with h|rfl
  ·exact b.ok z h
  ·exact hy
def TI (b:lN q L bs) (h4:abk q≤4) (hk:k<abk q) (c:q.getD k Pm.zero=x):sZ q (q.set k x.xC) k 331:=by
 have hm:x∈q:=by rw [←c];exact qe Pm.zero hk
 have g:=b.good x hm
 have o:=b.ok x hm
 refine MW b h4 hk ⟨⟨o.ok.ak,o.ok.aj,o.ok.gs,(λz hz=>by cases hz),o.ok.cu,o.ok.ts,o.ok.sp⟩,⟨o.few.g,abx _,o.few.u,o.few.t,o.few.s,o.few.r⟩,⟨o.cap.g,abo _,o.cap.u,o.cap.t,o.cap.s,o.cap.r⟩,o.nx,o.Cx,o.Eb,o.len,o.pc⟩ de (.inl ⟨?_,by decide⟩)
 rcases q3z x.xC.z with h|h|h
 ·exfalso
  have d:1≤x.z.next∧x.z.next≤281474976710657:=g.nx
  unfold bJ at h
  rw [if_neg (by show ¬(x.z.next<1∨281474976710657<x.z.next);omega)] at h
  split at h<;>cases h
 ·exact h
 ·exfalso
  have hs:=BP h
  have h1:=(lW hs.cfg).1
  have h2:=hs.cl
  have h2:((0:Nat):Int)=x.xC.z.st.ak:=h2
  omega
def TJ (b:lN q L bs) (h4:abk q≤4) (hk:k<abk q) (c:q.getD k Pm.zero=x) {v:Int} (d:aQ v) (h0:v≤0):sZ q (q.set k (x.qE v)) k 330:=by
 have o:=b.ok x (by rw [←c];exact qe Pm.zero hk)
 exact MW b h4 hk ⟨o.ok,o.few,o.cap,d,o.Cx,o.Eb,o.len,o.pc⟩ de (.inl ⟨P6 (.inl (by show v<1;omega)),by decide⟩)
theorem zbu {l m:List Bk} (h:dN l=0):dN (l++m)=dN m:=by
 induction l with
 |nil=>rfl
 | cons b t d =>
  rw [dN] at h
  split at h
  ·rename_i c
   rw [aev,dN,if_pos c]
   exact d h
  ·rename_i c;exact absurd h c
def TK (f:lN q L bs) (h4:abk q≤4) (hk:k<abk q) (m:q.getD k Pm.zero=x) {A:Option Addr} {c:Nat} (hc:abk (x.q++[⟨Bk.zero,none,0⟩,⟨fK 1,none,0⟩]:List Hb)≤c) (h8:abk x.q≤1000):sZ q (q.set k (x.wF A c)) k 107:=by
 have hm:x∈q:=by rw [←m];exact qe Pm.zero hk
 have g:=f.good x hm
 have o:=f.ok x hm
 have key:∀{P:Hb→Prop},(∀h∈x.q,P h)→P ⟨Bk.zero,none,0⟩→P ⟨fK 1,none,0⟩→∀h∈(x.wF A c).q,P h:=λh1 h2 h3 h d=>by
  rcases abV.1 d with d|d
  ·exact h1 h d
  ·rcases abQ.1 d with rfl|d
   ·exact h2
   ·rw [adf] at d;subst d;exact h3
 refine MW f h4 hk ⟨o.ok,o.few,o.cap,o.nx,key o.Cx ⟨by show 0<256;decide,by show 0<256;decide,by unfold aQ;decide,by unfold aQ;decide,λe i=>by cases i⟩ ⟨by show 2<256;decide,by show 0<256;decide,by unfold aQ;decide,by unfold aQ;decide,λe i=>by cases i⟩,key (P:=λh=>abk h.b.evs≤1000000) o.Eb (abx _) (abx _),by show abk (x.q++_)≤_;rw [abm];show abk x.q+2≤_;omega,hc⟩ de (.inr (.inl ⟨g.nL,?_,by decide⟩))
 show dN ((x.q++([⟨Bk.zero,none,0⟩,⟨fK 1,none,0⟩]:List Hb)).map ac0)=107
 rw [abP,zbu (show dN (x.q.map ac0)=0 from g.bl)]
 decide
def TL (b:lN q L bs) (h4:abk q≤4) (hk:k<abk q) (d:q.getD k Pm.zero=x) (h1:0<k) (h2:1<(q.getD (k-1) Pm.zero).z.next):sZ q (q.set k (x.qE 1)) k 411:=by
 have hm:x∈q:=by rw [←d];exact qe Pm.zero hk
 have g:=b.good x hm
 have o:=b.ok x hm
 refine MW b h4 hk ⟨o.ok,o.few,o.cap,by show aQ 1;unfold aQ;decide,o.Cx,o.Eb,o.len,o.pc⟩ de (.inr (.inr ⟨?_,g.bl,?_,rfl⟩))
 ·show bJ ⟨1,x.z.st⟩=0
  have c:=(xg g.nL).2
  unfold bJ
  rw [if_neg (by show ¬((1:Int)<1∨281474976710657<(1:Int));decide),if_neg (by intro n;have c:kD x.z.st.av=true:=c;have n:kD x.z.st.av=false:=n;rw [c] at n;cases n)]
 ·unfold pU
  rw [if_neg om,MV om]
  exact h2
end
section
variable {W w:World} {a F:List Fact} {q:List Pm} {k:Nat} {x:Pm}
def q0q (h:dL w x):dL w x.xC:=⟨⟨h.st.g,Rd.nil,h.st.u,h.st.t,h.st.s,h.st.r⟩,h.bl,h.ev⟩
def qse (v:Int) (h:dL w x):dL w (x.qE v):=⟨h.st,h.bl,h.ev⟩
def TM {y:Pm} (h:∀p∈q,dL w p) (hy:dL w y):∀p∈q.set k y,dL w p:=λp b=>by
 rcases abW b with h1|rfl
 ·exact h p h1
 ·exact hy
def lQ (q:List Pm) (k:Nat):List Pm:=q.take k++q.drop (k+1)
def aa3 (h:Mem W w (a++dn q)) (hk:k<abk q) (b:q.getD k Pm.zero=x):Mem W w (.row (.slice x.A (abk x.q) x.c) (abk x.q) (x.q.flatMap hbL) 85 5::(a++(iU x.z.st++(gJ 73 x.q++dn (lQ q k))))):=by
 have e:q=q.take k++(x::q.drop (k+1)):=by
  rw [←b,abn,abt hk,Option.getD_some,←List.drop_eq_getElem_cons hk,ab5]
 have e2:dn q=dn (q.take k)++(jV x++dn (q.drop (k+1))):=by
  conv=>lhs;rw [e]
  unfold dn
  rw [abO,abL]
 have e3:dn (lQ q k)=dn (q.take k)++dn (q.drop (k+1)):=by unfold dn lQ;rw [abO]
 rw [e2] at h
 rw [e3]
 unfold jV at h
 generalize dn (q.take k)=s at h⊢
 generalize dn (q.drop (k+1))=t at h⊢
 generalize iU x.z.st=u at h⊢
 generalize gJ 73 x.q=v at h⊢
 generalize ae9 (.slice x.A (abk x.q) x.c) (abk x.q) (x.q.flatMap hbL) 85 5=r at h⊢
 have h1:(s++((u++(r::v))++t)).Perm (r::(u++(v++(s++t)))):=
  (ad6 s (u++(r::v)) t).trans (by rw [abz,aev];exact adj)
 exact h.perm ((adH a h1).trans adj)
def zhl {m:World} {n:Nat} (h:Mem W m (.row (.slice A n c) n ((x.q++([⟨Bk.zero,none,0⟩,⟨fK 1,none,0⟩]:List Hb)).flatMap hbL) 85 5::(iU x.z.st++(gJ 73 x.q++dn (lQ q k))))) (r:n=abk (x.q++([⟨Bk.zero,none,0⟩,⟨fK 1,none,0⟩]:List Hb))):∀y∈q.set k (x.wF A c),dL m y:=λy s=>by
 have t:∀y∈lQ q k,dL m y:=h.Am λf g=>ab2 _ (acA _ (acA _ g))
 have u:dL m (x.wF A c):=by
  refine ⟨h.yu λf g=>ab2 _ (acZ _ g),?_,λb d=>?_⟩
  ·have h1:=h.rd (i:=0) rfl
   rw [r] at h1
   exact h1
  ·rcases abV.1 d with d|d
   ·exact h.Fb (λf g=>ab2 _ (acA _ (acZ _ g))) b d
   ·rcases abQ.1 d with rfl|d
    ·exact Rd.nil
    ·rw [adf] at d;subst d;exact Rd.nil
 obtain ⟨j,v,rfl⟩:=acz s
 rw [abG] at v
 rw [List.getElem_set]
 split
 ·exact u
 ·rename_i B
  refine t _ ?_
  unfold lQ
  rcases acj j k with h1|h1
  ·exact acZ _ (List.mem_take_iff_getElem.2 ⟨j,by omega,rfl⟩)
  ·exact acA _ (List.mem_drop_iff_getElem.2 ⟨j- (k+1),by omega,by congr 1;omega⟩)
end
section
variable {P:Program} {S:World→Prop} {σ:List (Nat×Value)} {o:Oper}
def aaV {t e:TypeId} {z:Value} {size bytes:Nat} (f:EI P t e z size bytes) {x hi s:Operand} {A:Option Addr} {m c j q:Nat} {g k2:IntKind} (d:o.op= .slice t x none (some hi) (some s)) (h:look σ x=some (.slice A m c)) (i:look σ hi=some (.int g (j:Int))) (hm:look σ s=some (.int k2 (q:Int))) (r:j≤q) (u:q≤c):
  Yl P S σ o (.slice A j q):=λa n D Z w B=>by
 obtain ⟨v,b,_,hs,_⟩:=info_parts f.hi
 have e1:(adl t (.slice A m c) none (some (.int g (j:Int))) (some (.int k2 (q:Int)))).run P w= .ok (.slice A j q) w:=by
  subst hs
  cases A<;>simp [adl,run_underlying f.ht,Instr.slice,Instr.sliceBounds,Instr.sliceBound,asIntOf,r,u,sizeOf,typeInfo,b,Addr.add]
 unfold execOp
 simp only [d,Z.eval h,Z.eval i,Z.eval hm,Option.map_some,Option.map_none,Sem.run_bind,e1,Result.andThen_ok]
 rfl
end
def qY (g:Nat):Ap:=⟨⟨0,0,0,[0,0,0,0,0],[0,0,0,0,0]⟩,none,0,[],g,none,0,[]⟩
def zbv:bZ.Ok ⟨0,0,0,[0,0,0,0,0],[0,0,0,0,0]⟩:=⟨by decide,by decide,by decide,rfl,rfl,by decide,by decide⟩
theorem zdw (w:World) {g:Nat} (h:g<4294967296):jD w (qY g):=⟨zbv,(λy b=>by cases b),abo _,abx _,Rd.nil,h,(λy b=>by cases b),abo _,abx _,Rd.nil⟩
section
variable {W w:World} {l X:List Ap} {q:List Pm}
theorem wG (b:X=l.take 2++[qY 5,qY 0]) (c:∀x∈l,jD w x):∀x∈X,jD w x:=λx d=>by
 subst b
 rcases abV.1 d with h|h
 ·exact c x (ach h)
 ·rcases abQ.1 h with rfl|h
  ·exact zdw w de
  ·rw [adf] at h;subst h;exact zdw w de
def TN (b:X=l.take 2++[qY 5,qY 0]):abk X=abk (l.take 2)+2∧2≤abk X∧abk X≤4∧abk (X.take 4)=abk X:=by
 subst b
 have h2:abk ([qY 5,qY 0]:List Ap)=2:=rfl
 rw [abu (i:=4),abm,abu,h2]
 omega
def zhm (b:X=l.take 2++[qY 5,qY 0]) (h:jY X q (abk (X.take 4))):1<(q.getD (abk q-1-1) Pm.zero).z.next:=by
 obtain ⟨h1,h2,h3,h4⟩:=TN b
 have c:=h.1
 rw [TG h om,show abk q-1-1=abk (l.take 2) by omega,Tw om]
 have:(X.getD (abk (l.take 2)) Ap.zero).gap=5:=by
  subst b
  rw [abn,ac9 (abo _),adN]
  rfl
 rw [this]
 omega
end
section
open Go.ChangeShapes Go.WideShapes Go.ChangeAt
section
variable {H:Type} {enc:TypeId×Value→H} {W:World} {b0:Nat} {v:Value} {d:DataW H} {p:List MemPlace}
def q63:Tryz.prog.underlying 22=some (.slice 104):=by kernel_rfl
theorem qxs:Tryz.prog.cellsOf 104=16:=by kernel_rfl
theorem q0o:Tryz.prog.cellsOf 101=1:=by kernel_rfl
theorem q0p:Tryz.prog.cellsOf 102=1:=by kernel_rfl
def IQ:fieldAt abl 104 0 0 100=true:=by kernel_rfl
def IU:fieldAt abl 104 1 13 101=true:=by kernel_rfl
def IV:fieldAt abl 104 2 14 61=true:=by kernel_rfl
def IW:fieldAt abl 104 3 15 102=true:=by kernel_rfl
theorem zhg {B D:List Value} {a b c:Value} (e:abk B=16) (h0:B.take 13=D) (h1:B[13]?=some a) (h2:B[14]?=some b) (h3:B[15]?=some c):B=D++[a,b,c]:=by
 subst h0
 refine EA (by rw [abm,abu,e];rfl) λi hi=>?_
 rw [abm,abu,e] at hi
 have hi:i<16:=hi
 rcases acj i 13 with h|h
 ·rw [aeh (by rw [abu,e];omega),List.getElem?_take,if_pos h]
 ·rw [ac9 (by rw [abu,e];omega),abu,e]
  have hc:i=13∨i=14∨i=15:=by omega
  rcases hc with rfl|rfl|rfl
  ·exact h1
  ·exact h2
  ·exact h3
set_option maxRecDepth 100000 in
theorem zhh {m:Nat} {D:List Value} {y:DataW H×List MemPlace} (a:DataW.trod enc Tryz.prog W 0 (λ_=>true) true m 104 D=some y):∃x:Ap,sW x=D∧jD W x:=by
 obtain ⟨b,_,K,g⟩:=qy IQ a
 obtain ⟨_,_,L,i⟩:=qy IU a
 obtain ⟨_,_,M,j⟩:=qy IV a
 obtain ⟨_,_,N,k⟩:=qy IW a
 rw [qxs] at b
 obtain ⟨n,e,f⟩:=q5t g
 obtain ⟨A,c,l,e1,o,r,s,t⟩:=KR yJ iM.Ok zas q0c de Rq (λ_ _ _ h=>zat h) i
 obtain ⟨gp,e2,u⟩:=Xn j
 obtain ⟨B,w,q,e3,z,C,E,F⟩:=KR xW (oZ W) ze1 XG de XE (λ_ _ _ h=>q87 h) k
 rw [Z9,List.drop_zero] at e
 rw [q0o] at e1
 rw [Xm] at e2
 rw [q0p] at e3
 have G:=uf e1
 have I:=uf e2.symm
 have J:=uf e3
 unfold maxLen at r C
 refine ⟨⟨n,A,c,l,gp,B,w,q⟩,?_,⟨f,s,o,by show l.length≤_;omega,t,u,E,z,by show q.length≤_;omega,F⟩⟩
 rw [zhg b e.symm G I J,←zdv f]
 rfl
set_option maxRecDepth 100000 in
theorem zhi (a:Value.okWide Tryz.prog W .any b0 22 v) (h:DataW.Trod enc Tryz.prog W 0 (λ_=>true) true 22 v d p):
  ∃(A:Option Addr) (c:Nat) (l:List Ap),v= .slice A l.length c∧l.length≤c∧c≤maxLen∧(∀x∈l,jD W x)∧Rd W W.heap.size 16 A l.length (l.flatMap sW):=by
 obtain ⟨g,len,cap,rfl⟩:=okWide_slice q63 a
 obtain ⟨e,f⟩:=h
 obtain ⟨A,c,l,b,h1⟩:=KR sW (jD W) q63 qxs de Tt (λ_ _ _ h=>zhh h) f
 simp only [Value.cells,List.cons.injEq,and_true,Value.slice.injEq] at b
 obtain ⟨rfl,rfl,rfl⟩:=b
 exact ⟨_,_,l,rfl,h1⟩
end
end
def rU (l:List α) (m:Nat):abJ .i64 (if ((m:Int)<(abk l:Int)) then (m:Int) else (abk l:Int))=vI ((abk (l.take m):Nat):Int):=by
 rw [abu]
 split<;>congr 1<;>omega
def aaR {s t:List Fact} (h:Mem W w (a++(s++t))):Mem W w (a++(t++s)):=h.perm (adH a adh)
def q0t (A:Option Addr) (c:Nat) (l:List Ap) (w:World) (hr:Rd w w.heap.size 16 A (abk l) (l.flatMap sW)) (hP:∀x∈l,jD w x) (hc:abk l≤c) (hn:abk l≤9223372036854775807):
    Calls abl 14 #[abg A l c] w (IL w l):=by
 refine (dY Tryz.func14 67) ?_
 refine (JP∘Jp 2∘Jr∘Jp 1∘Jq∘JC (h:=by exact λe=>e.nil 53 9)∘JC (h:=by exact λe=>(show Mem w _ (.row (vN) 0 [] 53 9::dn []) from e))∘JG∘JP∘Jp 1∘Jj∘JQ∘JP∘Jp 2∘Jl∘Jy (v:=vI (if (4:Int)<(abk l:Int) then 4 else (abk l:Int))) (h:=by exact Yl.min rfl rfl rfl)∘Jo (vI (abk (l.take 4))) (by exact rU l 4)∘Jy (h:=by exact aaf rT (j:=abk (l.take 4)) rfl rfl rfl (by rw [abu];omega))∘Jl∘Jp 1∘Jj∘JB) λa Z e=>?_
 refine qg (λmS aS wS=>∃(i:Nat) (sg:Nat) (g:List Pm) (J:Option Addr) (co:Nat),(i≤abk (l.take 4))∧(sg=iN l i)∧(jY l g i)∧(abk g≤co)∧mS=abk (l.take 4)-i∧Fr aS 67 [] [(19,vI i),(18,vI (abk (l.take 4):Nat)),(17,abg A (l.take 4) c),(5,vI sg),(4,abg J g co),(3,.bool false),(2,vN)]∧Mem w wS (abj J g co iB 53 9::dn g)) (m:=abk (l.take 4)-0) ⟨0,0,[],none,0,abx _,Tv.symm,zbt,abo _,rfl,Z.sub kr,e.pt 1 [0]⟩ ?_
 clear Z e;rintro mS a w_ ⟨i,sg,g,J,co,hi,hsg,Q,hco,rfl,Z,e⟩
 refine Jb Z e ((JP∘Jp 1∘Jj∘JQ) (Ji (λK=>?_) λK=>?_))
 ·
  have L:i<abk l:=by rw [abu] at K;omega
  have Zn:=Q.1
  have hgu:=Tw L
  have hgl:=zhf (i:=i+1) (λy hy=>(hP y hy).gap)
  have hi4:i+1≤4:=by rw [abu] at K;omega
  have hgI:aQ (iN l (i+1):Int):=by unfold aQ;omega
  obtain ⟨x,hx⟩:∃x,(l.getD i Ap.zero)=x:=⟨_,rfl⟩
  have C:=hP x (by rw [←hx];exact qe Ap.zero L)
  have hxq:=C.qn
  have hxg:=C.gap
  rw [hx] at hgu
  refine (JT∘aD∘JQ∘JB∘JP) ?_
  obtain ⟨gA,oA,rfl,_⟩:=hr.sat i
  refine (gZ i 16∘oQ Ap.cells Tt hr AB i Ap.zero (hk:=L)∘Jo (.agg x.cells) (by rw [hx])∘JA #[vB 0,vB 0,vW 0,vB 0,vB 0,vB 0,vB 0,vB 0,.int .u16 0,.int .u16 0,.int .u16 0,.int .u16 0,.int .u16 0,vN,vW 0,vN]) λw7 M=>(JV AB aU (h1:=by exact zkh x)) λFZ=>(bG∘Jr∘Jp 1∘Jg 14 O0∘Jw .i64∘Jp 1∘Jo (vI (iN l (i+1))) (by rw [hgu,←hsg];exact q8 om om)∘Jp 1∘gG∘Jr∘Jf 0∘Jy (v:= .agg #[vB x.n.ak,vB x.n.groups,vW x.n.aj,vB (x.n.ps.getD 0 0),vB (x.n.ps.getD 1 0),vB (x.n.ps.getD 2 0),vB (x.n.ps.getD 3 0),vB (x.n.ps.getD 4 0),.int .u16 (x.n.ws.getD 0 0),.int .u16 (x.n.ws.getD 1 0),.int .u16 (x.n.ws.getD 2 0),.int .u16 (x.n.ws.getD 3 0),.int .u16 (x.n.ws.getD 4 0)]) (h:=by exact Pe rfl rfl Z0 rfl (λ_ h=>h.sub (i:=0) rfl 0 rfl))∘Jo (.agg x.n.cells) (by exact congrArg Value.agg (zdv C.n))∘Jg 13 O0∘Jp 1∘JL (h:=by exact λe=>q0s x.n C.n x.A x.c x.l C.l C.lc C.ln (iN l (i+1):Int) hgI _ (e.old C.lr))) ?_
  rintro e _ w34 ⟨z,rfl,hsz,hgz,hiz,hnz,hm⟩
  refine ⟨_,rfl,_,(show Mem w w34 (.blk M x.cells 104:: abj J g co iB 53 9::(iU z.st++(dn g))) from e.vG (T:=dn g) 2 hm rfl),?_⟩
  refine (Jp 1∘Jx∘Jx∘JA #[vI 0,vI 0,vQ 0,vN,vN,vN,vN,vN]) λw8 P=>(JV zp aU (h1:=by exact K9 z)) λabY=>(Jp 1∘Jj∘JQ∘JP∘Jp 2∘aK∘Jj∘JF∘aD∘JP∘eF zp O0∘eH #[vI z.next,vI z.st.ak,vQ z.st.aj,abg z.st.gA z.st.gs z.st.gc,abg z.st.lA z.st.cl z.st.lc,abg z.st.uA z.st.cu z.st.uc,abg z.st.tA z.st.ts z.st.tc,abg z.st.sA z.st.rs z.st.sc,vN]∘JA #[vI 0,vI 0,vQ 0,vN,vN,vN,vN,vN,vN]) λuz D=>(JV bU aU) λabZ=>(bG∘Jj∘JQ∘JP∘Jg 15 O2∘Jg 15 O2∘Jl∘Jy (v:=vI (if (5:Int)<(abk x.q:Int) then 5 else (abk x.q:Int))) (h:=by exact Yl.min rfl rfl rfl)∘Jo (vI (abk (x.q.take 5))) (by exact rU x.q 5)∘Jy (h:=by exact aaf ziz (j:=abk (x.q.take 5)) rfl rfl rfl (by rw [abu];have:=C.qc;omega))∘Jl∘Jp 1∘Jq) λa Z e=>?_
  replace e:=e.nil 85 5
  replace e:Mem w _ (.row (vN) 0 [] 85 5:: .blk D #[vI z.next,vI z.st.ak,vQ z.st.aj,abg z.st.gA z.st.gs z.st.gc,abg z.st.lA z.st.cl z.st.lc,abg z.st.uA z.st.cu z.st.uc,abg z.st.tA z.st.ts z.st.tc,abg z.st.sA z.st.rs z.st.sc,vN] 53:: .blk P z.cells 50:: .blk M x.cells 104:: abj J g co iB 53 9::(gJ 73 []++(dn g++(iU z.st)))):=aaR (a:=[.row (vN) 0 [] 85 5,.blk D #[vI z.next,vI z.st.ak,vQ z.st.aj,abg z.st.gA z.st.gs z.st.gc,abg z.st.lA z.st.cl z.st.lc,abg z.st.uA z.st.cu z.st.uc,abg z.st.tA z.st.ts z.st.tc,abg z.st.sA z.st.rs z.st.sc,vN] 53,.blk P z.cells 50,.blk M x.cells 104,abj J g co iB 53 9]) e
  refine Jb Z e ((JG∘JB) λa Z e=>?_)
  refine qg (λmS aS wS=>∃(k:Nat) (o:List Hb) (u:Option Addr) (s:Nat),(k≤abk (x.q.take 5))∧(o.map ac0=qP (x.q.take k))∧(abk o=k)∧(abk o≤s)∧mS=abk (x.q.take 5)-k∧Fr aS 67 [] [(49,vI k),(48,vI (abk (x.q.take 5):Nat)),(47,abg x.B (x.q.take 5) x.d),(10,vP D 0),(38,.bool false),(9,.bool true),(8,vP P 0),(5,vI (iN l (i+1))),(7,vP M 0),(20,.bool true),(19,vI i),(18,vI (abk (l.take 4):Nat)),(17,abg (some ⟨gA,oA,none⟩) (l.take 4) c),(4,abg J g co),(3,.bool false),(2,vN)]∧Mem w wS (abj u o s hbL 85 5:: .blk D #[vI z.next,vI z.st.ak,vQ z.st.aj,abg z.st.gA z.st.gs z.st.gc,abg z.st.lA z.st.cl z.st.lc,abg z.st.uA z.st.cu z.st.uc,abg z.st.tA z.st.ts z.st.tc,abg z.st.sA z.st.rs z.st.sc,abg u o s] 53:: .blk P z.cells 50:: .blk M x.cells 104:: abj J g co iB 53 9::(gJ 73 o++(dn g++(iU z.st))))) (m:=abk (x.q.take 5)-0) ⟨0,[],none,0,abx _,rfl,rfl,abo _,rfl,Z.sub kr,e.pt 5 [0,1,2,3,4]⟩ ?_
  clear Z e;rintro mS a w_ ⟨k,o,u,s,hk,hq2,hl2,hcb,rfl,Z,e⟩
  refine Jb Z e ((JP∘Jp 1∘Jj∘JQ) (Ji (λI=>?_) λI=>?_))
  ·
   have hk5:k<5:=by rw [abu] at I;omega
   have N:k<abk x.q:=by rw [abu] at I;omega
   have R:=C.q _ (qe fD.zero N)
   have hts:=qyu N
   refine (JT∘aD∘JQ∘JB∘JP) ?_
   obtain ⟨FQ,FR,W,_⟩:=Rd.sat C.qr k
   have S:=C.qr;rw [W] at S
   refine (Jk 47 (.slice (some ⟨FQ,FR,none⟩) (abk (x.q.take 5)) x.d) (h:=by rw [W];try rfl)∘gZ k 6∘Jy (v:= .agg ((x.q.getD k fD.zero).x.cells (x.q.getD k fD.zero).A (x.q.getD k fD.zero).c)) (h:=by exact Pe rfl rfl uK rfl (λ_ h=>(h.old S).AZ XE ((getD_at fD.zero N))))∘JA #[.bool false,vB 0,vW 0,vI 0,vI 0,vN]) λDz X=>(JV uK aU (h1:=by exact zix _ _ _)) λab0=>(bG∘Jj∘Vs (.t (.f .n)) [7]) λBR=>(Vf 0 8∘Vc 1 O1∘qL 2 uK O0∘VK 3 (.t (.f .n)) (h:=by exact λe=>q7c (x.q.getD k fD.zero).x R.ok (x.q.getD k fD.zero).A (x.q.getD k fD.zero).c _ (e.old R.rd) R.hc R.hm)) λp r w56 apO=>λa Z e HS=>?_
   refine s_on Z 4 rfl (iW Z e Bt [(0,.agg ((x.q.getD k fD.zero).x.made.cells p r))] ((x.q.getD k fD.zero).x.made.cells p r) ?_)
   clear Z e;intro a w57 Y Z e
   refine ay (e.pt 8 [2,4,5,6,7]) (λHS=>?_)
   refine s_on Z 5 rfl (qF Z e (i:=3) rfl Bt rfl rfl rfl (news:=(hbL (⟨(x.q.getD k fD.zero).x.made,p,r⟩:Hb))) (e.aW (i:=0) (n:=1) (size:=5) rfl rfl) (tJ _ _ _) om om rfl de ?_)
   clear Z e;intro a LZ E F Z e U
   refine ay (e.pt 8 [2,4,5,6,7]) (λHS=>?_)
   refine Vb Z e HS ((Vf 6 8) λa Z e HS=>?_)
   refine s_on Z 7 rfl (fJ Z e 4 λab1 e=>?_)
   refine dM kr ?_
   refine qd kr ?_
   have G:abk o+1=abk (o++[(⟨(x.q.getD k fD.zero).x.made,p,r⟩:Hb)]):=by rw [abm];rfl
   rw [G] at U
   replace e:=e.aT (i:=3) (ys:=(o++[(⟨(x.q.getD k fD.zero).x.made,p,r⟩:Hb)]).flatMap hbL) rfl G (by rw [abO,abL,aeg,abN])
   replace Z:=Z.sp 58 (.slice E (abk (o++[(⟨(x.q.getD k fD.zero).x.made,p,r⟩:Hb)])) F) rfl (gF G)
   replace e:=e.dO (i:=4) (ds:= #[vI z.next,vI z.st.ak,vQ z.st.aj,abg z.st.gA z.st.gs z.st.gc,abg z.st.lA z.st.cl z.st.lc,abg z.st.uA z.st.cu z.st.uc,abg z.st.tA z.st.ts z.st.tc,abg z.st.sA z.st.rs z.st.sc,.slice E (abk (o++[(⟨(x.q.getD k fD.zero).x.made,p,r⟩:Hb)])) F]) rfl (by rw [G];try rfl)
   replace e:=aaK (a:=[.blk Y ((x.q.getD k fD.zero).x.made.cells p r) 85,.blk X ((x.q.getD k fD.zero).x.cells (x.q.getD k fD.zero).A (x.q.getD k fD.zero).c) 113,.row (.slice E (abk (o++[(⟨(x.q.getD k fD.zero).x.made,p,r⟩:Hb)])) F) (abk (o++[(⟨(x.q.getD k fD.zero).x.made,p,r⟩:Hb)])) ((o++[(⟨(x.q.getD k fD.zero).x.made,p,r⟩:Hb)]).flatMap hbL) 85 5,.blk D #[vI z.next,vI z.st.ak,vQ z.st.aj,abg z.st.gA z.st.gs z.st.gc,abg z.st.lA z.st.cl z.st.lc,abg z.st.uA z.st.cu z.st.uc,abg z.st.tA z.st.ts z.st.tc,abg z.st.sA z.st.rs z.st.sc,.slice E (abk (o++[(⟨(x.q.getD k fD.zero).x.made,p,r⟩:Hb)])) F] 53,.blk P z.cells 50,.blk M x.cells 104,abj J g co iB 53 9]) (q:=o) (b:=dn g++(iU z.st)) (e.pt (fs':=(.row (.slice p ((x.q.getD k fD.zero).x.made.evs.length) r) ((x.q.getD k fD.zero).x.made.evs.length) ((x.q.getD k fD.zero).x.made.evs.flatMap iw) 73 11:: .blk Y ((x.q.getD k fD.zero).x.made.cells p r) 85:: .blk X ((x.q.getD k fD.zero).x.cells (x.q.getD k fD.zero).A (x.q.getD k fD.zero).c) 113:: .row (.slice E (abk (o++[(⟨(x.q.getD k fD.zero).x.made,p,r⟩:Hb)])) F) (abk (o++[(⟨(x.q.getD k fD.zero).x.made,p,r⟩:Hb)])) ((o++[(⟨(x.q.getD k fD.zero).x.made,p,r⟩:Hb)]).flatMap hbL) 85 5:: .blk D #[vI z.next,vI z.st.ak,vQ z.st.aj,abg z.st.gA z.st.gs z.st.gc,abg z.st.lA z.st.cl z.st.lc,abg z.st.uA z.st.cu z.st.uc,abg z.st.tA z.st.ts z.st.tc,abg z.st.sA z.st.rs z.st.sc,.slice E (abk (o++[(⟨(x.q.getD k fD.zero).x.made,p,r⟩:Hb)])) F] 53:: .blk P z.cells 50:: .blk M x.cells 104:: abj J g co iB 53 9::(gJ 73 o++(dn g++(iU z.st))))) 8 [1,0,2,3,4,5,6,7])
   replace e:Mem w _ (.blk Y ((x.q.getD k fD.zero).x.made.cells p r) 85:: .blk X ((x.q.getD k fD.zero).x.cells (x.q.getD k fD.zero).A (x.q.getD k fD.zero).c) 113:: .row (.slice E (abk (o++[(⟨(x.q.getD k fD.zero).x.made,p,r⟩:Hb)])) F) (abk (o++[(⟨(x.q.getD k fD.zero).x.made,p,r⟩:Hb)])) ((o++[(⟨(x.q.getD k fD.zero).x.made,p,r⟩:Hb)]).flatMap hbL) 85 5:: .blk D #[vI z.next,vI z.st.ak,vQ z.st.aj,abg z.st.gA z.st.gs z.st.gc,abg z.st.lA z.st.cl z.st.lc,abg z.st.uA z.st.cu z.st.uc,abg z.st.tA z.st.ts z.st.tc,abg z.st.sA z.st.rs z.st.sc,.slice E (abk (o++[(⟨(x.q.getD k fD.zero).x.made,p,r⟩:Hb)])) F] 53:: .blk P z.cells 50:: .blk M x.cells 104:: abj J g co iB 53 9::(gJ 73 (o++[(⟨(x.q.getD k fD.zero).x.made,p,r⟩:Hb)])++(dn g++(iU z.st)))):=e
   refine Jb Z e ((JG∘JR∘cK 1∘Jp 1∘aK∘Jq) λa Z e=>?_)
   replace Z:=Z.sp 47 (abg x.B (x.q.take 5) x.d) rfl (by rw [W])
   exact ⟨_,om,k+1,(o++[(⟨(x.q.getD k fD.zero).x.made,p,r⟩:Hb)]),E,F,by omega,by rw [hts,abP,hq2];rfl,by rw [abm,hl2];rfl,U,rfl,Z.sub kr,e.pt 7 [2,3,4,5,6]⟩
  have hqq:o.map ac0=qP (x.q.take 5):=by rw [hq2,show k=min 5 (abk x.q) by rw [abu] at hk I;omega,←afR]
  refine (JF∘JX∘JG∘JR∘Jp 1∘eF bU O1∘JU pQ #[vI z.next,vI z.st.ak,vQ z.st.aj,abg z.st.gA z.st.gs z.st.gc,abg z.st.lA z.st.cl z.st.lc,abg z.st.uA z.st.cu z.st.uc,abg z.st.tA z.st.ts z.st.tc,abg z.st.sA z.st.rs z.st.sc,abg u o s]) λLW TQ=>(JD (iB (⟨z,u,s,o⟩:Pm)) 5 (λ_ _=>uw) pQ (hr:=by exact λe=>e.aW (i:=0) (n:=1) (size:=9) rfl rfl) (h1:=by exact Ec _)) λw64 O c64 V=>(Jp 1∘gG∘Jq) ?_
  have H:abk g+1=abk (g++[(⟨z,u,s,o⟩:Pm)]):=by rw [abm];rfl
  rw [H] at V
  intro a Z e
  replace e:=e.aT (i:=5) (ys:=(g++[(⟨z,u,s,o⟩:Pm)]).flatMap iB) rfl H (by rw [abO,abL,aeg,abN])
  replace Z:=Z.sp 4 (abg O (g++[(⟨z,u,s,o⟩:Pm)]) c64) rfl (gF H)
  replace e:=aaP (a:=[.blk TQ #[vI z.next,vI z.st.ak,vQ z.st.aj,abg z.st.gA z.st.gs z.st.gc,abg z.st.lA z.st.cl z.st.lc,abg z.st.uA z.st.cu z.st.uc,abg z.st.tA z.st.ts z.st.tc,abg z.st.sA z.st.rs z.st.sc,abg u o s] 53,.blk D #[vI z.next,vI z.st.ak,vQ z.st.aj,abg z.st.gA z.st.gs z.st.gc,abg z.st.lA z.st.cl z.st.lc,abg z.st.uA z.st.cu z.st.uc,abg z.st.tA z.st.ts z.st.tc,abg z.st.sA z.st.rs z.st.sc,abg u o s] 53,.blk P z.cells 50,.blk M x.cells 104,abj O (g++[(⟨z,u,s,o⟩:Pm)]) c64 iB 53 9]) (e.pt (fs':=(abj u o s hbL 85 5:: .blk TQ #[vI z.next,vI z.st.ak,vQ z.st.aj,abg z.st.gA z.st.gs z.st.gc,abg z.st.lA z.st.cl z.st.lc,abg z.st.uA z.st.cu z.st.uc,abg z.st.tA z.st.ts z.st.tc,abg z.st.sA z.st.rs z.st.sc,abg u o s] 53:: .blk D #[vI z.next,vI z.st.ak,vQ z.st.aj,abg z.st.gA z.st.gs z.st.gc,abg z.st.lA z.st.cl z.st.lc,abg z.st.uA z.st.cu z.st.uc,abg z.st.tA z.st.ts z.st.tc,abg z.st.sA z.st.rs z.st.sc,abg u o s] 53:: .blk P z.cells 50:: .blk M x.cells 104:: abj O (g++[(⟨z,u,s,o⟩:Pm)]) c64 iB 53 9::(gJ 73 o++(dn g++(iU z.st))))) 6 [1,0,2,3,4,5])
  replace e:Mem w _ (.blk TQ #[vI z.next,vI z.st.ak,vQ z.st.aj,abg z.st.gA z.st.gs z.st.gc,abg z.st.lA z.st.cl z.st.lc,abg z.st.uA z.st.cu z.st.uc,abg z.st.tA z.st.ts z.st.tc,abg z.st.sA z.st.rs z.st.sc,abg u o s] 53:: .blk D #[vI z.next,vI z.st.ak,vQ z.st.aj,abg z.st.gA z.st.gs z.st.gc,abg z.st.lA z.st.cl z.st.lc,abg z.st.uA z.st.cu z.st.uc,abg z.st.tA z.st.ts z.st.tc,abg z.st.sA z.st.rs z.st.sc,abg u o s] 53:: .blk P z.cells 50:: .blk M x.cells 104:: abj O (g++[(⟨z,u,s,o⟩:Pm)]) c64 iB 53 9::dn (g++[(⟨z,u,s,o⟩:Pm)])):=e
  refine Jb Z e ((JG∘JR∘cK 1∘Jp 1∘aK∘Jq) λa Z e=>?_)
  exact ⟨_,om,i+1,iN l (i+1),(g++[(⟨z,u,s,o⟩:Pm)]),O,c64,by omega,rfl,zki Q hx ⟨hsz,hgz,hiz,hnz ⟨by omega,by omega⟩,hqq,hcb⟩,V,rfl,Z.sub kr,e.pt 5 [4]⟩
 have hin:i=abk (l.take 4):=by omega
 exact (JF∘JX∘JG∘JP∘Jp 3∘Jj∘JZ∘bH) λe=>by exact ⟨_,_,g,rfl,by rw [hin] at Q;exact Q,hco,e.pt (fs':=(abj J g co iB 53 9::dn g)) 1 [0]⟩
def qu9 (A:Option Addr) (c:Nat) (l:List Nat) (S:Nat) (w:World) (hL:aM S w) (hB:S≤w.heap.size) (hr:Rd w w.heap.size 1 A (abk l) (l.map B8)) (hc:abk l≤c) (hl:∀b∈l,b<256) (T:iI l) (hn:abk l≤100000000):
    Calls abl 71 #[.slice A (abk l) c] w (Bo 73 85 w (readAll l).2 (readAll l).1):=by
 refine Kz (vs:=[abg A l c]) Tryz.func71 rfl rfl kr (σ0:=[(0,abg A l c)]) rfl ?_
 intro a Z
 have d:=Mem.start w
 refine Jb Z d ((JP∘JA #[vN]) λw2 s=>(JA #[vI 0]) λw3 t=>(Jj∘JQ∘JP∘Jp 1∘Jl∘Jp 1∘bG∘Jj) (Ji (λU=>?_) λU=>?_))
 ·
  refine (JT∘JP∘JW fO aU) λap8=>(JW aU aU) λap9=>(Jj∘JZ) λa Z d=>?_
  refine VG ?_
  exact eG rfl Z (.cell1 (i:=1) Z d rfl rfl kr rfl) (.cell1 (i:=0) Z d rfl rfl kr rfl) (Xw d (Xt om) rfl)
 refine (JF∘aD∘JP∘JA #[vN]) λw4 D=>(Jj∘JQ∘JP∘Jp 1∘JL (h:=by exact λd=>q0u A (abk l) c _)) ?_
 rintro d _ wW ⟨gp,rfl,hm⟩
 refine ⟨_,rfl,_,d.join hm,?_⟩
 refine (aK∘Jq∘JC (h:=by exact λd=>d.nil 85 5)∘JC (h:=by exact λd=>(show Mem w _ (.row (vN) 0 [] 85 5:: .blk gp #[abg A l c] 30:: .blk D #[vN] 51:: .blk t #[vI 0] 27:: .blk s #[vN] 51::gJ 73 []) from d))∘JG∘JB) λa Z d=>?_
 refine Ky Z d (λF=>∃(q:List Hb) (f:Nat) (x:Option Addr) (co:Nat),(abk ([]:List Nat)≤f)∧(q.map ac0++(qx f ([]:List Nat)).1=(qx (abk l) l).1)∧((qx (abk l) l).2.2=(qx f ([]:List Nat)).2.2)∧(abk q≤co)∧(abk q+abk ([]:List Nat)≤abk l)∧F=(abj x q co hbL 85 5:: .blk D #[abg x q co] 51:: .blk t #[vI 0] 27:: .blk s #[vN] 51::gJ 73 q)) (λc F=>c= .ret∧∃(q:List Hb) (e:Nat),(e≠0)∧((qx (abk l) l).2.2=e)∧F=(.blk t #[vI e] 27:: .blk s #[vN] 51::gJ 73 q)) rfl kr ?_ ?_ ?_
 ·
  clear Z d;intro C B p w1 N d
  have hy:Xo w C (λu F=>∃(q:List Hb) (f:Nat) (x:Option Addr) (co:Nat),(abk u≤f)∧(q.map ac0++(qx f u).1=(qx (abk l) l).1)∧((qx (abk l) l).2.2=(qx f u).2.2)∧(abk q≤co)∧(abk q+abk u≤abk l)∧F=(.obj C (.loop (p .ready none)):: .obj B (.deferred (some []))::(abj x q co hbL 85 5:: .blk D #[abg x q co] 51:: .blk t #[vI 0] 27:: .blk s #[vN] 51::gJ 73 q))) (λF=>∃(q:List Hb) (e:Nat),(e≠0)∧((qx (abk l) l).2.2=e)∧F=(.obj C (.loop (p .done (some .ret))):: .obj B (.deferred (some []))::(.blk t #[vI e] 27:: .blk s #[vN] 51::gJ 73 q))):=by
   rintro u F fr w3 g j b m M ⟨q,f,x,co,V,E,y,G,I,rfl⟩ hq O hrl hcb d
   replace d:=d.pt (fs':=(.obj C (.loop (p .ready none)):: abj g b.evs j iw 73 11:: .obj B (.deferred (some [])):: abj x q co hbL 85 5:: .blk D #[abg x q co] 51:: .blk t #[vI 0] 27:: .blk s #[vN] 51::(gJ 73 q++(fr)))) 7 [1,0,2,3,4,5,6]
   refine NS (v1:= .agg #[vB (b.kind:Int),vB (b.cpu:Int),vI b.lost,vI b.next,abg g b.evs j,vI m]) (v2:=vI M) N d de de λa Z=>?_
   refine wpIn_seq ?_
   refine qz ?_
   refine Jb Z d ((JA #[vB 0,vB 0,vI 0,vI 0,vN,vI 0]) λw5 P=>(JV zbx aU) λTT=>(Jq) λa Z d=>?_)
   refine qz ?_
   refine Jb Z d ((Jp 1∘Jq) λa Z d=>?_)
   refine ⟨(.blk P #[vB (b.kind:Int),vB (b.cpu:Int),vI b.lost,vI b.next,abg g b.evs j,vI m] 255:: abj g b.evs j iw 73 11:: .obj B (.deferred (some [])):: abj x q co hbL 85 5:: .blk D #[abg x q co] 51:: .blk t #[vI 0] 27:: .blk s #[vN] 51::(gJ 73 q++(fr))),d.pt (fs':=(.obj C (.loop (p .ready none)):: .blk P #[vB (b.kind:Int),vB (b.cpu:Int),vI b.lost,vI b.next,abg g b.evs j,vI m] 255:: abj g b.evs j iw 73 11:: .obj B (.deferred (some [])):: abj x q co hbL 85 5:: .blk D #[abg x q co] 51:: .blk t #[vI 0] 27:: .blk s #[vN] 51::(gJ 73 q++(fr)))) 8 [1,0,2,3,4,5,6,7],λw4 d=>?_⟩
   refine wpIn_block ?_
   refine wpIn_seq ?_
   refine wpIn_seq ?_
   refine qz ?_
   refine Jb Z d ((Jp 2∘aK∘Jq) (Jh (λQ=>?_) λQ=>?_))
   ·
    intro a Z d
    have W:=qth (f:=f) om O hq om
    rw [W] at y
    refine VB Z rfl ?_
    refine wpIn_seq ?_
    refine qz ?_
    refine Jb Z d ((Jp 1∘JW xP aU) λOI=>(JW xO aU) λaqa=>(mZ∘Jq) λa Z d=>?_)
    refine wpIn_ret ?_
    refine ⟨(.obj B (.deferred (some [])):: .blk t #[vI M] 27:: .blk s #[vN] 51::(gJ 73 q++(fr))),d.pt (fs':=(.obj C (.loop (p .busy none)):: .obj B (.deferred (some [])):: .blk t #[vI M] 27:: .blk s #[vN] 51::(gJ 73 q++(fr)))) 8 [0,3,6,7],λw5 d=>?_⟩
    exact ⟨(.obj C (.loop (p .done (some .ret))):: .obj B (.deferred (some [])):: .blk t #[vI M] 27:: .blk s #[vN] 51::gJ 73 q),d,.inr ⟨om,rfl,q,M,by omega,y,rfl⟩⟩
   intro a Z d
   have X:M=0:=by omega
   have J:=hq
   rw [X] at J
   have W:=qqp (f:=f) om O J
   obtain ⟨aqb,hml,_⟩:=KO J
   rw [W] at E y
   dsimp only at E y
   refine VD Z rfl ?_
   refine wpIn_skip ?_
   refine qz ?_
   refine Jb Z d ((Jc O5∘Jf 0∘Jy (v:= .agg #[vB b.kind,vB b.cpu,vI b.lost,vI b.next,abg g b.evs j]) (h:=by exact Pe rfl rfl aL rfl (λ_ h=>h.sub (i:=1) rfl 0 rfl))∘JU Bt #[vB b.kind,vB b.cpu,vI b.lost,vI b.next,abg g b.evs j]) λPU K=>(JD (hbL (⟨b,g,j⟩:Hb)) 5 (λ_ _=>uw) Bt (hr:=by exact λd=>d.aW (i:=0) (n:=1) (size:=5) rfl rfl) (h1:=by exact tJ _ _ _)) λQF k o H=>(JW xO aU) λSn=>(qK∘Jq) λa Z d=>?_)
   have z:abk q+1=abk (q++[(⟨b,g,j⟩:Hb)]):=by rw [abm];rfl
   rw [z] at H
   replace d:=d.aT (i:=5) (ys:=(q++[(⟨b,g,j⟩:Hb)]).flatMap hbL) rfl z (by rw [abO,abL,aeg,abN])
   replace d:=d.dO (i:=6) (ds:= #[.slice k (abk (q++[(⟨b,g,j⟩:Hb)])) o]) rfl (by rw [z];try rfl)
   replace d:=aaK (a:=[.blk K #[vB b.kind,vB b.cpu,vI b.lost,vI b.next,abg g b.evs j] 85,.obj C (.loop (p .busy none)),.blk P #[vB (b.kind:Int),vB (b.cpu:Int),vI b.lost,vI b.next,abg g b.evs j,vI m] 255,.obj B (.deferred (some [])),abj k (q++[(⟨b,g,j⟩:Hb)]) o hbL 85 5,.blk D #[abg k (q++[(⟨b,g,j⟩:Hb)]) o] 51,.blk t #[vI 0] 27,.blk s #[vN] 51]) (q:=q) (b:=fr) (d.pt (fs':=(abj g b.evs j iw 73 11:: .blk K #[vB b.kind,vB b.cpu,vI b.lost,vI b.next,abg g b.evs j] 85:: .obj C (.loop (p .busy none)):: .blk P #[vB (b.kind:Int),vB (b.cpu:Int),vI b.lost,vI b.next,abg g b.evs j,vI m] 255:: .obj B (.deferred (some [])):: abj k (q++[(⟨b,g,j⟩:Hb)]) o hbL 85 5:: .blk D #[abg k (q++[(⟨b,g,j⟩:Hb)]) o] 51:: .blk t #[vI 0] 27:: .blk s #[vN] 51::(gJ 73 q++(fr)))) 9 [3,0,1,2,4,5,6,7,8])
   replace d:Mem w _ (.blk K #[vB b.kind,vB b.cpu,vI b.lost,vI b.next,abg g b.evs j] 85:: .obj C (.loop (p .busy none)):: .blk P #[vB (b.kind:Int),vB (b.cpu:Int),vI b.lost,vI b.next,abg g b.evs j,vI m] 255:: .obj B (.deferred (some [])):: abj k (q++[(⟨b,g,j⟩:Hb)]) o hbL 85 5:: .blk D #[abg k (q++[(⟨b,g,j⟩:Hb)]) o] 51:: .blk t #[vI 0] 27:: .blk s #[vN] 51::(gJ 73 (q++[(⟨b,g,j⟩:Hb)])++(fr))):=d
   refine ⟨(.obj B (.deferred (some [])):: abj k (q++[(⟨b,g,j⟩:Hb)]) o hbL 85 5:: .blk D #[abg k (q++[(⟨b,g,j⟩:Hb)]) o] 51:: .blk t #[vI 0] 27:: .blk s #[vN] 51::(gJ 73 (q++[(⟨b,g,j⟩:Hb)])++(fr))),d.pt (fs':=(.obj C (.loop (p .busy none)):: .obj B (.deferred (some [])):: abj k (q++[(⟨b,g,j⟩:Hb)]) o hbL 85 5:: .blk D #[abg k (q++[(⟨b,g,j⟩:Hb)]) o] 51:: .blk t #[vI 0] 27:: .blk s #[vN] 51::(gJ 73 (q++[(⟨b,g,j⟩:Hb)])++(fr)))) 8 [1,3,4,5,6,7],λw5 d=>?_⟩
   exact ⟨(.obj C (.loop (p .ready none)):: .obj B (.deferred (some [])):: abj k (q++[(⟨b,g,j⟩:Hb)]) o hbL 85 5:: .blk D #[abg k (q++[(⟨b,g,j⟩:Hb)]) o] 51:: .blk t #[vI 0] 27:: .blk s #[vN] 51::gJ 73 (q++[(⟨b,g,j⟩:Hb)])),d,.inl ⟨om,rfl,(q++[(⟨b,g,j⟩:Hb)]),(f-1),k,o,by rw [abH];omega,by rw [←E,abP,abz];rfl,y,H,by rw [abm,abH,List.length_singleton];omega,rfl⟩⟩
  refine (qu8 w w1 gp C S A c l _ _ _ hL hB hr hc hl T om hy ⟨[],abk l,none,0,abo _,List.nil_append _,rfl,abo _,by simp,rfl⟩ (d.pt 7 [3,0,1,2,4,5,6])).mono ?_
  rintro r w2 ⟨v,rfl,F2,R,(⟨q,f,x,co,V,E,y,G,I,rfl⟩|⟨q,e,L,y,rfl⟩)⟩
  ·exact ⟨v,rfl,.inl ⟨_,⟨q,f,x,co,V,E,y,G,I,rfl⟩,R⟩⟩
  ·exact ⟨v,rfl,.inr ⟨.ret,_,⟨rfl,q,e,L,y,rfl⟩,R⟩⟩
 ·
  clear Z d;rintro B a w6 _ ⟨q,f,x,co,V,E,y,G,I,rfl⟩ Z d
  have hz:=qtg (f:=f) (l:=[]) rfl
  rw [hz] at E y
  dsimp only at E y
  rw [abN] at E
  refine Jb Z d ((JG∘JP∘Jc O2∘JW sF aU) λY=>(JW qJ aU) λab3=>(mZ∘Jj∘JZ) λa Z d=>?_)
  refine EO Z d (i:=0) rfl λa w7 Z d=>?_
  exact eG rfl Z (.cell1 (i:=4) Z d rfl rfl kr rfl) (.cell1 (i:=3) Z d rfl rfl kr rfl) (by rw [Xv om y,←E];exact zes (d.pt (fs':=(abj x q co hbL 85 5::gJ 73 q)) 5 [1]) G)
 ·
  clear Z d;rintro _ B a w6 _ ⟨rfl,q,e,L,y,rfl⟩ Z d
  refine wp_ret ?_
  refine EO Z d (i:=0) rfl λa w7 Z d=>?_
  exact eG rfl Z (.cell1 (i:=2) Z d rfl rfl kr rfl) (.cell1 (i:=1) Z d rfl rfl kr rfl) (Xw d (Xu om y L) rfl)
theorem zdx {i:Nat} {l:List Nat} (h:Rd w B 1 A (abk l) (l.map B8)) (h1:i≤j) (h2:j≤abk l) (hc:abk l≤c):Rd w B 1 (if c=i then A else A.map (·.add (i*1))) (j-i) ((bT l i j).map B8):=h.wP h1 h2 hc
def zby (l:List Nat) (A:Option Addr) (n c:Nat) (B:Nat) (w:World) (e:aM B w) (f:B≤w.heap.size) (hr:Rd w w.heap.size 1 A n (l.map B8)) (a:abk l=n) (hc:n≤c) (g:∀b∈l,b<256) (d:iI l) (i:n≤100000000) {bs:List Bk} {er:Nat} (h:readAll l=(bs,er)):Calls abl 71 #[.slice A n c] w (Bo 73 85 w er bs):=by
 subst a
 have k:=qu9 A c l B w e f hr hc g d i
 rwa [h] at k
theorem zbz {f:Fact} (h:Mem W w (f::(gJ 73 q++[]))):Mem W w (f::gJ 73 q):=by rwa [abN] at h
theorem Mem.Jz {b:World} {gs:List Fact} (h:Mem W w a) (k:Mem w b gs):Mem W b (a++(gs++[])):=by
 rw [abN]
 exact h.pE k
theorem zb0 {z:cO} (h:Mem W w (.row (.slice A (abk q) c) (abk q) (q.flatMap hbL) 85 5::(gJ 73 q++(iU z.st++[])))):Mem W w (jV ⟨z,A,c,q⟩):=by
 rw [abN] at h
 exact h.perm (adh (l₁:=ae9 (.slice A (abk q) c) (abk q) (q.flatMap hbL) 85 5::gJ 73 q) (l₂:=iU z.st))
def qva (A:Option Addr) (c:Nat) (b:List Nat) (B:Nat) (w:World) (s:aM B w) (n:B≤w.heap.size) (hr:Rd w w.heap.size 1 A (abk b) (b.map B8)) (hc:abk b≤c) (C:abk b≤100000000) (t:∀z∈b,z<256) (x:Pl) (l:x.sn≤x.st∧x.st≤x.en∧x.en≤abk b) (m:iI (bT b x.st x.en)):
    Calls abl 56 #[.agg #[vI (x.nx:Int),vI (x.sn:Int),vI (x.st:Int),vI (x.en:Int),.slice A (abk b) c]] w (Bo 73 85 w (readAll (bT b x.st x.en)).2 (readAll (bT b x.st x.en)).1):=by
 refine (dY Tryz.func56 16) ?_
 refine (JP∘JE) λD u=>(Jp 2∘Jq) ?_
 obtain ⟨bs,o,f⟩:∃bs o,readAll (bT b x.st x.en)=(bs,o):=⟨_,_,rfl⟩
 refine (JG∘JP∘Jg 4 O0∘Jf 0∘Jg 2 O0∘Jf 0∘Jg 3 O0∘Jy (v:= .slice (if c=x.st then A else A.map (·.add (x.st*1))) (x.en-x.st) (c-x.st)) (h:=by exact aal aX (i:=x.st) (j:=x.en) rfl rfl rfl rfl om om)∘JL (h:=by exact λe=>zby (bT b x.st x.en) _ _ _ B _ (s.mem e n) (e.le n) (zdx (e.old hr) l.2.1 l.2.2 hc) (Ht l.2.2) om (Sd t _ _) m om f)) ?_
 rintro e _ y ⟨p,r,q,rfl,g,k,hm⟩
 have d:abk bs=abk q:=by rw [←g,abv]
 rw [d] at hm k⊢
 refine ⟨_,rfl,_,aaF (a:=[.blk u #[vI x.nx,vI x.sn,vI x.st,vI x.en,abg A b c] 131]) (b:=[]) e hm,?_⟩
 exact (Jx∘Jx∘Jp 2∘Jj∘JZ∘bH) λe=>by rw [f];exact ⟨p,r,q,by rw [d],g,by rw [d];exact k,by rw [d];exact zbz (e.pt (fs':=(abj p q r hbL 85 5::(gJ 73 q++([])))) 2 [0])⟩
def q0v (A:Option Addr) (c:Nat) (b:List Nat) (B:Nat) (w:World) (d:aM B w) (e:B≤w.heap.size) (hr:Rd w w.heap.size 1 A (abk b) (b.map B8)) (hc:abk b≤c) (f:abk b≤100000000) (g:∀z∈b,z<256) (x:Pl) (i:x.sn≤x.st∧x.st≤x.en∧x.en≤abk b) (a:iI (bT b x.st x.en)) {bs:List Bk} {er:Nat} (h:readAll (bT b x.st x.en)=(bs,er)):Calls abl 56 #[.agg #[vI (x.nx:Int),vI (x.sn:Int),vI (x.st:Int),vI (x.en:Int),.slice A (abk b) c]] w (Bo 73 85 w er bs):=by
 have k:=qva A c b B w d e hr hc f g x i a
 rwa [h] at k
def q7e (A:Option Addr) (c:Nat) (b:List Nat) (B:Nat) (w:World) (a:aM B w) (d:B≤w.heap.size) (hr:Rd w w.heap.size 1 A (abk b) (b.map B8)) (hc:abk b≤c) (h:abk b≤100000000) (f:∀z∈b,z<256) {e:Nat} {s:cO} (i j:Nat) (h1:i≤j) (h2:j≤abk b) (g:oz (bT b i j)=e) (hs:lJ (bT b i j)=s):Calls abl 112 #[.slice (if c=i then A else A.map (·.add (i*1))) (j-i) (c-i)] w (Mr w e s):=by
 subst g hs
 have k:=q6q (if c=i then A else A.map (·.add (i*1))) (c-i) (bT b i j) B w a d (by rw [Ht h2];exact zdx hr h1 h2 hc) (by rw [Ht h2];omega) (by rw [Ht h2];omega) (Sd f _ _)
 rwa [Ht h2] at k
theorem q7f (A:Option Addr) (c:Nat) (b:List Nat) (B:Nat) (w:World) (K:aM B w) (u:B≤w.heap.size) (hr:Rd w w.heap.size 1 A (abk b) (b.map B8)) (hc:abk b≤c) (L:abk b≤100000000) (C:∀z∈b,z<256) (x:Pl) (M:x.sn≤x.st∧x.st≤x.en∧x.en≤abk b) (l:iI (bT b x.st x.en)):
    Calls abl 54 #[.agg #[vI (x.nx:Int),vI (x.sn:Int),vI (x.st:Int),vI (x.en:Int),abg A b c]] w (Tf w b x):=by
 refine (dY Tryz.func54 45) ?_
 refine (JP∘JE) λT D=>(JA #[vI 0,vI 0,vQ 0,vN,vN,vN,vN,vN,vN]) λU E=>(Jp 1∘Jq) ?_
 obtain ⟨e,k⟩:∃e,oz (bT b x.sn x.st)=e:=⟨_,rfl⟩
 obtain ⟨V,hs⟩:∃s,lJ (bT b x.sn x.st)=s:=⟨_,rfl⟩
 obtain ⟨bs,y,f⟩:∃bs y,readAll (bT b x.st x.en)=(bs,y):=⟨_,_,rfl⟩
 refine (JG∘JP∘Jg 4 O1∘Jf 0∘Jg 1 O1∘Jf 0∘Jg 2 O1∘Jy (v:= .slice (if c=x.sn then A else A.map (·.add (x.sn*1))) (x.st-x.sn) (c-x.sn)) (h:=by exact aal aX (i:=x.sn) (j:=x.st) rfl rfl rfl rfl om om)∘JL (h:=by exact λd=>q7e A c b B _ (K.mem d u) (d.le u) (d.old hr) hc L C x.sn x.st M.1 om k hs)) ?_
 rintro d _ F ⟨z,rfl,hz,m,hm⟩
 refine ⟨_,rfl,_,(show Mem w F (.blk E #[vI 0,vI 0,vQ 0,vN,vN,vN,vN,vN,vN] 53:: .blk D #[vI x.nx,vI x.sn,vI x.st,vI x.en,abg A b c] 131::(iU z.st++([]))) from d.Jz (a:=[.blk E #[vI 0,vI 0,vQ 0,vN,vN,vN,vN,vN,vN] 53,.blk D #[vI x.nx,vI x.sn,vI x.st,vI x.en,abg A b c] 131]) hm),?_⟩
 refine (Jp 1∘Jx∘Jx∘JA #[vI 0,vI 0,vQ 0,vN,vN,vN,vN,vN]) λW R=>(JV zp aU (h1:=by exact K9 z)) λG=>(Jp 1∘Jj∘JQ∘JB∘JP∘Jp 3∘bG∘Jj) (Jh (λn=>?_) λn=>?_)
 ·
  refine (JT∘JP∘eH #[vI 0,vI 0,vQ 0,vN,vN,vN,vN,vN,vN]∘Jp 1∘JV bU fO) λN=>(Jp 1∘bG∘Jj∘JZ) λa Z d=>?_
  exact eG rfl Z (.cellS (i:=1) Z d rfl rfl bU rfl) (.tmp Z rfl) (Tg ((congrArg _ (zgy (by rw [k];omega))).trans (by rw [k])) om (d.pk []))
 have g:e=0:=by omega
 refine (JF∘JP∘Jg 0 O0∘Jf 0∘Jg 0 O2∘Jp 2∘gG∘Jj) (Jh (λo=>?_) λo=>?_)
 ·
  refine (JT∘JP∘eH #[vI 0,vI 0,vQ 0,vN,vN,vN,vN,vN,vN]∘JV bU fO) λO=>(Jp 1∘aK∘Jj∘JZ) λa Z d=>?_
  exact eG rfl Z (.cellS (i:=1) Z d rfl rfl bU rfl) (.tmp Z rfl) (Tg ((congrArg _ (zgz (k.trans g) (by rw [hs,hz.1];omega))).trans rfl) de (d.pk []))
 refine (JF∘aD∘JP∘eF zg0 O2∘JL (h:=by exact λd=>q0v A c b B _ (K.mem d u) (d.le u) (d.old hr) hc L C x M l f)) ?_
 rintro d _ S ⟨H,I,q,rfl,p,r,hm⟩
 have J:abk bs=abk q:=by rw [←p,abv]
 rw [J] at hm r⊢
 refine ⟨_,rfl,_,aaF (a:=[.blk R z.cells 50,.blk E #[vI 0,vI 0,vQ 0,vN,vN,vN,vN,vN,vN] 53,.blk D #[vI x.nx,vI x.sn,vI x.st,vI x.en,abg A b c] 131]) (b:=iU z.st++[]) d hm,?_⟩
 refine (Jp 1∘Jx∘Jx∘Jp 2∘Jj∘JQ∘JP∘Jp 2∘aK∘Jj) (Jh (λt=>?_) λt=>?_)
 ·
  refine (JT∘JP∘eH #[vI 0,vI 0,vQ 0,vN,vN,vN,vN,vN,vN]∘Jp 1∘JV bU iO) λP=>(Jp 1∘bG∘Jj∘JZ) λa Z d=>?_
  exact eG rfl Z (.cellS (i:=2) Z d rfl rfl bU rfl) (.tmp Z rfl) (Tg ((congrArg _ (q6b (k.trans g) (by rw [hs,hz.1];omega))).trans (by rw [f])) om (d.pk []))
 refine (JF∘aD∘JP∘eF zp O1∘Jp 1∘eH #[vI z.next,vI z.st.ak,vQ z.st.aj,abg z.st.gA z.st.gs z.st.gc,abg z.st.lA z.st.cl z.st.lc,abg z.st.uA z.st.cu z.st.uc,abg z.st.tA z.st.ts z.st.tc,abg z.st.sA z.st.rs z.st.sc,abg H q I]∘JV bU iO) λQ=>(Jp 1∘dU∘Jj∘JZ) λa Z d=>?_
 exact eG rfl Z (.cellS (i:=2) Z d rfl rfl bU rfl) (.tmp Z rfl) (zbj (z:=z) (A:=H) (c:=I) (q:=q) C (k.trans g) (by rw [hs,hz.1];omega) (by rw [f];show y=0;omega) (by rw [hs];exact hz) m (by rw [f];exact p) r (q6r l (by rw [f];show y=0;omega)) (zb0 (d.pt (fs':=(abj H q I hbL 85 5::(gJ 73 q++(iU z.st++([]))))) 4 [0])))
def qvb (A:Option Addr) (c:Nat) (q:List Hb) (B:Nat) (w:World) (U:aM B w) (O:B≤w.heap.size) (hr:Rd w w.heap.size 5 A (abk q) (q.flatMap hbL)) (V:nW w q) (J:∀h∈q,h.b.Ok) (K:∀h∈q,abk h.b.evs≤1000000) (hn:abk q≤1000000):
    Calls abl 47 #[.slice A (abk q) c] w (zf w (zc (q.map ac0)).2 (zc (q.map ac0)).1):=by
 refine (dY Tryz.func47 41) ?_
 refine (JP∘Jp 2∘Jr∘Jp 1∘Jr∘Jp 1∘Jq∘JC (h:=by exact λd=>d.nil 5 1)∘JG∘JQ∘JP∘Jp 1∘Jl∘Jp 1∘Jj∘JB) λa Z d=>?_
 refine qg (λP W X=>∃(k:Nat) (I:Bool) (R:List Nat) (u:Option Addr) (co:Nat),(k≤abk q)∧(dN (q.map ac0)=dN ((q.drop k).map ac0))∧(I=decide (524288<abk (dP ((q.take k).map ac0))))∧(I=false→R=dP ((q.take k).map ac0))∧(abk R≤524288)∧(abk R≤co)∧P=abk q-k∧Fr W 41 [] [(12,vI k),(11,vI (abk q)),(10,abg A q c),(5,.bool I),(4,abg u R co),(3,vI 0),(2,vN)]∧Mem w X [abh u R co B8 5 1]) (m:=abk q-0) ⟨0,false,[],none,0,abx _,by rw [List.drop_zero],rfl,by intro _;rfl,by simp,abo _,rfl,Z.sub kr,d.pk [0]⟩ ?_
 clear Z d;rintro P a w_ ⟨k,I,R,u,co,hk,s,o,L,y,t,rfl,Z,d⟩
 refine Jb Z d ((JP∘Jp 1∘Jj∘JQ) (Ji (λz=>?_) λz=>?_))
 ·
  have f:k<abk q:=by omega
  have C:=Xq f
  have M:=congrArg adw (Xr f)
  rw [abm] at M
  have Y:=Oz (q.getD k Hb.zero).b
  have htk:=q28 (q:=q) k
  refine (JT∘aD∘JQ∘JB∘JP) ?_
  obtain ⟨gA,oA,rfl,_⟩:=hr.sat k
  refine (gZ k 5∘Jy (v:= .agg ((q.getD k Hb.zero).b.cells (q.getD k Hb.zero).A (q.getD k Hb.zero).c)) (h:=by exact Pe rfl rfl aL rfl (λ_ h=>(h.old hr).AZ OE ((getD_at Hb.zero (k:=k) (by first|omega|(simp;omega))))))∘JA #[vB 0,vB 0,vI 0,vI 0,vN]) λw7 g7=>(JV aL aU (h1:=by exact tJ _ _ _)) λQ=>(bG∘Jr∘eF aL O0∘JK (h:=by exact λd=>q2v (q.getD k Hb.zero).b (J _ (qe Hb.zero f)) ((q.getD k Hb.zero).A) (q.getD k Hb.zero).c B _ (U.mem d O) (d.le O) (d.old (V.at f)) (K _ (qe Hb.zero f)) rfl rfl)) λMH c18 Dn S=>(Jp 1∘Jx∘Jx∘Jp 2∘Jj∘JQ∘JP∘Jp 2∘aK∘Jj) (Jh (λD=>?_) λD=>?_)
  ·
   have x:dN (q.map ac0)=(q.getD k Hb.zero).b.err:=by rw [s,C,if_neg om]
   exact (JT∘JP∘Jp 3∘Jj∘JZ∘bH) λd=>Fp d.below (qys (by rw [x];omega)) (by rw [x])
  have x:dN (q.map ac0)=dN ((q.drop (k+1)).map ac0):=by rw [s,C,if_pos om]
  refine (JF∘aD∘JP∘Jp 2) (Ju (λl=>?_) λl=>?_)
  ·
   have e:524288<abk (dP ((q.take k).map ac0)):=of_decide_eq_true (o.symm.trans l)
   refine (Jv 8 [(5,.bool true)]∘bG∘Jr∘Jp 2∘aK∘Jj∘JF∘aD∘JR∘cK 1∘Jp 1∘aK∘Jq) λa Z d=>?_
   exact ⟨_,om,k+1,true,R,u,co,by omega,x,(decide_eq_true om).symm,(by intro h;cases h),y,t,rfl,Z.sub kr,d.pk [2]⟩
  have e:¬524288<abk (dP ((q.take k).map ac0)):=of_decide_eq_false (o.symm.trans l)
  have p:=L l
  have T:abk R=abk (dP ((q.take k).map ac0)):=by rw [p]
  refine (Jp 1∘Jl∘Jp 1∘Jl∘Ja∘Jp 3∘aF∘Jr∘Jp 2∘aK∘Jj) (Ju (λg=>?_) λg=>?_)
  ·
   have E:=of_decide_eq_false ((adI _).mp g)
   intro a Z d
   replace Z:=Z.on 5 ((adI _).mp g)
   refine Jb Z d ((JT∘JR∘Jp 2∘JD ((q.getD k Hb.zero).b.out.map B8) 2 (λ_ _=>iO) aX (hr:=by exact λd=>d.rd (i:=0) rfl) (h1:=by exact sj _)) λDv F G r=>λa Z d=>?_)
   rw [show (R.map B8)++((q.getD k Hb.zero).b.out.map B8)=(R++(q.getD k Hb.zero).b.out).map B8 from by rw [abP]] at d
   refine Jb Z d ((Jp 1∘dU∘Jq) ?_)
   have j:abk R+((q.getD k Hb.zero).b.out.length)=abk (R++(q.getD k Hb.zero).b.out):=by rw [abm]
   rw [j] at r
   refine (JC (h:=by exact λd=>d.aT (i:=2) (ys:=(R++(q.getD k Hb.zero).b.out).map B8) rfl j (rfl))∘Jk 4 (.slice F (abk (R++(q.getD k Hb.zero).b.out)) G) (h:=by exact gF j)∘JG∘JR∘cK 1∘Jp 1∘aK∘Jq) λa Z d=>?_
   exact ⟨_,om,k+1,false,(R++(q.getD k Hb.zero).b.out),F,G,by omega,x,(decide_eq_false om).symm,(by intro _;rw [p,Xr f]),(by rw [abm];omega),r,rfl,Z.sub kr,d.pk [2]⟩
  have E:=of_decide_eq_true ((ae3 _).mp g)
  intro a Z d
  replace Z:=Z.on 5 ((ae3 _).mp g)
  refine Jb Z d ((JF∘aD∘JR∘cK 1∘Jp 1∘aK∘Jq) λa Z d=>?_)
  exact ⟨_,om,k+1,true,R,u,co,by omega,x,(decide_eq_true om).symm,(by intro h;cases h),y,t,rfl,Z.sub kr,d.pk [2]⟩
 have hkn:k=abk q:=by omega
 have H:dN (q.map ac0)=0:=by rw [s,acw om];rfl
 have N:q.take k=q:=List.take_of_length_le om
 rw [N] at o L
 refine (JF∘JX∘JG∘JQ∘JP∘Jp 1∘Jj) (Ju (λn=>?_) λn=>?_)
 ·
  have e:524288<abk (dP (q.map ac0)):=of_decide_eq_true (o.symm.trans n)
  exact (JT∘JP∘Jp 2∘Jj∘JZ∘bH) λd=>Fp d.below (qti H e) rfl
 have e:¬524288<abk (dP (q.map ac0)):=of_decide_eq_false (o.symm.trans n)
 have p:=L n
 exact (JF∘aD∘JP∘Jp 3∘Jj∘JZ∘bH) λd=>by rw [Xp H e,←p];exact ⟨⟨u,co,rfl,d.own (i:=0) rfl,t⟩,d.below⟩
def q0w (A:Option Addr) (c:Nat) (l:List Pm) (B:Nat) (w:World) (W:aM B w) (S:B≤w.heap.size) (hr:Rd w w.heap.size 9 A (abk l) (l.flatMap iB)) (X:∀p∈l,gq p∧dL w p) (hc:abk l≤c) (hn:abk l≤1000000):
    Calls abl 15 #[.slice A (abk l) c] w (Is w (.tuple #[vI (mU (l.map Pm.v)).1,vI ((mU (l.map Pm.v)).2:Int)])):=by
 refine (dY Tryz.func15 52) ?_
 refine (JP∘Jp 2∘Jj∘JQ∘JP∘Jp 1∘Jl∘Jp 1∘bG∘Jj) (Ji (λy=>?_) λy=>?_)
 ·
  exact (JT∘JP∘Jp 2∘Jj∘JZ∘bH) λd=>Au (m:=5) (if_pos (by rw [abv];omega)) rfl d.below
 refine (JF∘aD∘JP∘Jp 1∘Jj∘JQ∘JP∘Jp 1∘Jl∘Jp 1∘Jj∘JB) λa Z d=>?_
 refine qg (λC J K=>∃(i:Nat) (last:Int),(i≤abk l)∧(aQ last)∧(mU (l.map Pm.v)=ko ((l.map Pm.v).drop i) last i)∧C=abk l-i∧Fr J 52 [] [(16,vI i),(15,vI (abk l)),(14,abg A l c),(4,vI last),(13,.bool false),(3,vI 0),(2,vI 0),(0,abg A l c)]∧Mem w K []) (m:=abk l-0) ⟨0,0,abx _,(show aQ (0:Int) from by unfold aQ;decide),(if_neg (by rw [abv];omega)),rfl,Z.sub kr,d.pk []⟩ ?_
 clear Z d;rintro C a Y ⟨i,last,hi,L,g,rfl,Z,d⟩
 refine Jb Z d ((JP∘Jp 1∘Jj∘JQ) (Ji (λD=>?_) λD=>?_))
 ·
  have j:i<abk l:=by omega
  obtain ⟨x,M⟩:∃x,(l.getD i Pm.zero)=x:=⟨_,rfl⟩
  obtain ⟨e,o⟩:=X x (by rw [←M];exact qe Pm.zero j)
  have n:=Sj (last:=last) j
  rw [M] at n
  have N:=e.nx
  intro a Z d
  unfold aQ at N
  have hxl:=e.len
  refine Jb Z d ((JT∘aD∘JQ∘JB∘JP∘Jp 1) ?_)
  obtain ⟨gA,T,rfl,_⟩:=hr.sat i
  refine (gZ i 9∘oQ Pm.cells qc5 hr bU i Pm.zero (hk:=j)∘Jo (.agg x.cells) (by rw [M])∘JA #[vI 0,vI 0,vQ 0,vN,vN,vN,vN,vN,vN]) λw6 U=>(Jp 1∘JV bU aU (h1:=by exact Ec x)) λV=>(Jj∘JQ∘JP∘Jf 0∘Jy (v:= .agg x.z.cells) (h:=by exact Pe rfl rfl zp rfl (λ_ h=>h.sub (i:=0) rfl 0 rfl))∘JI (h:=by exact λd=>SQ x.z e.ok e.few e.cap _ (o.st.old d))) λKI E=>(Jp 1∘dU∘Jr∘Jp 2∘aK∘Jj) (Jh (λF=>?_) λF=>?_)
  ·
   exact (JT∘JP∘Jp 4∘Jj∘JZ∘bH) λd=>Au (g.trans (n.trans (if_pos om))) rfl d.below
  refine (JF∘aD∘JQ∘JP∘Jg 8 O0∘Jl∘Jp 1∘Jj∘JB) λa Z d=>?_
  refine qg (λC J K=>∃(k:Nat),(k≤abk x.q)∧(dN (x.q.map ac0)=dN ((x.q.drop k).map ac0))∧C=abk x.q-k∧Fr J 52 [] [(31,vI k),(30,vI (abk x.q)),(29,abg x.A x.q x.c),(25,.bool false),(7,vI (bJ x.z)),(5,vI i),(6,vP U 0),(17,.bool true),(16,vI i),(15,vI (abk l)),(14,abg (some ⟨gA,T,none⟩) l c),(4,vI last),(13,.bool false),(3,vI 0),(2,vI 0),(0,abg (some ⟨gA,T,none⟩) l c)]∧Mem w K [.blk U x.cells 53]) (m:=abk x.q-0) ⟨0,abx _,rfl,rfl,Z.sub kr,d.pk [0]⟩ ?_
  clear Z d;rintro C a Y ⟨k,hk,r,rfl,Z,d⟩
  refine Jb Z d ((JP∘Jp 1∘Jj∘JQ) (Ji (λG=>?_) λG=>?_))
  ·
   have f:k<abk x.q:=by omega
   have t:=Xq f
   refine (JT∘aD∘JQ∘JB∘JP) ?_
   obtain ⟨O,P,u,_⟩:=Rd.sat o.bl k
   have s:=o.bl;rw [u] at s
   refine (Jk 29 (.slice (some ⟨O,P,none⟩) (abk x.q) x.c) (h:=by rw [u];try rfl)∘gZ k 5∘Jy (v:= .agg ((x.q.getD k Hb.zero).b.cells (x.q.getD k Hb.zero).A (x.q.getD k Hb.zero).c)) (h:=by exact Pe rfl rfl aL rfl (λ_ h=>(h.old s).AZ OE ((getD_at Hb.zero f))))∘JA #[vB 0,vB 0,vI 0,vI 0,vN]) λw9 g9=>(JV aL aU (h1:=by exact tJ _ _ _)) λQ=>(bG∘Jr∘eF aL O0∘JL (h:=by exact λd=>qyn (x.q.getD k Hb.zero).b (e.Cx _ (qe Hb.zero f)) ((x.q.getD k Hb.zero).A) (x.q.getD k Hb.zero).c B _ (W.mem d S) (d.le S) (d.old (o.ev.at f)) (e.Eb _ (qe Hb.zero f)))) ?_
   rintro d _ SN ⟨rfl,E⟩
   refine ⟨_,rfl,_,d.call E,?_⟩
   refine (Jp 1∘bG∘Jr∘Jp 2∘aK∘Jj) (Jh (λH=>?_) λH=>?_)
   ·
    exact (JT∘JP∘Jp 4∘Jj∘JZ∘bH) λd=>Au (g.trans (n.trans ((if_neg om).trans (if_pos (by rw [r,t,if_neg om];omega))))) (by rw [r,t,if_neg om]) d.below
   refine (JF∘aD∘JR∘cK 1∘Jp 1∘aK∘Jq) λa Z d=>?_
   replace Z:=Z.sp 29 (abg x.A x.q x.c) rfl (by rw [u])
   exact ⟨_,om,k+1,by omega,(r.trans (by rw [t,if_pos om])),rfl,Z.sub kr,d.pk [1]⟩
  have he0:dN (x.q.map ac0)=0:=by rw [r,acw om];rfl
  refine (JF∘JX∘JG∘JQ∘JP∘Jf 0∘Jg 0 O0∘Jp 2∘dU∘Jj) (Ji (λI=>?_) λI=>?_)
  ·
   exact (JT∘JP∘Jp 3∘Jj∘JZ∘bH) λd=>Au (m:=411) (g.trans (n.trans ((if_neg om).trans ((if_neg om).trans (if_pos om))))) rfl d.below
  refine (JF∘aD∘JR∘Jf 0∘Jg 0 O0∘Jp 1∘bG∘Jj∘JR∘cK 1∘Jp 1∘aK∘Jq) λa Z d=>?_
  exact ⟨_,om,i+1,x.z.next,by omega,e.nx,(g.trans (by rw [n,if_neg om,if_neg om,if_neg om])),rfl,Z.sub kr,d.pk []⟩
 have R:i=abk l:=by omega
 exact (JF∘JX∘JG∘JP∘Jp 2∘Jj∘JZ∘bH) λd=>Au (m:=0) (g.trans (by rw [R];exact q6e)) rfl d.below
def M7 (A:Option Addr) (c:Nat) (l:List Pm) (B:Nat) (w:World) (a:aM B w) (b:B≤w.heap.size) (hr:Rd w w.heap.size 9 A (abk l) (l.flatMap iB)) (d:∀p∈l,gq p∧dL w p) (hc:abk l≤c) (e:abk l≤1000000) {ci:Int} {ce:Nat} (h:mU (l.map Pm.v)=(ci,ce)):Calls abl 15 #[.slice A (abk l) c] w (Is w (.tuple #[vI ci,vI ce])):=by
 have k:=q0w A c l B w a b hr d hc e
 rwa [h] at k
theorem zb2 (A:Option Addr) (c:Nat) (q:List Hb) (B:Nat) (w:World) (e:aM B w) (f:B≤w.heap.size) (hr:Rd w w.heap.size 5 A (abk q) (q.flatMap hbL)) (g:nW w q) (a:∀h∈q,h.b.Ok) (d:∀h∈q,abk h.b.evs≤1000000) (i:abk q≤1000000) {l:List Nat} {m:Nat} (h:zc (q.map ac0)=(l,m)):Calls abl 47 #[.slice A (abk q) c] w (zf w m l):=by
 have k:=qvb A c q B w e f hr g a d i
 rwa [h] at k
def zh0 (l:List Nat):∀b∈([113,97,1]++l.flatMap au),b<256:=λb a=>by
 rcases abV.1 a with h|h
 ·simp only [abQ,List.not_mem_nil,or_false] at h
  omega
 ·obtain ⟨x,_,c⟩:=acK.1 h
  exact xK x b c
def kC (l:List Pm):List Nat:=[113,97,1]++(bS l (abk l)).flatMap au
def zh1 (l:List Pm):∀b∈kC l,b<256:=zh0 _
def zb3 {l:List Pm} (a:abk l≤100000):abk (kC l)≤16777216:=by
 unfold kC
 rw [abm]
 have h1:=zm (bS l (abk l))
 have h2:=Hu (l:=l) (abk l) (abo _)
 have h9:abk ([113,97,1]:List Nat)=3:=rfl
 omega
theorem Uc {l:List Pm}:bA (kC l)=headA (l.map Pm.v):=by unfold headA kC;rw [q6f]
def q7i {p:List Nat×Nat} {h R d:List Nat} (b:p=(h++d,0)) (e:R=h) (a:W.ownsRow w.heap.size 5 1 (.slice A (abk R+abk d) c) (abk R+abk d) (R.map B8++d.map B8)) (hc:abk R+abk d≤c) (hb:Below w.heap.size w W):zf w p.2 p.1 (.returned (.tuple #[.slice A (abk R+abk d) c,vI 0])) W:=by
 subst b e
 rw [←abm] at a hc⊢
 rw [←abP] at a
 exact ⟨⟨A,c,rfl,a,hc⟩,hb⟩
def zb4 {l:List Pm} (a:abk l≤100000):abk (bA (kC l))≤10000000:=by
 unfold kC
 rw [uq,abm]
 have h1:=zm (bS l (abk l))
 have h2:=Hu (l:=l) (abk l) (abo _)
 have h9:abk ([113,97,1]:List Nat)=3:=rfl
 omega
def M8 (A:Option Addr) (c:Nat) (l:List Pm) (B:Nat) (w:World) (hL:aM B w) (J:B≤w.heap.size) (hr:Rd w w.heap.size 9 A (abk l) (l.flatMap iB)) (hP:∀p∈l,gq p∧dL w p) (hc:abk l≤c) (hn:abk l≤100000):
    Calls abl 16 #[.slice A (abk l) c] w (zf w (nK (l.map Pm.v)).2 (nK (l.map Pm.v)).1):=by
 refine (dY Tryz.func16 104) ?_
 refine (JP∘Jp 2∘Jq) ?_
 obtain ⟨ci,ce,t⟩:∃ci ce,mU (l.map Pm.v)=(ci,ce):=⟨_,_,rfl⟩
 refine (JG∘JQ∘JP∘Jp 1∘JI (h:=by exact λf=>M7 A c l B _ (hL.mem f J) (f.le J) (f.old hr) (λp hp=>⟨(hP p hp).1,(hP p hp).2.old f⟩) hc om t)) λQS hbw=>(Jp 1∘Jx∘Jx∘Jp 2∘aF∘Jr∘Jp 2∘aK∘Jj) (Jh (λW=>?_) λW=>?_)
 ·
  exact (JT∘JP∘Jp 3∘Jj∘JZ∘bH) λf=>Fp f.below (qnj t om) rfl
 have u:ce=0:=by omega
 refine (JF∘aD∘JP∘Jp 1∘Jl∘Jw .u64∘JU kP #[vQ (abk l)]) λTP L=>(Jp 1∘gG∘Jq) λa Z f=>?_
 replace f:=(f.eB (i:=0) (n:=1) (size:=1) rfl rfl de).bM (i:=0) (ys:=(bS l 0).map bq) rfl (rfl)
 replace f:Mem w _ [.row (vS L (abk (bS l 0)) 1) (abk (bS l 0)) ((bS l 0).map bq) 41 1]:=f
 replace Z:=Z.sp 6 (.slice (some ⟨L,0,none⟩) (abk (bS l 0)) 1) rfl rfl
 refine Jb Z f ((JG∘JP∘Jp 1∘Jq∘JC (h:=by exact λf=>f.nil 5 1)∘JG∘JP∘Jp 1∘Jj∘JQ∘JP∘Jp 1∘Jl∘Jp 1∘Jj∘JB) λa Z f=>?_)
 refine qg (λmS aS wS=>∃(i:Nat) (An:Option Addr) (X:Nat) (d:List Nat) (V:Option Addr) (M:Nat) (N:Bool),(i≤abk l)∧(stA (l.map Pm.v) i=(d,N))∧(abk (bS l i)≤X)∧(abk d≤M)∧(abk d≤16777216)∧mS=abk l-i∧Fr aS 104 [] [(31,vI i),(30,vI (abk l)),(29,abg A l c),(8,.bool N),(7,abg V d M),(6,abg An (bS l i) X),(23,.bool false),(5,vI ce),(3,vI 0),(2,vN),(0,abg A l c)]∧Mem w wS [abh V d M B8 5 1,abh An (bS l i) X bq 41 1]) (m:=abk l-0) ⟨0,some ⟨L,0,none⟩,1,[],none,0,false,abx _,rfl,abo _,abo _,abx _,rfl,Z.sub kr,f.pk [0,1]⟩ ?_
 clear Z f;rintro mS a w_ ⟨i,An,X,d,V,M,N,hi,y,hcn,O,P,rfl,Z,f⟩
 refine Jb Z f ((JP∘Jp 1∘Jj∘JQ) (Ji (λY=>?_) λY=>?_))
 ·
  have j:i<abk l:=by omega
  obtain ⟨x,Q⟩:∃x,(l.getD i Pm.zero)=x:=⟨_,rfl⟩
  obtain ⟨s,R⟩:=hP x (by rw [←Q];exact qe Pm.zero j)
  obtain ⟨C,we,S⟩:∃C we,zc (x.q.map ac0)=(C,we):=⟨_,_,rfl⟩
  have hwl:abk C≤524288:=by have h:=KU (x.q.map ac0);rwa [S] at h
  have hol:=qxf x.z
  have hns:=q0g j Q S
  have hnl:=Hu (l:=l) i hi
  refine (JT∘aD∘JQ∘JB∘JP) ?_
  obtain ⟨gA,oA,rfl,_⟩:=hr.sat i
  refine (gZ i 9∘oQ Pm.cells qc5 hr bU i Pm.zero (hk:=j)∘Jo (.agg x.cells) (by rw [Q])∘JA #[vI 0,vI 0,vQ 0,vN,vN,vN,vN,vN,vN]) λuz g10=>(JV bU aU (h1:=by exact Ec x)) λOj=>(bG∘Jr∘Jf 0∘Jy (v:= .agg x.z.cells) (h:=by exact Pe rfl rfl zp rfl (λ_ h=>h.sub (i:=0) rfl 0 rfl))∘JK (h:=by exact λf=>q0l x.z s.ok s.few s.cap B _ (hL.mem f J) (f.le J) (R.st.old f))) λA38 c38 KJ hc38=>(Jp 1∘Jx∘Jx∘Jp 2∘mZ∘Jr∘Jg 8 O1∘JK (h:=by exact λf=>zb2 x.A x.c x.q B _ (hL.mem f J) (f.le J) (f.old R.bl) (R.ev.old f) s.Cx s.Eb s.len S)) λIm Io Ox CP=>(Jp 1∘Jx∘Jx∘Jp 2∘Jr∘Jp 1∘Jf 0∘Jg 0 O2∘Jv 1 [(51,vQ (IntKind.u64.wrap x.z.next))]∘Jo (vQ (aH x.z.next)) (by exact Py _)∘Jp 1∘Jl∘Jw .u64∘Jp 1∘Jl∘Jw .u64∘JU kP #[vQ (aH x.z.next),vQ (abk (dh x.z):Nat),vQ (abk C)]) λLZ g58=>(JD ([aH x.z.next,abk (dh x.z),abk C].map bq) 5 (λ_ _=>uw) kP (hr:=by exact λf=>f.aW (i:=0) (n:=3) (size:=1) rfl rfl) (h1:=by exact uV _)) λRs D E Ud=>(Jp 1∘aF∘Jq) ?_
  have o:(abk (bS l i))+3=abk (bS l (i+1)):=by rw [hns,abm];rfl
  rw [o] at Ud
  refine (JC (h:=by exact λf=>f.aT (i:=5) (ys:=(bS l (i+1)).map bq) rfl o (by rw [hns,abP]))∘Jk 6 (.slice D (abk (bS l (i+1))) E) (h:=by exact gF o)∘JG∘JP∘Jp 2) (Ju (λF=>?_) λF=>?_)
  ·
   have G:N=true:=by simpa using F
   refine (Jv 15 [(8,.bool true)]∘bG∘Jj∘JQ∘JP∘Jp 1∘Jj∘JT∘JX∘JG∘JR∘cK 1∘Jp 1∘aK∘Jq) λa Z f=>?_
   exact ⟨_,om,i+1,D,E,d,V,M,true,by omega,qux j Q y S (by first|exact .inl G|exact .inr (.inl om)|exact .inr (.inr om)),by omega,O,P,rfl,Z.sub kr,f.pk [4,5]⟩
  have Ue:¬N=true:=by simpa using F
  refine (Jp 4) (Jh (λUf=>?_) λUf=>?_)
  ·
   refine (Jv 11 [(8,.bool true)]∘aF∘Jj∘JQ∘JP∘Jp 1∘Jj∘JT∘JX∘JG∘JR∘cK 1∘Jp 1∘aK∘Jq) λa Z f=>?_
   exact ⟨_,om,i+1,D,E,d,V,M,true,by omega,qux j Q y S (by first|exact .inl G|exact .inr (.inl om)|exact .inr (.inr om)),by omega,O,P,rfl,Z.sub kr,f.pk [4,5]⟩
  refine (Jp 1∘Jl∘Jp 1∘Jl∘Ja∘Jp 1∘Jl∘Ja∘Jp 3∘aF∘Jj∘JQ∘JP∘Jp 1∘Jj) (Ju (λk=>?_) λk=>?_)
  ·
   have Ug:=of_decide_eq_true k
   intro a Z f
   replace Z:=Z.on 8 k
   refine Jb Z f ((JT∘JX∘JG∘JR∘cK 1∘Jp 1∘aK∘Jq) λa Z f=>?_)
   exact ⟨_,om,i+1,D,E,d,V,M,true,by omega,qux j Q y S (by first|exact .inl G|exact .inr (.inl om)|exact .inr (.inr om)),by omega,O,P,rfl,Z.sub kr,f.pk [4,5]⟩
  have Ug:=of_decide_eq_false k
  intro a Z f
  replace Z:=Z.on 8 k
  refine Jb Z f ((JF∘aD∘JR∘Jp 2∘JD ((dh x.z).map B8) 4 (λ_ _=>sF) aX (hr:=by exact λf=>f.rd (i:=2) rfl) (h1:=by exact sj _)) λYi GI GJ Rj=>(Jp 1∘JD (C.map B8) 4 (λ_ _=>sF) aX (hr:=by exact λf=>f.rd (i:=1) rfl) (h1:=by exact sj _)) λw81 A81 c81 K=>(Jp 1∘lT∘Jq) ?_)
  have r:(abk d+(abk (dh x.z)))+abk C=abk (d++dh x.z++C):=by rw [abm,abm]
  rw [r] at K
  refine (JC (h:=by exact λf=>f.aT (i:=4) (ys:=(d++dh x.z++C).map B8) rfl r (by rw [abP,abP]))∘Jk 7 (.slice A81 (abk (d++dh x.z++C)) c81) (h:=by exact gF r)∘JG∘JR∘cK 1∘Jp 1∘aK∘Jq) λa Z f=>?_
  exact ⟨_,om,i+1,D,E,(d++dh x.z++C),A81,c81,false,by omega,zj8 j Q y S (by rintro (h|h|h)<;>first|(exact absurd h Ue)|omega),by omega,K,by rw [abm,abm];omega,rfl,Z.sub kr,f.pk [4,5]⟩
 obtain rfl:i=abk l:=by omega
 have aqA:=Hu (l:=l) (abk l) (abo _)
 have aqB:=zm (bS l (abk l))
 have aqC:=q6g (l:=l) (i:=abk l)
 refine (JF∘JX∘JG∘JP∘JU aX #[vB 113,vB 97,vB 1]) λw84 g84=>λa Z f=>?_
 refine fo Z 1 rfl rfl ?_
 refine X9 Z f 0 (e:=5) rfl rfl rfl kr kr rfl de ?_
 clear Z f;intro a w85 Z f
 refine Jb Z f ((Jp 1∘JK (h:=by exact λf=>KF An (abk (bS l (abk l))) X (bS l (abk l)) _ (f.rd (i:=2) rfl) (zba om _) (by have:=Hu (l:=l) (abk l) (abo _);omega))) λA87 c87 LU aqD=>λa Z f=>?_)
 refine fo Z 4 rfl rfl ?_
 refine ND Z f (xs:=([113,97,1]:List Nat).map B8) (news:=((bS l (abk l)).flatMap au).map B8) rfl aX rfl rfl (f.uW (i:=1) (size:=1) (n:=3) rfl rfl) (f.rd (i:=0) rfl) om om (λh=>by cases h) om om rfl de ?_
 clear Z f;intro a w88 Sw c88 Z f Uh
 have g:3+abk ((bS l (abk l)).flatMap au)=abk (kC l):=by unfold kC;rw [abm];rfl
 rw [g] at Uh
 replace f:=f.aT (i:=0) (ys:=(kC l).map B8) rfl g (by unfold kC;rw [abP])
 replace Z:=Z.sp 88 (vS Sw (abk (kC l)) c88) rfl (gF g)
 refine Jb Z f ((JK (h:=by exact λf=>Ot (some ⟨Sw,0,none⟩) (abk (kC l)) c88 (kC l) B _ (hL.mem f J) (f.le J) (f.rd (i:=0) rfl) rfl (zb3 hn) (zh1 l))) λMw Mx QL CG=>(Jp 1∘Jx∘Jx∘Jp 2∘mZ∘Jq) ?_)
 have H:stA (l.map Pm.v) (abk (l.map Pm.v))=(d,N):=by rw [abv];exact y
 have hhd:abk (bA (kC l))≤10000000:=zb4 hn
 refine (JG∘JQ∘JP∘Jp 2) (Ju (λI=>?_) λI=>?_)
 ·
  exact (Jp 7∘aF∘Jj∘JT∘JP∘Jp 2∘Jj∘JZ∘bH) λf=>Fp f.below (qle t u H (.inl (by simpa using I))) rfl
 have Ui:¬N=true:=by simpa using I
 refine (Jp 1∘Jl∘Jp 1∘Jl∘Ja∘Jp 2∘aF∘Jj) (Ji (λT=>?_) λT=>?_)
 ·
  exact (JT∘JP∘Jp 2∘Jj∘JZ∘bH) λf=>Fp f.below (qle t u H (.inr (by rw [←Uc];omega))) rfl
 exact (JF∘aD∘JP∘Jp 2∘JD (d.map B8) 0 (λ_ _=>aU) aX (hr:=by exact λf=>f.rd (i:=4) rfl) (h1:=by exact sj _)) λSz aqE aqF U=>(Jp 2∘Jj∘JZ∘bH) λf=>q7i (q6h t u H (by rw [←Uc];rintro (h|h)<;>first|(exact absurd h Ui)|omega)) Uc (f.own (i:=0) rfl) U f.below
def zdy {n:Nat} {l:List Nat} (h:Rd w B 1 A n (l.map B8)) (hk:k≤n):Rd w B 1 A k ((l.take k).map B8):=by
 have h2:=h.upto hk
 rwa [Nat.mul_one,←List.map_take] at h2
theorem q7g {p sum:Nat} {out:List Pl} (h:∀x∈out,x.sn≤sum∧x.st≤sum∧x.en≤sum):∀x∈out++[lM b p sum],x.sn≤sum+kX b p+mI b p∧x.st≤sum+kX b p+mI b p∧x.en≤sum+kX b p+mI b p:=λx a=>by
 rcases abV.1 a with a|a
 ·have:=h x a;omega
 ·rw [adf.1 a]
  unfold lM
  dsimp only
  omega
def El {l:List α} {i:Nat} {t u:α} (h:l[i]?=some t):(l.set i u)[i]?=some u:=acJ (aby.1 h).1
theorem zhz (l:List Pl):∀v∈l.flatMap j6,v.oneCell'=true:=by
 intro v a
 obtain ⟨x,_,b⟩:=acK.1 a
 exact zj7 x v b
def MZ (W w:World) (g i k:Nat) (A:Option Addr) (c:Nat) (b:List Nat) (p:Nat) (m:Bool) (most:Nat) (fr:List Fact) (s:∀z∈b,z<256) (t:p≤abk b) (B:abk b≤100000000) (hr:Rd W W.heap.size 1 A (abk b) (b.map B8)) (hc:abk b≤c) (o:most≤4611686018427387904)
    (d:Mem W w (.blk g #[abg A b c] 30:: .blk i #[vI p] 3:: .blk k #[.bool m] 4::fr)):
    Calls abl 51 #[vI most,vP g 0,vP i 0,vP k 0] w (AA W g i k b A c p m most fr):=by
 refine qI Tryz.func51 [vI most,vP g 0,vP i 0,vP k 0] [(0,vI most),(1,vP g 0),(2,vP i 0),(3,vP k 0)] λa Z=>?_
 refine Jb Z d ((JP∘Jp 1∘Jq) ?_)
 have q:=y8 (b.drop p)
 rw [abH] at q
 have u:=qed (b.drop p) (λz hz=>s z (abU hz))
 have x:=zK most (b.drop p)
 refine (JG∘JP∘Jc O0∘Jc O1∘Jy (h:=by exact aag aX (j:=p) rfl rfl rfl om)∘JL (h:=by exact λd=>Nk _ _ _ (b.drop p) _ (Rd.NK (d.old hr) t hc) (λz hz=>s z (abU hz)) om)) ?_
 rintro d _ y ⟨rfl,r⟩
 refine ⟨_,rfl,_,d.call r,?_⟩
 refine (Jp 1∘Jx∘Jx∘Jx∘Jp 3∘Jr∘Jc O2∘Jp 1) (Ju (λe=>?_) λe=>?_)
 ·
  refine (Jp 4) (Je (λn=>?_) λn=>?_)
  ·
   exact (Jp 2∘Jw .u64∘Jp 2∘JW iO aU) λf=>(iA∘Jr∘Jc O1∘Jp 1∘Ja∘JW fO aU) λl=>(iA∘Jr∘Jp 2∘Jw .u64∘Jy (v:=vQ (if (most:Int)<((aB (b.drop p)).1:Int) then (most:Int) else ((aB (b.drop p)).1:Int))) (h:=by exact Yl.min rfl rfl rfl)∘Jo (vQ (bK most (b.drop p))) (by rw [Dt])∘Jw .i64∘Jp 1∘aF∘Jj∘JZ∘JC (h:=by exact λd=>d.pt (fs':=(.blk g #[abg A b c] 30:: .blk i #[vI (p+((aB (b.drop p)).2.1):Nat)] 3:: .blk k #[.bool (decide (((aB (b.drop p)).1:Int)≤(most:Int)))] 4::fr)) 3 [0,1,2])∘aZ) λd=>Tj rfl (by rw [e,acF];unfold eO ji;rw [acg];simp only [decide_eq_true_eq];omega) d
  exact (Jp 5∘JW iO aU) λf=>(iA∘Jr∘Jc O1∘Jp 1∘Ja∘JW fO aU) λl=>(iA∘Jr∘Jp 2∘Jw .u64∘Jy (v:=vQ (if (most:Int)<((aB (b.drop p)).1:Int) then (most:Int) else ((aB (b.drop p)).1:Int))) (h:=by exact Yl.min rfl rfl rfl)∘Jo (vQ (bK most (b.drop p))) (by rw [Dt])∘Jw .i64∘Jp 1∘aF∘Jj∘JZ∘JC (h:=by exact λd=>d.pt (fs':=(.blk g #[abg A b c] 30:: .blk i #[vI (p+((aB (b.drop p)).2.1):Nat)] 3:: .blk k #[.bool false] 4::fr)) 3 [0,1,2])∘aZ) λd=>Tj rfl (by unfold eO;rw [WS om,Bool.and_false]) d
 exact (Jv 9 [(27,.bool false)]∘JW iO aU) λf=>(wT∘Jr∘Jc O1∘Jp 1∘Ja∘JW fO aU) λl=>(wT∘Jr∘Jp 2∘Jw .u64∘Jy (v:=vQ (if (most:Int)<((aB (b.drop p)).1:Int) then (most:Int) else ((aB (b.drop p)).1:Int))) (h:=by exact Yl.min rfl rfl rfl)∘Jo (vQ (bK most (b.drop p))) (by rw [Dt])∘Jw .i64∘Jp 1∘lT∘Jj∘JZ∘JC (h:=by exact λd=>d.pt (fs':=(.blk g #[abg A b c] 30:: .blk i #[vI (p+((aB (b.drop p)).2.1):Nat)] 3:: .blk k #[.bool false] 4::fr)) 3 [0,1,2])∘aZ) λd=>Tj rfl (by rw [e,Bool.false_and]) d
def TU (A:Option Addr) (c:Nat) (b:List Nat) (B:Nat) (w:World) (hL:aM B w) (hB:B≤w.heap.size) (hr:Rd w w.heap.size 1 A (abk b) (b.map B8)) (hc:abk b≤c) (hn:abk b≤100000000) (P:∀z∈b,z<256):
    Calls abl 18 #[.slice A (abk b) c] w (Eh w (bW b)):=by
 refine (dY Tryz.func18 129) ?_
 refine (JP∘Bf) λw1 q=>(Jp 2∘Jj∘JQ∘JB∘JP∘Jc O0∘Jl∘Jp 2∘dU∘Jj) (Ji (λQ=>?_) λQ=>?_)
 ·
  exact (JT∘JP∘Jp 2∘Jj∘JZ∘bH) λd=>yV d.below (za9 om) rfl
 have e:¬16777216<abk b:=by omega
 refine (JF∘JP∘Jc O0∘Jl∘Jp 2) (Ji (λR=>?_) λR=>?_)
 ·
  have N:¬(b.take 3=[113,97,1]):=λh=>by have:=congrArg adw h;rw [abu] at this;have h9:abk ([113,97,1]:List Nat)=3:=rfl;omega
  exact (Jp 6∘aF∘Jj∘JT∘JP∘Jp 2∘Jj∘JZ∘bH) λd=>yV d.below (qxd e N) rfl
 have h3:3≤abk b:=by omega
 refine (Jc O0∘Jy (h:=by exact aaf aX (j:=3) rfl rfl rfl om)∘Jy (h:=by exact aaC rfl rfl (λ_ h=>zdy (h.old hr) om))∘Jp 1∘Jo (.bool (!(decide (b.take 3=[113,97,1])))) (by rw [show (⟨#[113,97,1]⟩:ByteArray)=jH [113,97,1] from rfl,zej (λz hz=>P z (ach hz)) de])∘Jp 2∘aF∘Jj) (oJ (λG=>?_) λG=>?_)
 ·
  have N:¬(b.take 3=[113,97,1]):=G
  exact (JT∘JP∘Jp 2∘Jj∘JZ∘bH) λd=>yV d.below (qxd e N) rfl
 have o:b.take 3=[113,97,1]:=G
 refine (JF∘aD∘JP∘JA #[vI 0]) λw4 r=>(JW aU aU) λTT=>(Jq) ?_
 obtain ⟨K,J⟩:∃K,dF b 3 1024=K:=⟨_,rfl⟩
 have hK2:K≤1024:=by rw [←J];exact R7
 refine (JG∘JP∘JA #[.bool false]) λw5 s=>(JW aU aU) λOH=>(Jr∘Jy (h:=by exact Yl.makeFunc (fst:=[]) (caps:=[vP q 0,vP r 0,vP s 0]) rfl rfl rfl)∘Jp 1∘aK∘Jr∘Jp 1∘Jq∘JC (h:=by exact λd=>d.nil 57 4)∘JG∘JP∘Jp 2∘Jj∘JQ∘JP∘Jp 1) λa Z d=>?_
 refine fo Z 1 rfl rfl ?_
 replace d:=d.pk (fs':=[.blk q #[abg A b c] 30,.blk r #[vI 3] 3,.blk s #[.bool true] 4,.row (vN) 0 [] 57 4]) [3,2,1,0]
 refine mY Z (f:=51) (vs:=[vI 1024]) (fst:=[]) (caps:=[vP q 0,vP r 0,vP s 0]) rfl rfl rfl kr rfl de (MZ w _ q r s A c b 3 true 1024 [.row (vN) 0 [] 57 4] P h3 hn hr hc de d) ?_
 rintro _ TP ⟨rfl,hm⟩
 refine ⟨_,rfl,?_⟩
 replace d:=hm
 clear Z;intro a Z
 refine Jb Z d ((Jp 1∘Jj∘JB) λa Z d=>?_)
 refine qg (λS aS wS=>∃(i:Nat) (p:Nat) (ok:Bool) (last:Nat) (sum:Nat) (out:List Pl) (F:Option Addr) (co:Nat),(i≤K)∧(p≤abk b)∧(gM b (true&&eO b 3 1024) K (bg b 3) ok (K-i) p last sum out)∧(last≤4611686018427387904)∧(sum≤i*33554432)∧(abk out=i)∧(∀x∈out,x.sn≤sum∧x.st≤sum∧x.en≤sum)∧(abk out≤co)∧S=K-i∧Fr aS 129 [] [(29,vI i),(28,vI (dF b 3 1024)),(9,vI sum),(8,vI last),(7,abg F out co),(6,.func (.func 51) #[] #[vP q 0,vP r 0,vP s 0]),(5,vP s 0),(4,vP r 0),(16,.bool false),(12,.bool false),(3,vI 0),(2,vN),(1,vP q 0)]∧Mem w wS [.blk q #[abg A b c] 30,.blk r #[vI p] 3,.blk s #[.bool ok] 4,abj F out co j6 57 4]) (m:=K-0) ⟨0,(bg b 3),(true&&eO b 3 1024),0,0,[],none,0,abx _,qc4 h3,zg7,abx _,abx _,rfl,(λx hx=>by cases hx),abo _,rfl,Z.sub kr,d.pk [0,1,2,3]⟩ ?_
 clear Z d;rintro S a w_ ⟨i,p,ok,last,sum,out,F,co,hi,hp,L,hlast,hsum,hol,T,hco,rfl,Z,d⟩
 refine Jb Z d ((JP∘Jp 1∘Jj∘JQ) (Ji (λU=>?_) λU=>?_))
 ·
  have aqn:i<K:=by omega
  obtain ⟨k,hk⟩:∃k,K-i=k+1:=⟨K-i-1,by omega⟩
  have V:=qc4 (b:=b) hp
  have W:=qc4 (b:=b) V
  have X:=zg8 (b:=b) (p:=p)
  have hsl:=zg9 (b:=b) (p:=p)
  have hbl:=zha (b:=b) (p:=p)
  rw [hk] at L
  intro a Z d
  unfold kW at X;unfold kX at hsl;unfold mI at hbl
  refine Jb Z d ((JT∘aD∘JQ∘JB∘JP∘Jp 1) λa Z d=>?_)
  refine fo Z 1 rfl rfl ?_
  replace d:=d.pk (fs':=[.blk q #[abg A b c] 30,.blk r #[vI p] 3,.blk s #[.bool ok] 4,abj F out co j6 57 4]) [0,1,2,3]
  refine mY Z (f:=51) (vs:=[vI 4611686018427387904]) (fst:=[]) (caps:=[vP q 0,vP r 0,vP s 0]) rfl rfl rfl kr rfl de (MZ w _ q r s A c b p ok 4611686018427387904 [abj F out co j6 57 4] P hp hn hr hc de d) ?_
  rintro _ w32 ⟨rfl,hm⟩
  refine ⟨_,rfl,?_⟩
  replace d:=hm
  clear Z;intro a Z
  refine Jb Z d ((eH #[vI (dF b p 4611686018427387904),vI 0,vI 0,vI 0]∘JA #[vI 0,vI 0,vI 0,vI 0]) λuz H=>(JV rO aU) λab6=>(dU∘Jr∘Jp 1∘Jf 1∘JW aU fO) λab7=>(mM∘Jj) λa Z d=>?_)
  refine wp_seq ?_
  refine Jb Z d ((Vs (.t (.t (.f (.f .n)))) [6]) λBR=>(Vf 0 1∘Vp [2]∘Vc 1 O0) λa Z d D=>?_)
  refine s_on Z 3 rfl ?_
  replace d:=d.pk (fs':=[.blk q #[abg A b c] 30,.blk r #[vI (bg b p)] 3,.blk s #[.bool (ok&&eO b p 4611686018427387904)] 4,.blk H #[vI (dF b p 4611686018427387904),vI sum,vI 0,vI 0] 57,abj F out co j6 57 4]) [1,2,3,0,4]
  refine mY Z (f:=51) (vs:=[vI 16777216]) (fst:=[]) (caps:=[vP q 0,vP r 0,vP s 0]) rfl rfl rfl kr rfl de (MZ w _ q r s A c b (bg b p) (ok&&eO b p 4611686018427387904) 16777216 [.blk H #[vI (dF b p 4611686018427387904),vI sum,vI 0,vI 0] 57,abj F out co j6 57 4] P V hn hr hc de d) ?_
  rintro _ LP ⟨rfl,hm⟩
  refine ⟨_,rfl,?_⟩
  replace d:=hm
  clear Z;intro a Z
  refine ay (d.pk [3,0,4]) (λD=>?_)
  refine Vb Z d D ((Va 4∘Vf 5 2) λa Z d D=>?_)
  refine s_on Z 6 rfl (fJ Z d 3 λab8 d=>?_)
  refine dM kr ?_
  refine qd kr ?_
  refine wp_seq ?_
  refine Jb Z d ((Vs (.t (.f (.f .n))) [6]) λRa=>(Vf 0 2∘Vp [2]∘Vc 1 O1) λa Z d D=>?_)
  refine s_on Z 3 rfl ?_
  replace d:=d.pk (fs':=[.blk q #[abg A b c] 30,.blk r #[vI (bg b (bg b p))] 3,.blk s #[.bool ((ok&&eO b p 4611686018427387904)&&eO b (bg b p) 16777216)] 4,.blk H #[vI (dF b p 4611686018427387904),vI sum,vI (sum+(dF b (bg b p) 16777216):Nat),vI 0] 57,abj F out co j6 57 4]) [0,1,2,3,4]
  refine mY Z (f:=51) (vs:=[vI 16777216]) (fst:=[]) (caps:=[vP q 0,vP r 0,vP s 0]) rfl rfl rfl kr rfl de (MZ w _ q r s A c b (bg b (bg b p)) ((ok&&eO b p 4611686018427387904)&&eO b (bg b p) 16777216) 16777216 [.blk H #[vI (dF b p 4611686018427387904),vI sum,vI (sum+(dF b (bg b p) 16777216):Nat),vI 0] 57,abj F out co j6 57 4] P W hn hr hc de d) ?_
  rintro _ w45 ⟨rfl,hm⟩
  refine ⟨_,rfl,?_⟩
  replace d:=hm
  clear Z;intro a Z
  refine ay (d.pk [0,3,4]) (λD=>?_)
  refine Vb Z d D ((Va 4∘Vf 5 3) λa Z d D=>?_)
  refine s_on Z 6 rfl (fJ Z d 3 λab9 d=>?_)
  refine dM kr ?_
  refine qd kr ?_
  refine Jb Z d ((JP∘Jc O2∘Jp 1) (Ju (λy=>?_) λy=>?_))
  ·
   refine (Jg 0 O3∘Jp 3∘JW iO aU) λO=>(iA∘Jj∘JQ∘JP∘Jc O2∘Jp 1∘aF∘Jj) (oJ (λY=>?_) λY=>?_)
   ·
    exact (JT∘JP∘Jp 2∘Jj∘JZ∘bH) λd=>by exact yV d.below (R9 e o (by rw [J];exact L.stop (by unfold kW;rintro ⟨_,h2⟩;omega))) rfl
   refine (JC (h:=by exact λd=>d.dO (i:=2) (ds:= #[.bool true]) rfl (by rw [decide_eq_true om]))∘JC (h:=by exact λd=>(show Mem w _ [.blk q #[.slice A (abk b) c] 30,.blk r #[vI (bg b (bg b (bg b p)))] 3,.blk s #[.bool true] 4,.blk H #[vI (dF b p 4611686018427387904),vI sum,vI (sum+(dF b (bg b p) 16777216):Nat),vI (sum+(dF b (bg b p) 16777216)+(dF b (bg b (bg b p)) 16777216):Nat)] 57,abj F out co j6 57 4] from d))∘JF∘aD∘JP∘Jp 1∘Jy (v:= .agg #[vI (dF b p 4611686018427387904),vI sum,vI (sum+(dF b (bg b p) 16777216):Nat),vI (sum+(dF b (bg b p) 16777216)+(dF b (bg b (bg b p)) 16777216):Nat)]) (h:=by exact Pe rfl rfl rO rfl (λ_ h=>qi (h.blk (i:=3) rfl)))∘JU Ao #[vI (dF b p 4611686018427387904),vI sum,vI (sum+(dF b (bg b p) 16777216):Nat),vI (sum+(dF b (bg b p) 16777216)+(dF b (bg b (bg b p)) 16777216):Nat)]) λRs g59=>(JD ([(lM b p sum)].flatMap j6) 5 (λ_ _=>uw) Ao (hr:=by exact λd=>d.aW (i:=0) (n:=1) (size:=4) rfl rfl) (h1:=by exact zhz _)) λw60 A60 c60 M=>(Jp 1∘gG∘Jq) ?_
   have u:abk out+1=abk (out++[(lM b p sum)]):=by rw [abm];rfl
   rw [u] at M
   refine (JC (h:=by exact λd=>d.aT (i:=5) (ys:=(out++[(lM b p sum)]).flatMap j6) rfl u (by rw [abO]))∘Jk 7 (.slice A60 (abk (out++[(lM b p sum)])) c60) (h:=by exact gF u)∘JG∘Vs .n []) λPO=>(Vf 0 0∘Vf 2 3∘Vc 1 O4∘Vp [4]∘Vc 3 O4∘Vp [5]∘Vd∘aK∘JG∘JR∘cK 1∘Jp 1∘aK∘Jq) λa Z d=>?_
   exact ⟨_,om,i+1,(bg b (bg b (bg b p))),true,(dF b p 4611686018427387904),(sum+dF b (bg b p) 16777216+dF b (bg b (bg b p)) 16777216),(out++[(lM b p sum)]),A60,c60,by omega,qc4 W,(by rw [show K- (i+1)=k by omega];exact L.step y (by unfold kW;omega)),X,by omega,by rw [abm,hol];rfl,q7g T,M,rfl,Z.sub kr,d.pk [1,2,3,5]⟩
  exact (Jp 5∘JW iO aU) λO=>(iA∘Jj∘JQ∘JP∘Jc O2∘Jp 1∘aF∘Jj∘JT∘JP∘Jp 2∘Jj∘JZ∘bH) λd=>by exact yV d.below (R9 e o (by rw [J];exact L.stop (by rintro ⟨h1,_⟩;rw [h1] at y;cases y))) rfl
 have hik:i=K:=by omega
 refine (JF∘JX∘JG∘JQ∘JP∘Jc O2∘Jp 2) (Ju (λI=>?_) λI=>?_)
 ·
  have TV:ok=false:=by simpa using I
  have hbad:kJ b (true&&eO b 3 1024) K (bg b 3) 0 0=none:=by rw [TV] at L;exact L.bad
  exact (Jv 23 [(91,.bool true)]∘dU∘Jj∘JT∘JP∘Jp 2∘Jj∘JZ∘bH) λd=>yV d.below (R9 e o (by rw [J];exact hbad)) rfl
 have TW:ok=true:=by simpa using I
 have C:kJ b (true&&eO b 3 1024) K (bg b 3) 0 0=some (out,p,sum):=by rw [TW,show K-i=0 by omega] at L;exact L.fin
 refine (Jc O1∘cK 4∘Jc O0∘Jl∘Jp 3) (Ji (λTY=>?_) λTY=>?_)
 ·
  exact (Jv 16 [(91,.bool true)]∘aF∘Jj∘JT∘JP∘Jp 2∘Jj∘JZ∘bH) λd=>by exact yV d.below (Sc e o (by rw [J];exact C) (by rintro ⟨h1,h2,h3⟩;first|omega|(rw [h2] at g;cases g))) rfl
 refine (Jc O0∘Jc O1∘cK 4∘Jy (h:=by exact aaf aX (j:=p+4) rfl rfl rfl om)∘JI (h:=by exact λd=>Ou A (p+4) c (b.take (p+4)) B _ (hL.mem d hB) (d.le hB) (zdy (d.old hr) om) om (by rw [abu];omega) om (λz hz=>P z (ach hz)))) λZx hbw=>(Jp 3) (Ju (λg=>?_) λg=>?_)
 ·
  exact (Jv 8 [(91,.bool true)]∘aF∘Jj∘JT∘JP∘Jp 2∘Jj∘JZ∘bH) λd=>by exact yV d.below (Sc e o (by rw [J];exact C) (by rintro ⟨h1,h2,h3⟩;first|omega|(rw [h2] at g;cases g))) rfl
 refine (Jc O1∘cK 4∘Jp 1∘Ja∘Jc O0∘Jl∘Jp 2∘aF∘Jj) (Jh (λhd91=>?_) λhd91=>?_)
 ·
  exact (JT∘JP∘Jp 2∘Jj∘JZ∘bH) λd=>by exact yV d.below (Sc e o (by rw [J];exact C) (by rintro ⟨h1,h2,h3⟩;first|omega|(rw [h2] at g;cases g))) rfl
 have hall:p+4≤abk b∧zn (b.take (p+4))=true∧p+4+sum=abk b:=⟨by omega,by simpa using g,by omega⟩
 refine (JF∘aD∘JQ∘JP∘Jp 1∘Jl∘Jp 1∘Jq∘JC (h:=by exact λd=>d.bM (i:=3) (ys:=(fH (Pl.up (p+4)) out 0).flatMap j6) rfl (by rw [q0m]))∘JG∘JB) λa Z d=>?_
 refine qg (λS aS wS=>∃(j:Nat),(j≤abk out)∧S=abk out-j∧Fr aS 129 [] [(94,vI j),(93,vI (abk out)),(91,.bool false),(30,.bool false),(29,vI i),(28,vI (dF b 3 1024)),(9,vI sum),(8,vI last),(7,abg F out co),(6,.func (.func 51) #[] #[vP q 0,vP r 0,vP s 0]),(5,vP s 0),(4,vP r 0),(16,.bool false),(12,.bool false),(3,vI 0),(2,vN),(1,vP q 0)]∧Mem w wS [.blk q #[abg A b c] 30,.blk r #[vI p] 3,.blk s #[.bool ok] 4,.row (abg F out co) (abk out) ((fH (Pl.up (p+4)) out j).flatMap j6) 57 4]) (m:=abk out-0) ⟨0,abx _,rfl,Z.sub kr,d.pk [0,1,2,3]⟩ ?_
 clear Z d;rintro S a w_ ⟨j,hj,rfl,Z,d⟩
 refine Jb Z d ((JP∘Jp 1∘Jj∘JQ) (Ji (λhd95=>?_) λhd95=>?_))
 ·
  have l:j<abk out:=by omega
  have hmx:=T _ (qe Pl.zero l)
  have hu1:((out.getD j Pl.zero).yX (p+4)).st=(out.getD j Pl.zero).st:=rfl
  have hu2:((out.getD j Pl.zero).CW (p+4)).en=(out.getD j Pl.zero).en:=rfl
  refine (JT∘aD∘JQ∘JB∘JP∘Jp 2∘aK∘Jj) λa Z d=>?_
  refine wp_seq ?_
  refine Jb Z d ((Vs .n [10]) λaqo=>(Vp [0,1]) ?_)
  repeat (first|clear Z|clear d|clear D)
  intro a Z d D
  obtain ⟨E,rfl⟩:=d.rat 3 j
  refine Vb Z d D ((Vy 2 (h:=by exact Yl.iH E j 4 rfl rfl rfl)∘Vf 3 1∘Vy 4 (v:=vI ((out.getD j Pl.zero).sn)) (h:=by exact Pd rfl rfl kr (λ_ h=>h.qu tT (i:=3) rfl (k:=j) (off:=1) (x:=(out.getD j Pl.zero)) ((Ef (Pl.up (p+4)) out Pl.zero l)) rfl))∘Vc 5 O1∘xS 6 4∘Va 7∘Vu 8 (h:=by exact λ_=>Yl.iH E j 4 rfl rfl rfl)∘Vf 9 1) λa Z d D=>?_)
  refine s_on Z 10 rfl ?_
  refine qw Z d (i:=3) rfl rfl rfl rfl kr rfl rfl (by rw [zk j6 4 tT];simp only [abG,Ti];omega) λT9 d=>?_
  replace d:=d.bM (i:=3) (ys:=((fH (Pl.up (p+4)) out j).set j ((out.getD j Pl.zero).yX (p+4))).flatMap j6) rfl (ze j6 4 tT (fH (Pl.up (p+4)) out j) j (out.getD j Pl.zero) ((out.getD j Pl.zero).yX (p+4)) (Ef (Pl.up (p+4)) out Pl.zero l) 1 de _ rfl)
  refine dM kr ?_
  refine qd kr ?_
  refine wp_seq ?_
  refine Jb Z d ((Vs .n [10]) λaqp=>(Vp [0,1]∘Vy 2 (h:=by exact Yl.iH E j 4 rfl rfl rfl)∘Vf 3 2∘Vy 4 (v:=vI (((out.getD j Pl.zero).yX (p+4)).st)) (h:=by exact Pd rfl rfl kr (λ_ h=>h.qu tT (i:=3) rfl (k:=j) (off:=2) (x:=((out.getD j Pl.zero).yX (p+4))) ((El (Ef (Pl.up (p+4)) out Pl.zero l))) rfl))∘Vc 5 O1∘xS 6 4∘Va 7∘Vu 8 (h:=by exact λ_=>Yl.iH E j 4 rfl rfl rfl)∘Vf 9 2) λa Z d D=>?_)
  refine s_on Z 10 rfl ?_
  refine qw Z d (i:=3) rfl rfl rfl rfl kr rfl rfl (by rw [zk j6 4 tT];simp only [abG,Ti];omega) λUa d=>?_
  replace d:=d.bM (i:=3) (ys:=(((fH (Pl.up (p+4)) out j).set j ((out.getD j Pl.zero).yX (p+4))).set j ((out.getD j Pl.zero).CW (p+4))).flatMap j6) rfl (ze j6 4 tT ((fH (Pl.up (p+4)) out j).set j ((out.getD j Pl.zero).yX (p+4))) j ((out.getD j Pl.zero).yX (p+4)) ((out.getD j Pl.zero).CW (p+4)) (El (Ef (Pl.up (p+4)) out Pl.zero l)) 2 de _ rfl)
  refine dM kr ?_
  refine qd kr ?_
  refine Jb Z d ((Vs .n [10]) λaqr=>(Vp [0,1]∘Vy 2 (h:=by exact Yl.iH E j 4 rfl rfl rfl)∘Vf 3 3∘Vy 4 (v:=vI (((out.getD j Pl.zero).CW (p+4)).en)) (h:=by exact Pd rfl rfl kr (λ_ h=>h.qu tT (i:=3) rfl (k:=j) (off:=3) (x:=((out.getD j Pl.zero).CW (p+4))) ((El (El (Ef (Pl.up (p+4)) out Pl.zero l)))) rfl))∘Vc 5 O1∘xS 6 4∘Va 7∘Vu 8 (h:=by exact λ_=>Yl.iH E j 4 rfl rfl rfl)∘Vf 9 3) λa Z d D=>?_)
  refine s_on Z 10 rfl ?_
  refine qw Z d (i:=3) rfl rfl rfl rfl kr rfl rfl (by rw [zk j6 4 tT];simp only [abG,Ti];omega) λUb d=>?_
  replace d:=d.bM (i:=3) (ys:=(fH (Pl.up (p+4)) out (j+1)).flatMap j6) rfl ((ze j6 4 tT (((fH (Pl.up (p+4)) out j).set j ((out.getD j Pl.zero).yX (p+4))).set j ((out.getD j Pl.zero).CW (p+4))) j ((out.getD j Pl.zero).CW (p+4)) ((out.getD j Pl.zero).up (p+4)) (El (El (Ef (Pl.up (p+4)) out Pl.zero l))) 3 de _ rfl).trans (by rw [ad5,ad5,q0n (Pl.up (p+4)) out Pl.zero l]))
  refine dM kr ?_
  refine qd kr ?_
  refine Jb Z d ((JG∘JR∘cK 1∘Jp 1∘aF∘Jq) λa Z d=>?_)
  exact ⟨_,om,j+1,by omega,rfl,Z.sub kr,d.pk [0,1,2,3]⟩
 have hjn:abk out≤j:=by omega
 exact (JF∘JX∘JG∘JP∘Jp 3∘Jj∘JZ∘bH) λd=>q6v (zdn e o (by rw [J];exact C) hall) (by rw [abv]) (by have h:=d.own (i:=3) rfl;rwa [q6w hjn] at h) hco d.below
def M0 (hb:∀x∈b,x<256) (h:bW b=(L,0)):∀x∈L,x.sn≤x.st∧x.st≤x.en∧x.en≤abk b:=λx c=>by
 obtain ⟨a,d⟩:=(qxe hb h).at
 obtain ⟨i,hi,rfl⟩:=acz c
 have h1:=d.sn i hi
 rw [abn,abt hi] at h1
 exact ⟨h1.2.1,h1.2.2.1,h1.2.2.2.1⟩
def M4 (hb:∀x∈b,x<256) (h:bW b=(L,0)):abk L≤1024:=by
 obtain ⟨a,c⟩:=(qxe hb h).at
 exact c.few
def M5 (A:Option Addr) (c:Nat) (b:List Nat) (a:Nat) (w:World) (d:aM a w) (e:a≤w.heap.size) (hr:Rd w w.heap.size 1 A (abk b) (b.map B8)) (hc:abk b≤c) (f:abk b≤100000000) (g:∀z∈b,z<256) {L:List Pl} {m:Nat} (h:bW b=(L,m)):Calls abl 18 #[.slice A (abk b) c] w (Eh w (L,m)):=h▸TU A c b a w d e hr hc f g
theorem zb5 (A:Option Addr) (c:Nat) (b:List Nat) (o:Nat) (w:World) (s:aM o w) (q:o≤w.heap.size) (hr:Rd w w.heap.size 1 A (abk b) (b.map B8)) (hc:abk b≤c) (t:abk b≤100000000) (p:∀z∈b,z<256) (i:Int) (u:aQ i) (h0:(bW b).2=0) (f:i<0∨((bW b).1.length:Int)≤i):
    Calls abl 20 #[.slice A (abk b) c,.int .i64 i] w (Is w (.tuple #[.agg Pm.zero.cells,.int .i64 2])):=by
 refine (iX agX 37) ?_
 refine (JP∘JA #[vI 0,vI 0,vQ 0,.slice none 0 0,.slice none 0 0,.slice none 0 0,.slice none 0 0,.slice none 0 0,.slice none 0 0]) λF G=>(Jp 1∘Jq) ?_
 obtain ⟨L,j,d⟩:∃L j,bW b=(L,j):=⟨_,_,rfl⟩
 have v:(L,j).1.length=abk L:=rfl
 have r:j=0:=by rw [d] at h0;exact h0
 have y:i<0∨(abk L:Int)≤i:=by rw [d] at f;exact f
 refine (JG∘JP∘Jp 1∘JK (h:=by exact λe=>M5 A c b o _ (s.mem e q) (e.le q) (e.old hr) hc t p d)) λH pc B C=>(Jp 1∘Jx∘Jx∘Jp 2∘Jj∘JQ∘JB∘JP∘Jp 3∘bG∘Jj) (Jh (λk=>?_) λk=>?_)
 ·
  intro a Z e
  exfalso;omega
 have g:j=0:=by omega
 have D:∀x∈L,x.sn≤x.st∧x.st≤x.en∧x.en≤abk b:=M0 p (by rw [d,g])
 have E:abk L≤1024:=M4 p (by rw [d,g])
 refine (JF∘JP∘Jp 3) (Ji (λl=>?_) λl=>?_)
 ·
  refine (Jp 6∘aF∘Jj∘JT∘JP∘eH #[vI 0,vI 0,vQ 0,.slice none 0 0,.slice none 0 0,.slice none 0 0,.slice none 0 0,.slice none 0 0,.slice none 0 0]∘JV bU fO) λm=>(Jp 1∘aK∘Jj∘JZ) λa Z e=>?_
  exact eG rfl Z (.cellS (i:=1) Z e rfl rfl bU rfl) (.tmp Z rfl) (⟨rfl,e.below⟩)
 refine (Jp 2∘Jl∘Jp 3∘aF∘Jj) (Ji (λn=>?_) λn=>?_)
 ·
  refine (JT∘JP∘eH #[vI 0,vI 0,vQ 0,.slice none 0 0,.slice none 0 0,.slice none 0 0,.slice none 0 0,.slice none 0 0,.slice none 0 0]∘JV bU fO) λm=>(Jp 1∘aK∘Jj∘JZ) λa Z e=>?_
  exact eG rfl Z (.cellS (i:=1) Z e rfl rfl bU rfl) (.tmp Z rfl) (⟨rfl,e.below⟩)
 intro a Z e
 exfalso;omega
theorem zb6 (A:Option Addr) (c:Nat) (b:List Nat) (n:Nat) (w:World) (r:aM n w) (p:n≤w.heap.size) (hr:Rd w w.heap.size 1 A (abk b) (b.map B8)) (hc:abk b≤c) (s:abk b≤100000000) (o:∀z∈b,z<256) (i:Int) (t:aQ i) (h0:(bW b).2=0) (e:i<0∨((bW b).1.length:Int)≤i):
    Calls abl 22 #[.slice A (abk b) c,.int .i64 i] w (Is w (.tuple #[.slice none 0 0,.int .i64 2])):=by
 refine (iX Tryz.func22 54) ?_
 refine (JP∘Jp 2∘Jq) ?_
 obtain ⟨L,g,d⟩:∃L g,bW b=(L,g):=⟨_,_,rfl⟩
 have u:(L,g).1.length=abk L:=rfl
 have q:g=0:=by rw [d] at h0;exact h0
 have v:i<0∨(abk L:Int)≤i:=by rw [d] at e;exact e
 refine (JG∘JP∘Jp 1∘JK (h:=by exact λj=>M5 A c b n _ (r.mem j p) (j.le p) (j.old hr) hc s o d)) λE pc y B=>(Jp 1∘Jx∘Jx∘Jp 2∘Jj∘JQ∘JB∘JP∘Jp 3∘bG∘Jj) (Jh (λk=>?_) λk=>?_)
 ·
  intro a Z j
  exfalso;omega
 have f:g=0:=by omega
 have C:∀x∈L,x.sn≤x.st∧x.st≤x.en∧x.en≤abk b:=M0 o (by rw [d,f])
 have D:abk L≤1024:=M4 o (by rw [d,f])
 refine (JF∘JP∘Jp 3) (Ji (λl=>?_) λl=>?_)
 ·
  exact (Jp 6∘aF∘Jj∘JT∘JP∘Jp 2∘Jj∘JZ) VZ
 refine (Jp 2∘Jl∘Jp 3∘aF∘Jj) (Ji (λm=>?_) λm=>?_)
 ·
  exact (JT∘JP∘Jp 2∘Jj∘JZ) VZ
 intro a Z j
 exfalso;omega
theorem zb1 {p:Pm} (h:Mem W w (a++(jV p++[]))):Mem W w (jV p):=by
 rw [abN] at h
 exact h.lS (afh a _)
def q7h (A:Option Addr) (c:Nat) (b:List Nat) (s:Nat) (w:World) (D:aM s w) (y:s≤w.heap.size) (hr:Rd w w.heap.size 1 A (abk b) (b.map B8)) (hc:abk b≤c) (E:abk b≤100000000) (t:∀z∈b,z<256) (n:Int) (F:aQ n):
    Calls abl 40 #[.slice A (abk b) c,vI n] w (Is w (.tuple #[vI (jW b n).1,vI ((jW b n).2:Int)])):=by
 refine (iX Tryz.func40 32) ?_
 refine (JP∘Jp 2∘Jq) ?_
 obtain ⟨L,l,e⟩:∃L l,bW b=(L,l):=⟨_,_,rfl⟩
 have G:(L,l).1.length=abk L:=rfl
 refine (JG∘JP∘Jp 1∘JK (h:=by exact λd=>M5 A c b s _ (D.mem d y) (d.le y) (d.old hr) hc E t e)) λB pc H I=>(Jp 1∘Jx∘Jx∘Jp 2∘Jj∘JQ∘JP∘Jp 2∘aK∘Jj) (Jh (λo=>?_) λo=>?_)
 ·
  exact (JT∘JP∘Jp 3∘Jj∘JZ∘bH) λd=>Au (zbm e om) rfl d.below
 have f:l=0:=by omega
 have J:∀x∈L,x.sn≤x.st∧x.st≤x.en∧x.en≤abk b:=M0 t (by rw [e,f])
 have K:abk L≤1024:=M4 t (by rw [e,f])
 refine (JF∘aD∘JQ∘JP∘Jp 1∘Jl∘Jp 1∘Jo (vI ((abk L:Int)-1)) (by exact oH ⟨by omega,by omega⟩)∘Jp 1∘dU∘Jj∘JB) λa Z d=>?_
 refine qg (λC M N=>∃(k:Nat),(k≤abk L)∧(jW b n=Ei L n k)∧C=0+k∧Fr M 32 [] [(8,vI ((k:Int)-1)),(15,.bool false),(7,vI l),(6,abg B L pc),(5,vI 0),(4,vI 0),(1,vI n)]∧Mem w N [abj B L pc j6 57 4]) (m:=0+abk L) ⟨abk L,abo _,zhb (by rw [e,f]),rfl,Z.sub kr,d.pk [0]⟩ ?_
 clear Z d;rintro C a Q ⟨k,R,g,rfl,Z,d⟩
 refine Jb Z d ((JQ∘JP∘Jp 2∘aK∘Jj) (Ji (λp=>?_) λp=>?_))
 ·
  obtain ⟨j,u⟩:∃j,k=j+1:=⟨k-1,by omega⟩
  have O:j<abk L:=by omega
  have q:Ei L n k=if ((L.getD j Pl.zero).nx:Int)≤n then ((j:Int),0) else Ei L n j:=by rw [u];rfl
  refine (JT∘aD∘JQ∘JB∘JP∘Jp 2∘Jo (vI j) (by rw [show ((k:Int)-1)=(j:Int) by omega])) ?_
  repeat (first|clear Z|clear d)
  intro a Z d
  obtain ⟨P,rfl⟩:=d.rat 0 j
  refine Jb Z d ((lU j 4∘Jf 0∘Jy (v:=vI ((L.getD j Pl.zero).nx)) (h:=by exact Pd rfl rfl kr (λ_ h=>(by have:=h.qu tT (i:=0) rfl (k:=j) (off:=0) (x:=(L.getD j Pl.zero)) ((getD_at Pl.zero O)) rfl;simpa using this)))∘Jp 2∘aF∘Jj) (Ji (λr=>?_) λr=>?_))
  ·
   exact (JT∘JP∘Jp 1∘Jo (vI j) (by rw [show ((k:Int)-1)=(j:Int) by omega])∘Jp 2∘Jj∘JZ∘bH) λd=>Au (m:=0) (g.trans (q.trans (if_pos om))) rfl d.below
  refine (JF∘aD∘JR∘Jp 1∘Jo (vI j) (by rw [show ((k:Int)-1)=(j:Int) by omega])∘Jp 1∘Jo (vI ((j:Int)-1)) (by exact oH ⟨by omega,by omega⟩)∘Jp 1∘bG∘Jq) λa Z d=>?_
  exact ⟨_,om,j,by omega,(g.trans (q.trans (if_neg om))),rfl,Z.sub kr,d.pk [0]⟩
 exact (JF∘JX∘JG∘JP∘Jp 2∘Jj∘JZ∘bH) λd=>Au (m:=6) (g.trans (by rw [show k=0 by omega];rfl)) rfl d.below
def qsf (A:Option Addr) (c:Nat) (b:List Nat) (r:Nat) (w:World) (H:aM r w) (s:r≤w.heap.size) (hr:Rd w w.heap.size 1 A (abk b) (b.map B8)) (hc:abk b≤c) (I:abk b≤100000000) (t:∀z∈b,z<256) (i:Int) (O:aQ i) (B:∀x∈(bW b).1,iI (bT b x.st x.en)):
    Calls abl 20 #[.slice A (abk b) c,vI i] w (IE w b i):=by
 refine (iX agX 37) ?_
 refine (JP∘JA #[vI 0,vI 0,vQ 0,vN,vN,vN,vN,vN,vN]) λU J=>(Jp 1∘Jq) ?_
 obtain ⟨L,u,d⟩:∃L u,bW b=(L,u):=⟨_,_,rfl⟩
 have P:(L,u).1.length=abk L:=rfl
 refine (JG∘JP∘Jp 1∘JK (h:=by exact λf=>M5 A c b r _ (H.mem f s) (f.le s) (f.old hr) hc I t d)) λV pc Q R=>(Jp 1∘Jx∘Jx∘Jp 2∘Jj∘JQ∘JB∘JP∘Jp 3∘bG∘Jj) (Jh (λl=>?_) λl=>?_)
 ·
  refine (JT∘JP∘eH #[vI 0,vI 0,vQ 0,vN,vN,vN,vN,vN,vN]∘Jp 1∘JV bU fO) λK=>(Jp 1∘bG∘Jj∘JZ) λa Z f=>?_
  exact eG rfl Z (.cellS (i:=1) Z f rfl rfl bU rfl) (.tmp Z rfl) (Tn (zbl d om) rfl om (f.pk []))
 have g:u=0:=by omega
 have C:∀x∈L,x.sn≤x.st∧x.st≤x.en∧x.en≤abk b:=M0 t (by rw [d,g])
 have S:abk L≤1024:=M4 t (by rw [d,g])
 refine (JF∘JP∘Jp 3) (Ji (λm=>?_) λm=>?_)
 ·
  refine (Jp 6∘aF∘Jj∘JT∘JP∘eH #[vI 0,vI 0,vQ 0,vN,vN,vN,vN,vN,vN]∘JV bU fO) λn=>(Jp 1∘aK∘Jj∘JZ) λa Z f=>?_
  exact eG rfl Z (.cellS (i:=1) Z f rfl rfl bU rfl) (.tmp Z rfl) (Tn (e:=2) (qxp (by rw [d,g]) om) rfl de (f.pk []))
 refine (Jp 2∘Jl∘Jp 3∘aF∘Jj) (Ji (λo=>?_) λo=>?_)
 ·
  refine (JT∘JP∘eH #[vI 0,vI 0,vQ 0,vN,vN,vN,vN,vN,vN]∘JV bU fO) λn=>(Jp 1∘aK∘Jj∘JZ) λa Z f=>?_
  exact eG rfl Z (.cellS (i:=1) Z f rfl rfl bU rfl) (.tmp Z rfl) (Tn (e:=2) (qxp (by rw [d,g]) om) rfl de (f.pk []))
 obtain ⟨k,M⟩:∃k:Nat,i=(k:Int):=⟨i.toNat,by omega⟩
 have j:k<abk L:=by omega
 obtain ⟨x,y⟩:∃x,L.getD k Pl.zero=x:=⟨_,rfl⟩
 have D:=C x (by rw [←y];exact qe Pl.zero j)
 refine (JF∘aD∘JP∘Jp 2∘Jo (vI k) (by rw [M])) ?_
 repeat (first|clear Z|clear f)
 intro a Z f
 obtain ⟨q,rfl⟩:=f.rat 0 k
 refine Jb Z f ((lU k 4∘Jy (v:= .agg ((L.getD k Pl.zero).cells)) (h:=by exact Pe rfl rfl rO rfl (λ_ h=>h.EK tT (i:=0) rfl ((getD_at Pl.zero j))))∘Jo (.agg x.cells) (by rw [y])∘Jp 1∘eH #[vI x.nx,vI x.sn,vI x.st,vI x.en,abg A b c]∘JL (h:=by exact λf=>q7f A c b r _ (H.mem f s) (f.le s) (f.old hr) hc I t x D (B x (by rw [d,←y];exact qe Pl.zero j)))) ?_)
 rintro f _ E ⟨p,rfl,F,G,hm⟩
 refine ⟨_,rfl,_,(show Mem w E (.row (vS q (abk L) pc) (abk L) (L.flatMap j6) 57 4:: .blk J #[vI 0,vI 0,vQ 0,vN,vN,vN,vN,vN,vN] 53::(jV p++([]))) from f.ku (T:=[]) 2 hm rfl),?_⟩
 refine (Jx∘Jx∘JV bU fO (h1:=by exact Ec p)) λN=>(Jp 1∘aF∘Jj∘JZ) λa Z f=>?_
 exact eG rfl Z (.cellS (i:=1) Z f rfl rfl bU rfl) (.tmp Z rfl) (zbk (by rw [d,g]) M j y F G (zb1 (a:=[.row (vS q (abk L) pc) (abk L) (L.flatMap j6) 57 4,.blk J p.cells 53]) f))
def Em (n:Int) (l:aQ n) (w:World):
    Calls abl 34 #[vI n] w (zdq w n):=by
 refine (dY Tryz.func34 19) ?_
 refine (JP∘JA #[vI 0,vI 0,vQ 0,vN,vN,vN,vN,vN,vN]) λq r=>(Jr∘eH #[vI 0,vI 1]∘JU iQ #[vI 0,vI 1]) λs d=>(eH #[vI 1,vQ 0,vS d 1 1]∘JU zy #[vI 0]) λt f=>(JU zy #[vI 0]) λu g=>(eH #[vQ 0,vW 0,vQ 0]∘JU lD #[vQ 0,vW 0,vQ 0]) λm c=>(JU nN #[vS c 1 1]) λo b=>(eH #[vI 1,vQ 0,vS d 1 1,vS f 1 1,vS g 1 1,vN,vS b 1 1]∘JA #[vI 0,vQ 0,vN,vN,vN,vN,vN]) λv x=>(JV fU aU) λh=>(aF∘Jr∘Jp 1∘eF fU O0∘eH #[vI n,vI 1,vQ 0,vS d 1 1,vS f 1 1,vS g 1 1,vN,vS b 1 1]∘eH #[vB 2,vB 0,vI 0,vI 7,vN]∘JU Bt #[vB 2,vB 0,vI 0,vI 7,vN]) λp e=>(eH #[vI n,vI 1,vQ 0,vS d 1 1,vS f 1 1,vS g 1 1,vN,vS b 1 1,vS e 1 1]∘JV bU xP) λj=>(iA∘Jj∘JZ) λa Z k=>?_
 exact iy rfl Z (.cellS (i:=7) Z k rfl rfl bU rfl) (I7 l (k.pk (fs':=[.blk d #[vI 0,vI 1] 198,.blk f #[vI 0] 3,.blk g #[vI 0] 3,.blk b #[vS c 1 1] 176,.blk c #[vQ 0,vW 0,vQ 0] 200,.blk e #[vB 2,vB 0,vI 0,vI 7,vN] 85]) [6,5,4,2,3,0]))
def qvc (B:Nat) (w:World) (a:aM B w) (b:B≤w.heap.size):Calls abl 16 #[vN] w (zf w 0 l5):=by
 have h:=M8 none 0 [] B w a b Rd.nil (λp c=>by cases c) (abo _) (abx _)
 rwa [show nK (List.map Pm.v [])=(l5,0) from AJ.1] at h
def q7j (A:Option Addr) (c:Nat) (p:Pm) (hs:eU (kK 1) p.z) (a:p.q.map ac0=[fK 7]) (B:Nat) (w:World) (d:aM B w) (e:B≤w.heap.size) (hr:Rd w w.heap.size 9 A 1 ([p].flatMap iB)) (f:∀x∈[p],gq x∧dL w x) (hc:1≤c):Calls abl 16 #[.slice A 1 c] w (zf w 0 cB):=by
 have h:=M8 A c [p] B w d e hr f hc (by show 1≤100000;decide)
 rwa [show nK (List.map Pm.v [p])=(cB,0) from (q6z (.cons (nR hs a) .nil)).trans zbo] at h
def q0x (A:Option Addr) (c:Nat) (p q:Pm) (hs:eU (kK 1) p.z) (e:p.q.map ac0=[fK 7]) (a:eU (kK 0) q.z) (d:q.q.map ac0=[fK 7]) (B:Nat) (w:World) (f:aM B w) (g:B≤w.heap.size) (hr:Rd w w.heap.size 9 A 2 ([p,q].flatMap iB)) (h:∀x∈[p,q],gq x∧dL w x) (hc:2≤c):Calls abl 15 #[.slice A 2 c] w (Is w (.tuple #[vI 1,vI 330])):=
 M7 A c [p,q] B w f g hr h hc (by show 2≤1000000;decide) ((Tp (.cons (nR hs e) (.cons (nR a d) .nil))).trans II)
def qsg (A:Option Addr) (c:Nat) (p q s:Pm) (hs:eU (kK 1) p.z) (g:p.q.map ac0=[fK 7]) (a:eU (kK 5) q.z) (d:q.q.map ac0=[fK 7]) (e:eU (kK 4) s.z) (f:s.q.map ac0=[fK 7]) (B:Nat) (w:World) (h:aM B w) (i:B≤w.heap.size) (hr:Rd w w.heap.size 9 A 3 ([p,q,s].flatMap iB)) (j:∀x∈[p,q,s],gq x∧dL w x) (hc:3≤c):Calls abl 15 #[.slice A 3 c] w (Is w (.tuple #[vI 2,vI 411])):=
 M7 A c [p,q,s] B w h i hr j hc (by show 3≤1000000;decide) ((Tp (.cons (nR hs g) (.cons (nR a d) (.cons (nR e f) .nil)))).trans IJ)
def q7k (A:Option Addr) (c:Nat) (B:Nat) (w:World) (a:aM B w) (b:B≤w.heap.size) (hr:Rd w w.heap.size 1 A 39 (cB.map B8)) (hc:39≤c):Calls abl 18 #[.slice A 39 c] w (Eh w ([⟨1,11,26,39⟩],0)):=by
 have h:=TU A c cB B w a b (by rw [pV];exact hr) (by rw [pV];exact hc) (by rw [pV];decide) rV
 rwa [pV,Tq] at h
def q0y (A:Option Addr) (c:Nat) (B:Nat) (w:World) (a:aM B w) (b:B≤w.heap.size) (hr:Rd w w.heap.size 1 A 40 ((cB++[0]).map B8)) (hc:40≤c):Calls abl 18 #[.slice A 40 c] w (Eh w ([],410)):=by
 have e:abk (cB++[0])=40:=by rw [abm,pV];rfl
 have h:=TU A c (cB++[0]) B w a b (by rw [e];exact hr) (by rw [e];exact hc) (by rw [e];decide) zkp
 rwa [e,zhv] at h
theorem qxx (A:Option Addr) (c:Nat) (B:Nat) (w:World) (a:aM B w) (b:B≤w.heap.size) (hr:Rd w w.heap.size 1 A 39 (cB.map B8)) (hc:39≤c) {n v:Int} {e:Nat} (d:aQ n) (f:jW cB n=(v,e)):Calls abl 40 #[.slice A 39 c,vI n] w (Is w (.tuple #[vI v,vI e])):=by
 have h:=q7h A c cB B w a b (by rw [pV];exact hr) (by rw [pV];exact hc) (by rw [pV];decide) rV n d
 rwa [pV,f] at h
theorem q7l (A:Option Addr) (c:Nat) (B:Nat) (w:World) (a:aM B w) (b:B≤w.heap.size) (hr:Rd w w.heap.size 1 A 39 (cB.map B8)) (hc:39≤c):Calls abl 20 #[.slice A 39 c,vI 0] w (Jm w):=by
 have h:=qsf A c cB B w a b (by rw [pV];exact hr) (by rw [pV];exact hc) (by rw [pV];decide) rV 0 (by unfold aQ;decide) q7d
 rw [pV] at h
 exact h.mono λ_ _=>zhy
def q7m (A:Option Addr) (c:Nat) (B:Nat) (w:World) (a:aM B w) (b:B≤w.heap.size) (hr:Rd w w.heap.size 1 A 39 (cB.map B8)) (hc:39≤c):Calls abl 20 #[.slice A 39 c,vI 1] w (λr d=>∃p:Pm,r= .returned (.tuple #[.agg p.cells,vI 2])∧Below w.heap.size w d):=by
 have h:=qsf A c cB B w a b (by rw [pV];exact hr) (by rw [pV];exact hc) (by rw [pV];decide) rV 1 (by unfold aQ;decide) q7d
 rw [pV] at h
 exact h.mono λ_ _=>zbw
def qvd (B:Nat) (w:World) (I:aM B w) (s:B≤w.heap.size):
    Calls abl 13 #[] w (Is w (.bool true)):=by
 refine (JN0 Tryz.func13 172) ?_
 refine (JP∘Jp 1∘Jr∘JK (h:=by exact λm=>qvc B _ (I.mem m s) (m.le s))) λC t Oi L=>?_
 replace L:8≤t:=L
 refine (Jp 1∘Jx∘Jx∘Jp 2∘Jr∘JL (h:=by exact λm=>Em 1 (by unfold aQ;decide) _)) ?_
 rintro m _ LJ ⟨D,rfl,Uj,Uk,Ul,hm⟩
 refine ⟨_,rfl,_,(show Mem w LJ (.row (.slice C 8 t) 8 (l5.map B8) 5 1::(jV D++([]))) from m.ku (T:=[]) 1 hm rfl),?_⟩
 refine (JU pQ D.cells) λGc F=>(JK (h:=by exact λm=>q7j (some ⟨F,0,none⟩) 1 D Uj Uk B _ (I.mem m s) (m.le s) (m.aW (i:=0) (n:=1) (size:=9) rfl rfl) (zhs Ul (m.TR 2 rfl)) de)) λp o TP r=>?_
 replace r:39≤o:=r
 refine (Jp 1∘Jx∘Jx∘Jp 2∘Jq∘JC (h:=by exact λm=>(show Mem w _ [.row (.slice p 39 o) 39 (cB.map B8) 5 1,.blk F D.cells 53,.row (.slice C 8 t) 8 (l5.map B8) 5 1] from m.lS (ad8 _ _)))∘JG∘JP∘Jp 1∘JK (h:=by exact λm=>q7k p o B _ (I.mem m s) (m.le s) (m.rd (i:=0) rfl) r)) λA33 J KL aqQ=>(Jp 1∘Jx∘Jx∘Jp 2∘Jr∘Jp 1∘JI (h:=by exact λm=>qxx p o B _ (I.mem m s) (m.le s) (m.rd (i:=1) rfl) r (by unfold aQ;decide) I9.1)) λKJ E=>(Jp 1∘Jx∘Jx∘Jp 2∘Jr∘Jp 1∘JI (h:=by exact λm=>qxx p o B _ (I.mem m s) (m.le s) (m.rd (i:=1) rfl) r (by unfold aQ;decide) I9.2.1)) λPG E=>(Jp 1∘Jx∘Jx∘Jp 2∘aF∘Jr∘Jp 1∘JL (h:=by exact λm=>q7l p o B _ (I.mem m s) (m.le s) (m.rd (i:=1) rfl) r)) ?_
 rintro m _ Dr ⟨z,M,cl,hx,rfl,hxb,hm⟩
 refine ⟨_,rfl,_,m.join hm,?_⟩
 refine (Jp 1∘Jx∘Jx∘JA #[vI 0,vI 0,vQ 0,vN,vN,vN,vN,vN,vN]) λwW K=>(JV bU aU) λaqR=>(Jp 1∘Jr∘Jp 1∘JL (h:=by exact λm=>q7m p o B _ (I.mem m s) (m.le s) (m.rd (i:=3) rfl) r)) ?_
 rintro m _ Wm ⟨y,rfl,E⟩
 refine ⟨_,rfl,_,m.call E,?_⟩
 refine (Jp 1∘Jx∘Jx∘JA #[vI 0,vI 0,vQ 0,vN,vN,vN,vN,vN,vN]) λuJ P=>(JV bU aU (h1:=by exact Ec y)) λaqS=>(Jp 1∘aF∘Jj∘JQ∘JP∘Jv 20 [(75,.slice C 8 t),(74,.bool false)]∘Jl∘Jv 4 [(80,.slice C 8 t),(79,.bool false)]∘Jy (h:=by exact aaf aX (j:=4) rfl rfl rfl om)∘Jy (h:=by exact aaC rfl rfl (λ_ h=>zhx (h.rd (i:=6) rfl) rfl))∘Jp 3) (Ju (λG=>?_) λG=>?_)
 ·
  rw [show ((jH [113,97,1,0]).toList==(abw #[113,97,1,0]).toList)=true from Vj [113,97,1,0]] at G;cases G
 refine (Jp 1∘Jl∘Jv 4 [(91,.slice p 39 o),(90,.bool false)]∘Jy (h:=by exact aaf aX (j:=7) rfl rfl rfl om)∘Jy (h:=by exact aaC rfl rfl (λ_ h=>zhw (h.rd (i:=4) rfl) rfl))∘Jp 3) (Ju (λH=>?_) λH=>?_)
 ·
  rw [show ((jH [113,97,1,1,1,15,13]).toList==(abw #[113,97,1,1,1,15,13]).toList)=true from Vj [113,97,1,1,1,15,13]] at H;cases H
 refine (Jp 1∘Jl∘Jv 4 [(102,.slice A33 1 J),(101,.bool false)]) ?_
 repeat (first|clear Z|clear m)
 intro a Z m
 obtain ⟨u,rfl⟩:=m.rat 3 0 (hk:=show 0<1 from by omega)
 refine Jb Z m ((Jy (v:=vP u 0) (h:=by exact Yl.indexAddr (ad:=⟨u,0,none⟩) (y:=0) (sz:=4) rfl rfl rfl om kr)∘Jy (v:= .agg ((⟨1,11,26,39⟩:Pl).cells)) (h:=by exact Pe rfl rfl rO rfl (λ_ h=>h.EK tT (i:=3) rfl ((show [(⟨1,11,26,39⟩:Pl)][0]?=some _ from rfl))))∘eH #[vI 1,vI 11,vI 26,vI 39]∘Jy (v:= .bool false) (h:=by exact aaH (b:=true) rfl rfl rfl Jt)∘Jv 6 [(112,.bool false)]∘Jf 0∘Jg 0 O1∘Jv 3 [(118,.bool false)]∘Jg 8 O1∘Jl∘Jv 3 [(124,.bool false)]∘Jg 8 O1∘Jy (v:=vP M 0) (h:=by exact Yl.indexAddr (ad:=⟨M,0,none⟩) (y:=0) (sz:=5) rfl rfl rfl om kr)∘Jf 3∘Jy (v:=vI hx.b.next) (h:=by exact Pd rfl rfl kr (λ_ h=>h.qu OE (i:=2) rfl (k:=0) (off:=3) (x:=hx) ((show [hx][0]?=some _ from rfl)) rfl))∘Jo (vI 7) (by rw [hxb];try rfl)∘Jv 2 [(131,.bool false)]∘aF∘Jq) λa Z m=>?_)
 replace Z:=Z.to [(131,.bool false),(11,vP K 0),(3,.slice p 39 o),(0,.bool false)]
 refine Jb Z m ((JG∘JF∘aD∘JP∘JL (h:=by exact λm=>Em 1 (by unfold aQ;decide) _)) ?_)
 rintro m _ Um ⟨e,rfl,Q,R,S,hm⟩
 refine ⟨_,rfl,_,(show Mem w Um (.blk P y.cells 53:: .blk K #[vI 1,vI z.ak,vQ z.aj,abg z.gA z.gs z.gc,abg z.lA z.cl z.lc,abg z.uA z.cu z.uc,abg z.tA z.ts z.tc,abg z.sA z.rs z.sc,vS M 1 cl] 53:: .row (vS M 1 cl) 1 ([hx].flatMap hbL) 85 5:: .row (vS u 1 J) 1 ([(⟨1,11,26,39⟩:Pl)].flatMap j6) 57 4:: .row (.slice p 39 o) 39 (cB.map B8) 5 1:: .blk F D.cells 53:: .row (.slice C 8 t) 8 (l5.map B8) 5 1::(jV e++([]))) from m.ku (T:=[]) 7 hm rfl),?_⟩
 refine (JL (h:=by exact λm=>Em 0 (by unfold aQ;decide) _)) ?_
 rintro m _ Ch ⟨g,rfl,U,V,W,hm⟩
 refine ⟨_,rfl,_,(show Mem w Ch (.blk P y.cells 53:: .blk K #[vI 1,vI z.ak,vQ z.aj,abg z.gA z.gs z.gc,abg z.lA z.cl z.lc,abg z.uA z.cu z.uc,abg z.tA z.ts z.tc,abg z.sA z.rs z.sc,vS M 1 cl] 53:: .row (vS M 1 cl) 1 ([hx].flatMap hbL) 85 5:: .row (vS u 1 J) 1 ([(⟨1,11,26,39⟩:Pl)].flatMap j6) 57 4:: .row (.slice p 39 o) 39 (cB.map B8) 5 1:: .blk F D.cells 53:: .row (.slice C 8 t) 8 (l5.map B8) 5 1::(jV g++(jV e++([])))) from m.ku (T:=jV e++([])) 7 hm rfl),?_⟩
 refine (JU pQ #[vI e.z.next,vI e.z.st.ak,vQ e.z.st.aj,abg e.z.st.gA e.z.st.gs e.z.st.gc,abg e.z.st.lA e.z.st.cl e.z.st.lc,abg e.z.st.uA e.z.st.cu e.z.st.uc,abg e.z.st.tA e.z.st.ts e.z.st.tc,abg e.z.st.sA e.z.st.rs e.z.st.sc,abg e.A e.q e.c,vI g.z.next,vI g.z.st.ak,vQ g.z.st.aj,abg g.z.st.gA g.z.st.gs g.z.st.gc,abg g.z.st.lA g.z.st.cl g.z.st.lc,abg g.z.st.uA g.z.st.cu g.z.st.uc,abg g.z.st.tA g.z.st.ts g.z.st.tc,abg g.z.st.sA g.z.st.rs g.z.st.sc,abg g.A g.q g.c]) λaqT N=>(JI (h:=by exact λm=>q0x (some ⟨N,0,none⟩) 2 e g Q R U V B _ (I.mem m s) (m.le s) (m.aW (i:=0) (n:=2) (size:=9) rfl rfl) (zht S (m.I8 8 rfl) W (m.TR 8 rfl)) de)) λUn E=>(Jp 1∘Jx∘Jx∘Jp 2∘Jq∘JC (h:=by exact λm=>(show Mem w _ [.blk N #[vI e.z.next,vI e.z.st.ak,vQ e.z.st.aj,abg e.z.st.gA e.z.st.gs e.z.st.gc,abg e.z.st.lA e.z.st.cl e.z.st.lc,abg e.z.st.uA e.z.st.cu e.z.st.uc,abg e.z.st.tA e.z.st.ts e.z.st.tc,abg e.z.st.sA e.z.st.rs e.z.st.sc,abg e.A e.q e.c,vI g.z.next,vI g.z.st.ak,vQ g.z.st.aj,abg g.z.st.gA g.z.st.gs g.z.st.gc,abg g.z.st.lA g.z.st.cl g.z.st.lc,abg g.z.st.uA g.z.st.cu g.z.st.uc,abg g.z.st.tA g.z.st.ts g.z.st.tc,abg g.z.st.sA g.z.st.rs g.z.st.sc,abg g.A g.q g.c] 53,.blk P y.cells 53,.blk K #[vI 1,vI z.ak,vQ z.aj,abg z.gA z.gs z.gc,abg z.lA z.cl z.lc,abg z.uA z.cu z.uc,abg z.tA z.ts z.tc,abg z.sA z.rs z.sc,vS M 1 cl] 53,.row (vS M 1 cl) 1 ([hx].flatMap hbL) 85 5,.row (vS u 1 J) 1 ([(⟨1,11,26,39⟩:Pl)].flatMap j6) 57 4,.row (.slice p 39 o) 39 (cB.map B8) 5 1,.blk F D.cells 53,.row (.slice C 8 t) 8 (l5.map B8) 5 1] from m.lS (ad8 _ _)))∘JC (h:=by exact λm=>m.pk [5])∘JG∘JP∘JL (h:=by exact λm=>Em 1 (by unfold aQ;decide) _)) ?_
 rintro m _ Uo ⟨d,rfl,X,Y,JY,hm⟩
 refine ⟨_,rfl,_,(show Mem w Uo (.row (.slice p 39 o) 39 (cB.map B8) 5 1::(jV d++([]))) from m.ku (T:=[]) 1 hm rfl),?_⟩
 refine (JL (h:=by exact λm=>Em 5 (by unfold aQ;decide) _)) ?_
 rintro m _ yI ⟨f,rfl,J2,J3,J4,hm⟩
 refine ⟨_,rfl,_,(show Mem w yI (.row (.slice p 39 o) 39 (cB.map B8) 5 1::(jV f++(jV d++([])))) from m.ku (T:=jV d++([])) 1 hm rfl),?_⟩
 refine (JL (h:=by exact λm=>Em 4 (by unfold aQ;decide) _)) ?_
 rintro m _ Uq ⟨l,rfl,J5,J6,J7,hm⟩
 refine ⟨_,rfl,_,(show Mem w Uq (.row (.slice p 39 o) 39 (cB.map B8) 5 1::(jV l++(jV f++(jV d++([]))))) from m.ku (T:=jV f++(jV d++([]))) 1 hm rfl),?_⟩
 refine (JU pQ #[vI d.z.next,vI d.z.st.ak,vQ d.z.st.aj,abg d.z.st.gA d.z.st.gs d.z.st.gc,abg d.z.st.lA d.z.st.cl d.z.st.lc,abg d.z.st.uA d.z.st.cu d.z.st.uc,abg d.z.st.tA d.z.st.ts d.z.st.tc,abg d.z.st.sA d.z.st.rs d.z.st.sc,abg d.A d.q d.c,vI f.z.next,vI f.z.st.ak,vQ f.z.st.aj,abg f.z.st.gA f.z.st.gs f.z.st.gc,abg f.z.st.lA f.z.st.cl f.z.st.lc,abg f.z.st.uA f.z.st.cu f.z.st.uc,abg f.z.st.tA f.z.st.ts f.z.st.tc,abg f.z.st.sA f.z.st.rs f.z.st.sc,abg f.A f.q f.c,vI l.z.next,vI l.z.st.ak,vQ l.z.st.aj,abg l.z.st.gA l.z.st.gs l.z.st.gc,abg l.z.st.lA l.z.st.cl l.z.st.lc,abg l.z.st.uA l.z.st.cu l.z.st.uc,abg l.z.st.tA l.z.st.ts l.z.st.tc,abg l.z.st.sA l.z.st.rs l.z.st.sc,abg l.A l.q l.c]) λaqU O=>(JI (h:=by exact λm=>qsg (some ⟨O,0,none⟩) 3 d f l X Y J2 J3 J5 J6 B _ (I.mem m s) (m.le s) (m.aW (i:=0) (n:=3) (size:=9) rfl rfl) (zhu JY (m.TS 2 rfl) J4 (m.I8 2 rfl) J7 (m.TR 2 rfl)) de)) λCa E=>(Jp 1∘Jx∘Jx∘Jp 2∘Jq∘JC (h:=by exact λm=>(show Mem w _ [.blk O #[vI d.z.next,vI d.z.st.ak,vQ d.z.st.aj,abg d.z.st.gA d.z.st.gs d.z.st.gc,abg d.z.st.lA d.z.st.cl d.z.st.lc,abg d.z.st.uA d.z.st.cu d.z.st.uc,abg d.z.st.tA d.z.st.ts d.z.st.tc,abg d.z.st.sA d.z.st.rs d.z.st.sc,abg d.A d.q d.c,vI f.z.next,vI f.z.st.ak,vQ f.z.st.aj,abg f.z.st.gA f.z.st.gs f.z.st.gc,abg f.z.st.lA f.z.st.cl f.z.st.lc,abg f.z.st.uA f.z.st.cu f.z.st.uc,abg f.z.st.tA f.z.st.ts f.z.st.tc,abg f.z.st.sA f.z.st.rs f.z.st.sc,abg f.A f.q f.c,vI l.z.next,vI l.z.st.ak,vQ l.z.st.aj,abg l.z.st.gA l.z.st.gs l.z.st.gc,abg l.z.st.lA l.z.st.cl l.z.st.lc,abg l.z.st.uA l.z.st.cu l.z.st.uc,abg l.z.st.tA l.z.st.ts l.z.st.tc,abg l.z.st.sA l.z.st.rs l.z.st.sc,abg l.A l.q l.c] 53,.row (.slice p 39 o) 39 (cB.map B8) 5 1] from m.lS (ad8 _ _)))∘JC (h:=by exact λm=>m.pk [1])∘JG∘JP∘Jp 1∘JU aX #[vB 0]) λaqV aqW=>(JD ([0].map B8) 1 (λ_ _=>fO) aX (hr:=by exact λm=>m.aW (i:=0) (n:=1) (size:=1) rfl rfl) (h1:=by decide)) λaqX Ur Us hc150=>(JL (h:=by exact λm=>q0y Ur Us B _ (I.mem m s) (m.le s) (m.rd (i:=1) rfl) hc150)) ?_
 rintro m _ aqY ⟨⟨aqZ,aq0,rfl,_,_⟩,E⟩
 refine ⟨_,rfl,_,m.call E,?_⟩
 exact (Jp 1∘Jx∘Jx∘Jp 2∘aF∘Jr∘Jv 19 [(0,.bool true)]∘aF∘Jj∘JZ) tH
theorem Mem.yZ {F:List Fact} {q:List Pm} (h:Mem W w F) (n:Nat) (a:F.drop n=dn q):∀p∈q,dL w p:=h.Am λ_ b=>abU (a▸b)
def q7n {bs:List Nat} (A:Option Addr) (c:Nat) (l:List Pm) (B:Nat) (w:World) (d:aM B w) (e:B≤w.heap.size) (hr:Rd w w.heap.size 9 A (abk l) (l.flatMap iB)) (f:∀p∈l,dL w p) (hc:abk l≤c) (g:abk l≤100000) (a:lN l L bs):Calls abl 16 #[.slice A (abk l) c] w (zf w 0 bs):=by
 have k:=M8 A c l B w d e hr (λp b=>⟨a.ok p b,f p b⟩) hc g
 rw [a.wr.wr] at k
 exact k
def zh2 {P:Program} {x:Code} {Q:Exit→Act→World→Prop} {a:Act} (R:Act→World→Prop) (h:x.wp P (Exit.then R Q) a w) (k:∀a w,R a w→Q .normal a w):x.wp P Q a w:=
 Code.wp_mono (λe a w b=>by cases e<;>first|exact k _ _ b|exact b) h
def zh3 {l:List Ap} (h:Rd w B 16 A (abk l) (l.flatMap sW)) (k:Nat):Rd w B 16 A (abk (l.take k)) ((l.take k).flatMap sW):=by
 have h1:=h.upto (k:=abk (l.take k)) (by rw [abu];omega)
 rw [OO sW 16 Tt,abu] at h1
 rw [abu]
 rwa [←afR] at h1
def zh4 {size n:Nat} {xs:List Value} (h:Rd w B size none n xs) (hs:0<size:=by decide):n=0:=by
 rcases acn n with h1|h1
 ·exact h1
 ·obtain ⟨g,o,e,_⟩:=h.NH h1 hs
  cases e
def zkq {v f y:Int} {m:Nat} (h1:v≤ -1∧ -9223372036854775808≤v) (h2:(m:Int)≤f∧f≤9223372036854775807) (a:j<2) (hy: [v,f].getD j 0=y):(y<0∨(m:Int)≤y)∧ -9223372036854775808≤y∧y≤9223372036854775807:=by
 rcases (show j=0∨j=1 by omega) with rfl|rfl
 ·have hy:v=y:=hy
  omega
 ·have hy:f=y:=hy
  omega
def zh5:∀u∈(([⟨Bk.zero,none,0⟩,⟨fK 1,none,0⟩]:List Hb).flatMap hbL),u.oneCell'=true:=List.all_eq_true.1 (by rfl)
def J8 (n:Int) (b:aQ n) (m:Nat) (hm:2≤m∧m≤4) (w:World):Calls abl 39 #[vI n,vI m] w λr a=>(∃k:Nat,r= .returned (vI k)∧k<m)∧Below w.heap.size w a:=by
 refine (OQ n m b (by unfold aQ;omega) w).mono λr a ⟨h1,h2⟩=>⟨⟨(dZ n m).toNat,?_,?_⟩,by rw [h2];exact Below.refl _ _⟩
 ·rw [h1,Int.toNat_of_nonneg]
  unfold dZ;rw [if_neg om];exact Int.emod_nonneg _ om
 ·unfold dZ;rw [if_neg om]
  have:=Int.emod_lt_of_pos n (show (0:Int)<m by omega)
  omega
theorem q0z {e:Nat} (A:Option Addr) (c:Nat) (l:List Pm) (B:Nat) (w:World) (b:aM B w) (d:B≤w.heap.size) (hr:Rd w w.heap.size 9 A (abk l) (l.flatMap iB)) (f:∀p∈l,gq p∧dL w p) (hc:abk l≤c) (g:abk l≤100000) (h:mU (l.map Pm.v)=((k:Int),e)) (i:e≠0):Calls abl 16 #[.slice A (abk l) c] w λr a=>(∃j m,r= .returned (.tuple #[.slice j 0 m,vI e]))∧Below w.heap.size w a:=by
 have k:=M8 A c l B w b d hr f hc g
 rw [qnj h i] at k
 exact k.mono λr a ⟨⟨A,c,h1,_⟩,h2⟩=>⟨⟨A,c,h1⟩,h2⟩
def q00 {l X:List Ap} {q:List Pm} {bs:List Nat} {x:Pm} (d:lN q L bs) (a:X=l.take 2++[qY 5,qY 0]) (b:∀x∈l,jD w x) (h:jY X q (abk (X.take 4))) (c:x∈q):abk x.q≤1000:=by
 obtain ⟨y,nx,_,h2⟩:=TH h (by have:=TN a;omega) (wG a b) c
 have h3:=congrArg adw h2.bl
 rw [abv,OZ,abu] at h3
 omega
def qjd (A:Option Addr) (c:Nat) (l:List Ap) (B:Nat) (w:World) (hL:aM B w) (I:B≤w.heap.size) (hr:Rd w w.heap.size 16 A (abk l) (l.flatMap sW)) (hP:∀x∈l,jD w x) (hc:abk l≤c) (hn:abk l≤9223372036854775807) (wy:Nat) (hwy:wy<256) (n:Int) (hIn:aQ n):
    Calls abl 11 #[.slice A (abk l) c,vB wy,vI n] w (Is w (.bool true)):=by
 obtain ⟨X,hX⟩:∃z,z=l.take 2++[qY 5,qY 0]:=⟨_,rfl⟩
 have hXl:=TN hX
 have ht2:abk (l.take 2)≤abk l∧abk (l.take 2)≤2:=by rw [abu];omega
 have hr2:Rd w w.heap.size 16 A (abk (l.take 2)) ((l.take 2).flatMap sW):=zh3 hr 2
 have hA0:A=none→abk (l.take 2)=0∧abk (l.take 2)=0:=λh=>by subst h;have:=zh4 hr;omega
 refine (wU Tryz.func11 162) ?_
 refine (JP∘Jp 1∘Jj∘JQ∘JP∘JI (h:=by exact λd=>qvd B _ (hL.mem d I) (d.le I))) λKI E=>(Jp 1∘aK∘Jj∘JF∘aD∘JP∘Jp 2∘Jl∘Jy (v:=vI (if (2:Int)<(abk l:Int) then 2 else (abk l:Int))) (h:=by exact Yl.min rfl rfl rfl)∘Jo (vI (abk (l.take 2))) (by exact rU l 2)∘Jp 1∘Jl∘Jy (v:=vI (if (2:Int)<(abk l:Int) then 2 else (abk l:Int))) (h:=by exact Yl.min rfl rfl rfl)∘Jo (vI (abk (l.take 2))) (by exact rU l 2)∘Jy (v:= .slice A (abk (l.take 2)) (abk (l.take 2))) (h:=by exact aaV rT (j:=abk (l.take 2)) (q:=abk (l.take 2)) rfl rfl rfl rfl (abo _) (by rw [abu];omega))∘eH #[vB 0,vB 0,vW 0,vB 0,vB 0,vB 0,vB 0,vB 0,.int .u16 0,.int .u16 0,.int .u16 0,.int .u16 0,.int .u16 0,vN,vW 5,vN]∘eH #[vB 0,vB 0,vW 0,vB 0,vB 0,vB 0,vB 0,vB 0,.int .u16 0,.int .u16 0,.int .u16 0,.int .u16 0,.int .u16 0,vN,vW 0,vN]∘JU rT #[vB 0,vB 0,vW 0,vB 0,vB 0,vB 0,vB 0,vB 0,.int .u16 0,.int .u16 0,.int .u16 0,.int .u16 0,.int .u16 0,vN,vW 5,vN,vB 0,vB 0,vW 0,vB 0,vB 0,vB 0,vB 0,vB 0,.int .u16 0,.int .u16 0,.int .u16 0,.int .u16 0,.int .u16 0,vN,vW 0,vN]) λSN g36=>λa Z d=>?_
 refine fo Z 11 rfl rfl ?_
 refine ND Z d (xs:=((l.take 2).flatMap sW)) (news:=(([qY 5,qY 0]:List Ap).flatMap sW)) rfl rT rfl rfl (d.old hr2) (d.aW (i:=0) (n:=2) (size:=16) rfl rfl) om om (hA0) om om rfl de ?_
 clear Z d;intro a Dv g37 c37 Z d V
 have f:abk (l.take 2)+2=abk X:=hXl.1.symm
 rw [f] at V
 replace d:=d.aT (i:=0) (ys:=X.flatMap sW) rfl f (by rw [hX,abO])
 replace Z:=Z.sp 37 (vS g37 (abk X) c37) rfl (gF f)
 refine Jb Z d ((JL (h:=by exact λd=>q0t (some ⟨g37,0,none⟩) c37 X _ (d.rd (i:=0) rfl) (λx u=>(wG hX hP x u).old d) V om)) ?_)
 rintro d _ KJ ⟨Aq,C,q,rfl,R,G,hm⟩
 refine ⟨_,rfl,_,(show Mem w KJ (abj Aq q C iB 53 9::dn q) from aaG d hm),?_⟩
 refine (Jp 1∘Jx∘Jx∘Jp 2∘Jq) ?_
 have MN:=R.1
 have hnx2:=zhm hX R
 obtain ⟨L,bs,J⟩:=zkj R om om (wG hX hP)
 have hbl:=J.wr.few
 have K:2≤abk q∧abk q≤4:=by omega
 have hi0:(bW bs).2=0:=by rw [J.wr.idx]
 have hil:(bW bs).1.length=abk q:=by rw [J.wr.idx];exact J.len
 refine (JG∘JP∘Jp 1∘JK (h:=by exact λd=>q7n Aq C q B _ (hL.mem d I) (d.le I) (d.rd (i:=0) rfl) (d.yZ 1 rfl) G om J)) λAx cx PG hcx=>(Jp 1∘Jx∘Jx∘Jp 2∘Jj∘JQ∘JP∘Jv 8 [(53,abg Aq q C),(52,.bool false)]∘Jl∘Jp 2∘lT∘Jq) ?_
 obtain ⟨M,hy1⟩:∃z:Int,(if (-1:Int)<(n:Int) then -1 else n)=z:=⟨_,rfl⟩
 obtain ⟨N,hy2⟩:∃z:Int,(if (abk q:Int)>(n:Int) then (abk q:Int) else n)=z:=⟨_,rfl⟩
 have Ut:=hIn
 intro a Z d
 unfold aQ at Ut
 have hb1:M≤ -1∧ -9223372036854775808≤M:=by rw [←hy1];split<;>omega
 have hb2:(abk q:Int)≤N∧N≤9223372036854775807:=by rw [←hy2];split<;>omega
 refine Jb Z d (Ji (λUu=>?_) λUu=>?_)
 ·
  intro a Z d
  exfalso;omega
 refine (JF∘aD∘JQ∘JP∘Jp 1∘Jy (v:=vI (if (-1:Int)<(n:Int) then -1 else n)) (h:=by exact Yl.min rfl rfl rfl)∘Jo (vI M) (by exact congrArg (abJ .i64) hy1)∘Jp 2∘Jl∘Jy (v:=vI (if (abk q:Int)>(n:Int) then (abk q:Int) else n)) (h:=by exact Yl.max rfl rfl rfl)∘Jo (vI N) (by exact congrArg (abJ .i64) hy2)∘JU zy #[vI M,vI N]) λLW S=>(Jl∘Jp 1∘Jq∘JC (h:=by exact λd=>(d.eB (i:=0) (n:=2) (size:=1) rfl rfl de).bM (i:=0) (ys:=[M,N].map aP) rfl (rfl))∘JG∘JB) λa Z d=>?_
 refine qg (λmS aS wS=>∃(j:Nat),(j≤2)∧mS=2-j∧Fr aS 162 [] [(65,vI j),(64,vI 2),(63,vS S 2 2),(56,.bool false),(9,abg Ax bs cx),(7,abg Aq q C),(24,.bool false),(6,.bool false),(1,vB wy),(2,vI n)]∧Mem w wS (.row (vS S 2 2) 2 ([M,N].map aP) 3 1:: abh Ax bs cx B8 5 1:: abj Aq q C iB 53 9::dn q)) (m:=2-0) ⟨0,abx _,rfl,Z.sub kr,d.pt 3 [0,1,2]⟩ ?_
 clear Z d;rintro mS a w_ ⟨j,hj,rfl,Z,d⟩
 refine Jb Z d ((JP∘Jp 1∘Jj∘JQ) (Ji (λCk=>?_) λCk=>?_))
 ·
  obtain ⟨y,W⟩:∃y,[M,N].getD j 0=y:=⟨_,rfl⟩
  have T:(y<0∨(abk q:Int)≤y)∧ -9223372036854775808≤y∧y≤9223372036854775807:=zkq hb1 hb2 om W
  have hyI:aQ y:=⟨T.2.1,T.2.2⟩
  refine (JT∘aD∘JQ∘JB∘JP∘lU j 1∘Jy (v:=vI ([M,N].getD j 0)) (h:=by exact aae 0 j 0 (show j<[M,N].length from by show j<2;omega) rfl rfl rfl)∘Jo (vI y) (by rw [W])∘Jp 1∘bG∘Jr∘Jp 2∘JI (h:=by exact λd=>zb5 Ax cx bs B _ (hL.mem d I) (d.le I) (d.rd (i:=1) rfl) hcx om J.lt y hyI hi0 (by rw [hil];exact T.1))) λw72 E=>(Jp 1∘Jx∘Jx∘JA #[vI 0,vI 0,vQ 0,vN,vN,vN,vN,vN,vN]) λuJ g13=>(JV bU aU (h1:=by exact Ec Pm.zero)) λacp=>(Jp 1∘aF∘Jr∘Jp 2∘JI (h:=by exact λd=>zb6 Ax cx bs B _ (hL.mem d I) (d.le I) (d.rd (i:=2) rfl) hcx om J.lt y hyI hi0 (by rw [hil];exact T.1))) λw78 E=>(Jp 1∘Jx∘Jx∘Jp 2∘aF∘Jr∘Jv 6 [(86,.bool false)]∘Jj∘JF∘aD∘JR∘cK 1∘Jp 1∘aK∘Jq) λa Z d=>?_
  exact ⟨_,om,j+1,by omega,rfl,Z.sub kr,d.pt 4 [1,2,3]⟩
 refine (JF∘JX∘JG∘JP∘Jp 2∘Jl∘JL (h:=by exact λd=>J8 n hIn _ K _)) ?_
 rintro d _ w91 ⟨⟨k,rfl,hkq⟩,E⟩
 refine ⟨_,rfl,_,d.call E,?_⟩
 refine (Jp 1∘gG∘Jq) ?_
 repeat (first|clear Z|clear d)
 intro a Z d
 obtain ⟨r,rfl⟩:=d.rat 2 0
 refine Jb Z d ((JG∘JP∘Jp 1∘Jj∘JQ∘JP∘Jp 2∘Jo (vB (wy%4:Nat)) (by exact q9 .u8 _ 4)∘aK∘Jj) λa Z d=>?_)
 refine zh2 (λaS wS=>∃(U:List Pm) (kk:Nat) (e:Nat) (F:List Fact),(sZ q U kk e)∧(∀w',Mem w w' F→∀y∈U,dL w' y)∧Fr aS 162 [] [(7,vS r (abk U) C),(17,vI kk),(18,vI e),(6,.bool false)]∧Mem w wS (.row (vS r (abk U) C) (abk U) (U.flatMap iB) 53 9::F)) ?_ ?_
 ·
  refine Jb Z d ((JB∘JP∘Jp 2∘aK∘Jj) (Je (λhd102=>?_) λhd102=>?_))
  ·
   obtain ⟨x,u⟩:∃z,q.getD k Pm.zero=z:=⟨_,rfl⟩
   have g:k<abk q:=by omega
   have D:q[k]?=some x:=by rw [←u];exact getD_at Pm.zero g
   have H:x∈q:=by rw [←u];exact qe Pm.zero g
   refine (JT∘JR∘Jp 2∘lU k 9∘Jf 0∘Jf 1∘Jf 3) λa Z d=>?_
   refine fo Z 6 rfl rfl ?_
   refine qw Z d (i:=2) rfl rfl rfl rfl kr rfl rfl (by rw [zk iB 9 qc5];omega) λacr d=>?_
   replace d:=d.bM (i:=2) (ys:=(q.set k x.xC).flatMap iB) rfl (ze iB 9 qc5 q k x x.xC D 4 de _ rfl)
   refine Jb Z d ((iA∘Jq) ?_)
   have b:abk q=abk (q.set k (x.xC)):=List.length_set.symm
   rw [b] at G
   intro a Z d
   replace d:=d.aT (i:=2) (ys:=(q.set k (x.xC)).flatMap iB) rfl b (rfl)
   replace Z:=Z.sp 7 (vS r (abk (q.set k (x.xC))) C) rfl (gF b)
   exact ⟨(q.set k (x.xC)),k,331,dn q,TI J K.2 g u,(λw' h=>TM (h.Am λ_ O=>O) (q0q (h.Am (λ_ O=>O) x H))),Z.sub kr,d.pt 3 [2]⟩
  refine (JF∘JP∘Jp 2∘aK∘Jj) (Je (λJ9=>?_) λJ9=>?_)
  ·
   obtain ⟨x,u⟩:∃z,q.getD k Pm.zero=z:=⟨_,rfl⟩
   have g:k<abk q:=by omega
   have D:q[k]?=some x:=by rw [←u];exact getD_at Pm.zero g
   have H:x∈q:=by rw [←u];exact qe Pm.zero g
   obtain ⟨P,hm0⟩:∃z:Int,(if (0:Int)<(n:Int) then 0 else n)=z:=⟨_,rfl⟩
   have Y:P≤0∧aQ P:=by unfold aQ;rw [←hm0];split<;>omega
   refine (JT∘JR∘Jp 3∘Jy (v:=vI (if (0:Int)<(n:Int) then 0 else n)) (h:=by exact Yl.min rfl rfl rfl)∘Jo (vI P) (by exact congrArg (abJ .i64) hm0)∘lU k 9∘Jf 0∘Jf 0) λa Z d=>?_
   refine fo Z 7 rfl rfl ?_
   refine qw Z d (i:=2) rfl rfl rfl rfl kr rfl rfl (by rw [zk iB 9 qc5];omega) λacs d=>?_
   replace d:=d.bM (i:=2) (ys:=(q.set k (x.qE P)).flatMap iB) rfl (ze iB 9 qc5 q k x (x.qE P) D 0 de _ rfl)
   refine Jb Z d ((Jp 1∘aF∘Jq) ?_)
   have b:abk q=abk (q.set k (x.qE P)):=List.length_set.symm
   rw [b] at G
   intro a Z d
   replace d:=d.aT (i:=2) (ys:=(q.set k (x.qE P)).flatMap iB) rfl b (rfl)
   replace Z:=Z.sp 112 (vS r (abk (q.set k (x.qE P))) C) rfl (gF b)
   replace Z:=Z.sp 7 (vS r (abk (q.set k (x.qE P))) C) rfl (gF b)
   exact ⟨(q.set k (x.qE P)),k,330,dn q,TJ J K.2 g u Y.2 Y.1,(λw' h=>TM (h.Am λ_ O=>O) (qse P (h.Am (λ_ O=>O) x H))),Z.sub kr,d.pt 3 [2]⟩
  refine (JF∘JP∘Jp 2∘aK∘Jj) (Je (λKa=>?_) λKa=>?_)
  ·
   obtain ⟨x,u⟩:∃z,q.getD k Pm.zero=z:=⟨_,rfl⟩
   have g:k<abk q:=by omega
   have D:q[k]?=some x:=by rw [←u];exact getD_at Pm.zero g
   have H:x∈q:=by rw [←u];exact qe Pm.zero g
   have hx5:abk x.q≤1000:=q00 J hX hP R H
   intro a Z d
   replace d:Mem w _ (abj x.A x.q x.c hbL 85 5:: .row (vS S 2 2) 2 ([M,N].map aP) 3 1:: abh Ax bs cx B8 5 1:: .row (vS r (abk q) C) (abk q) (q.flatMap iB) 53 9::(iU x.z.st++(gJ 73 x.q++(dn (lQ q k))))):=aa3 (a:=[.row (vS S 2 2) 2 ([M,N].map aP) 3 1,abh Ax bs cx B8 5 1,.row (vS r (abk q) C) (abk q) (q.flatMap iB) 53 9]) d g u
   refine Jb Z d ((JT∘JP∘Jp 4∘lU k 9∘Jf 8∘Jy (v:= .slice x.A (abk x.q) x.c) (h:=by exact Pd rfl rfl kr (λ_ h=>h.qu qc5 (i:=3) rfl (k:=k) (off:=8) (x:=x) (D) rfl))∘eH #[vB 0,vB 0,vI 0,vI 0,vN]∘eH #[vB 2,vB 0,vI 0,vI 1,vN]∘JU Bt #[vB 0,vB 0,vI 0,vI 0,vN,vB 2,vB 0,vI 0,vI 1,vN]) λGN arb=>(JD (([⟨Bk.zero,none,0⟩,⟨fK 1,none,0⟩]:List Hb).flatMap hbL) 1 (λ_ _=>fO) Bt (hr:=by exact λd=>d.aW (i:=0) (n:=2) (size:=5) rfl rfl) (h1:=by exact zh5)) λGQ o p Q=>?_)
   have s:abk x.q+2=abk (x.q++([⟨Bk.zero,none,0⟩,⟨fK 1,none,0⟩]:List Hb)):=by rw [abm];rfl
   rw [s] at Q
   refine (JC (h:=by exact λd=>d.aT (i:=1) (ys:=(x.q++([⟨Bk.zero,none,0⟩,⟨fK 1,none,0⟩]:List Hb)).flatMap hbL) rfl s (by rw [abO]))∘Jk 131 (.slice o (abk (x.q++([⟨Bk.zero,none,0⟩,⟨fK 1,none,0⟩]:List Hb))) p) (h:=by exact gF s)∘lU k 9∘Jf 8) λa Z d=>?_
   refine fo Z 13 rfl rfl ?_
   refine qw Z d (i:=4) rfl rfl rfl rfl kr rfl rfl (by rw [zk iB 9 qc5];omega) λCJ d=>?_
   replace d:=d.bM (i:=4) (ys:=(q.set k (x.wF o p)).flatMap iB) rfl (ze iB 9 qc5 q k x (x.wF o p) D 8 de _ rfl)
   refine Jb Z d ((iA∘Jj∘JR∘Jp 1∘aF∘Jq) ?_)
   have b:abk q=abk (q.set k (x.wF o p)):=List.length_set.symm
   rw [b] at G
   intro a Z d
   replace d:=d.aT (i:=4) (ys:=(q.set k (x.wF o p)).flatMap iB) rfl b (rfl)
   replace Z:=Z.sp 121 (vS r (abk (q.set k (x.wF o p))) C) rfl (gF b)
   replace Z:=Z.sp 7 (vS r (abk (q.set k (x.wF o p))) C) rfl (gF b)
   exact ⟨(q.set k (x.wF o p)),k,107,(abj o (x.q++([⟨Bk.zero,none,0⟩,⟨fK 1,none,0⟩]:List Hb)) p hbL 85 5::(iU x.z.st++(gJ 73 x.q++(dn (lQ q k))))),TK J K.2 g u Q hx5,(λw' h=>zhl h rfl),Z.sub kr,d.pt 5 [4,1]⟩
  obtain ⟨x,u⟩:∃z,q.getD (abk q-1) Pm.zero=z:=⟨_,rfl⟩
  have g:(abk q-1)<abk q:=by omega
  have D:q[(abk q-1)]?=some x:=by rw [←u];exact getD_at Pm.zero g
  have H:x∈q:=by rw [←u];exact qe Pm.zero g
  refine (JF∘JP∘Jp 1∘Jl∘xQ 1∘Jp 1∘dU∘Jj∘JR∘Jp 2∘lU (abk q-1) 9∘Jf 0∘Jf 0) λa Z d=>?_
  refine fo Z 5 rfl rfl ?_
  refine qw Z d (i:=2) rfl rfl rfl rfl kr rfl rfl (by rw [zk iB 9 qc5];omega) λFV d=>?_
  replace d:=d.bM (i:=2) (ys:=(q.set (abk q-1) (x.qE 1)).flatMap iB) rfl (ze iB 9 qc5 q (abk q-1) x (x.qE 1) D 0 de _ rfl)
  refine Jb Z d ((Jp 1∘lT∘Jq) ?_)
  have b:abk q=abk (q.set (abk q-1) (x.qE 1)):=List.length_set.symm
  rw [b] at G
  intro a Z d
  replace d:=d.aT (i:=2) (ys:=(q.set (abk q-1) (x.qE 1)).flatMap iB) rfl b (rfl)
  replace Z:=Z.sp 7 (vS r (abk (q.set (abk q-1) (x.qE 1))) C) rfl (gF b)
  exact ⟨(q.set (abk q-1) (x.qE 1)),(abk q-1),411,dn q,TL J K.2 g u om hnx2,(λw' h=>TM (h.Am λ_ O=>O) (qse 1 (h.Am (λ_ O=>O) x H))),Z.sub kr,d.pt 3 [2]⟩
 clear Z d;rintro a w_ ⟨U,kk,e,F,t,hrd,Z,d⟩
 refine Jb Z d ((JG∘JP∘Jp 1∘JI (h:=by exact λd=>M7 (some ⟨r,0,none⟩) C U B _ (hL.mem d I) (d.le I) (d.rd (i:=0) rfl) (λy W=>⟨t.ok y W,hrd _ (d.lS (afB _ _)) y W⟩) (by rw [t.len];exact G) (by rw [t.len];omega) t.nL)) λUn E=>(Jp 1∘Jx∘Jx∘Jp 2∘Jr∘Jp 1∘JL (h:=by exact λd=>q0z (some ⟨r,0,none⟩) C U B _ (hL.mem d I) (d.le I) (d.rd (i:=0) rfl) (λy W=>⟨t.ok y W,hrd _ (d.lS (afB _ _)) y W⟩) (by rw [t.len];exact G) (by rw [t.len];omega) t.nL t.ne)) ?_)
 rintro d _ yI ⟨⟨ard,c141,rfl⟩,E⟩
 refine ⟨_,rfl,_,d.call E,?_⟩
 exact (Jp 1∘Jx∘Jx∘Jp 2∘Jr∘Jp 3∘Jo (.bool true) (by simp)∘Jp 4∘Jo (.bool true) (by simp)∘Jp 5∘Jo (.bool true) (by simp)∘Jp 3∘Jl∘Jv 3 [(6,.bool true)]∘aF∘Jj∘JZ) tH
end Go.Proofs.YtekiimhdnigmcaaGreatDoor
