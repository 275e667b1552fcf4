/- Parts. -/
import Derived.Test.YtekiimhdnigmcaaGreatDoorQwVarint
import Derived.Test.YtekiimhdnigmcaaGreatDoorQwOneWay
import Derived.Test.YtekiimhdnigmcaaGreatDoorQwBack
import Derived.Test.YtekiimhdnigmcaaGreatDoorQwCodV
import Derived.Test.YtekiimhdnigmcaaGreatDoorQwCrcP
import Derived.Laws.StructEq
import Derived.Test.YtekiimhdnigmcaaGreatDoorQwDoor
import Derived.Test.YtekiimhdnigmcaaGreatDoorRows
import Derived.Test.YtekiimhdnigmcaaGreatDoorQwZ1
set_option linter.all false
set_option maxRecDepth 100000
set_option maxHeartbeats 1000000
namespace Go.Proofs.YtekiimhdnigmcaaGreatDoor
open Go.RowKit
open List renaming length→abk
open _root_.Go.Proofs.Tryz renaming prog→abl
open _root_.List renaming length_append→abm,getD_eq_getElem?_getD→abn,getElem?_eq_getElem→abt,length_take→abu,length_map→abv,getElem?_eq_some_iff→aby,append_assoc→abz,replicate→abB,mem_of_getElem?→abF,length_set→abG,length_drop→abH,take_of_length_le→abI,flatMap_cons→abL,append_nil→abN,flatMap_append→abO,map_append→abP,mem_cons→abQ,mem_of_mem_drop→abU,mem_append→abV,mem_or_eq_of_mem_set→abW,length_cons→abX,mem_cons_of_mem→ab2,take_append_drop→ab5,mem_map→acd,mem_of_mem_take→ach,drop_eq_getElem_cons→acu,not_mem_nil→acy,getElem_of_mem→acz,mem_append_right→acA,mem_cons_self→acB,mem_flatMap→acK,getElem?_drop→acO,drop_drop→ac3,range→ac4,mem_map_of_mem→ac8,getElem?_map→adb,nil_append→ade,mem_singleton→adf,getElem?_eq_none→adg,perm_append_comm→adh,perm_middle→adj,map_nil→adp,drop_eq_nil_of_le→adq,getElem?_take→adx,length_nil→adT,take_add_one→adX,perm_append_comm_assoc→ad6,getElem_mem→aei,cons_append→aev,ext_getElem→aew,getElem_map→afi,set_append→afs,map_set→afy,getElem_mapIdx→af2,length_mapIdx→af6
open Nat renaming le_refl→abo,zero_le→abx,lt_or_ge→acj,zero_add→aco,mul_one→ac5,succ_mul→ads,mod_lt→adA,add_sub_cancel→aej,add_comm→aeB,mul_succ→aeC,strongRecOn→ae6,pow_succ→agR
open _root_.ByteArray renaming mk→abw
open Bool renaming and_eq_true→abC,eq_iff_iff→acg,true_and→acF,and_false→adQ,false_and→afO,not_eq_true→agq
open Value renaming int→abJ,bool→abS,oneCell'→acf
open Fence renaming wide→ace
open World renaming ownsRow_nil→acQ,block_lt_of_cell?→ad9,var?_cell→agr
open Addr renaming add_mid→acT
open Rw renaming l→aeI
open IntKind renaming wrap_u64→aeL,u32→afr
open Fact renaming row→ae9
open Int renaming le_refl→afd
open Lib renaming array_elem→agL
variable {l R L:List Nat} {m i x k c n g f y er sH B:Nat} {w W w':World} {α:Type} {A E:Option Addr} {z:Sp} {t:Tk} {fr fs:List Fact} {e:Ev} {rs:List Rw} {yl:List Sp}
theorem zjb {l:List Tk} {id:Int} (hs:d9 l) (hm:m<abk l) (h:(l.getD m Tk.zero).id<id):∀k,k<m+1→(l.getD k Tk.zero).id<id:=λk a=>by
 rcases acj k m with h1|h1
 ·have:=hs k m h1 hm;omega
 ·obtain rfl:k=m:=by omega
  exact h
theorem zfg {l:List Tk} {id:Int} (hs:d9 l) (hm:m<abk l) (h:id≤(l.getD m Tk.zero).id):∀k,m≤k→k<abk l→id≤(l.getD k Tk.zero).id:=λk b a=>by
 rcases acj m k with h1|h1
 ·have:=hs m k h1 a;omega
 ·obtain rfl:k=m:=by omega
  exact h
def qtu {l:List Tk} {id:Int} (hi:i=abk l) (h1:∀k,k<i→(l.getD k Tk.zero).id<id) (hb:Below w.heap.size w W):K8 w l id (.returned (.tuple #[vI i,.bool false])) W:=by
 subst hi
 exact search_end h1 hb
theorem sM:SI abl 283 3:=⟨by kernel_rfl,by kernel_rfl⟩
def zW (p:Int) (w:World):Calls abl 271 #[vI p] w (Is w (.bool false)):=by
 refine (dY Tryz.func271 6) ?_
 exact (JP∘Jp 1∘Jr∘Jp 3∘Jo (.bool false) (by simp)∘Jp 1∘dU∘Jj∘JZ) tH
def FX (p q:Int) (w:World):Calls abl 222 #[vI p,vI q] w (Is w (vI (jJ p q))):=by
 refine (iX Tryz.func222 20) ?_
 refine (JP∘Jp 1∘Jr∘Jp 1∘JL (h:=by exact λa=>zW _ _)) ?_
 rintro a _ f ⟨rfl,b⟩
 refine ⟨_,rfl,_,a.call b,?_⟩
 refine (Jp 1∘bG∘Jr∘Jp 1∘JL (h:=by exact λa=>zW _ _)) ?_
 rintro a _ e ⟨rfl,b⟩
 refine ⟨_,rfl,_,a.call b,?_⟩
 refine (Jp 1∘bG∘Jj∘JQ∘JP∘Jp 1∘Jj∘JF∘aD∘JQ∘JP∘Jp 1∘Jj∘JF∘aD∘JQ∘JP∘Jp 3∘bG∘Jj) (Ji (λc=>?_) λc=>?_)
 ·
  exact (JT∘JP∘Jp 1∘Jj∘JZ∘aZ) λa=>by exact ⟨by rw [show jJ p q= -1 from if_pos om],a.below⟩
 refine (JF∘aD∘JQ∘JP∘Jp 3∘bG∘Jj) (Ji (λd=>?_) λd=>?_)
 ·
  exact (JT∘JP∘Jp 1∘Jj∘JZ∘aZ) λa=>by exact ⟨by rw [show jJ p q=1 from (if_neg om).trans (if_pos om)],a.below⟩
 exact (JF∘aD∘JP∘Jp 1∘Jj∘JZ∘aZ) λa=>by exact ⟨by rw [show jJ p q=0 from (if_neg om).trans (if_neg om)],a.below⟩
def zX (p:Nat) (w:World):Calls abl 305 #[vQ p] w (Is w (.bool false)):=by
 refine (dY Tryz.func305 6) ?_
 exact (JP∘Jp 1∘Jr∘Jp 3∘Jo (.bool false) (by simp)∘Jp 1∘dU∘Jj∘JZ) tH
theorem FY (p q:Nat) (w:World):Calls abl 272 #[vQ p,vQ q] w (Is w (vI (jJ (p:Int) (q:Int)))):=by
 refine (iX Tryz.func272 20) ?_
 refine (JP∘Jp 1∘Jr∘Jp 1∘JL (h:=by exact λa=>zX _ _)) ?_
 rintro a _ f ⟨rfl,b⟩
 refine ⟨_,rfl,_,a.call b,?_⟩
 refine (Jp 1∘bG∘Jr∘Jp 1∘JL (h:=by exact λa=>zX _ _)) ?_
 rintro a _ e ⟨rfl,b⟩
 refine ⟨_,rfl,_,a.call b,?_⟩
 refine (Jp 1∘bG∘Jj∘JQ∘JP∘Jp 1∘Jj∘JF∘aD∘JQ∘JP∘Jp 1∘Jj∘JF∘aD∘JQ∘JP∘Jp 3∘bG∘Jj) (Ji (λc=>?_) λc=>?_)
 ·
  exact (JT∘JP∘Jp 1∘Jj∘JZ∘aZ) λa=>by exact ⟨by rw [show jJ (p:Int) (q:Int)= -1 from if_pos om],a.below⟩
 refine (JF∘aD∘JQ∘JP∘Jp 3∘bG∘Jj) (Ji (λd=>?_) λd=>?_)
 ·
  exact (JT∘JP∘Jp 1∘Jj∘JZ∘aZ) λa=>by exact ⟨by rw [show jJ (p:Int) (q:Int)=1 from (if_neg om).trans (if_pos om)],a.below⟩
 exact (JF∘aD∘JP∘Jp 1∘Jj∘JZ∘aZ) λa=>by exact ⟨by rw [show jJ (p:Int) (q:Int)=0 from (if_neg om).trans (if_neg om)],a.below⟩
def Ye (t:Tk) (id:Int) (w:World):Calls abl 221 #[.agg t.cells,vI id] w (Is w (vI (jJ t.id id))):=by
 refine (iX Tryz.func221 9) ?_
 refine (JP∘JE) λc d=>(Jp 1∘Jr∘Jg 0 O0∘Jp 1∘JL (h:=by exact λb=>FX t.id id _)) ?_
 rintro b _ e ⟨rfl,a⟩
 refine ⟨_,rfl,_,b.call a,?_⟩
 exact (Jp 1∘dU∘Jj∘JZ) tH
def qy4 (A:Option Addr) (c:Nat) (l:List Tk) (id:Int) (hs:d9 l) (w:World) (hr:Rd w w.heap.size 8 A (abk l) (l.flatMap bI)) (D:abk l≤1000000):
    Calls abl 220 #[abg A l c,vI id,.func (.func 221) #[] #[]] w (K8 w l id):=by
 refine (wU Tryz.func220 49) ?_
 refine (JP∘Jp 2∘Jr∘Jp 1∘Jl∘Jp 1∘bG∘Jr∘Jp 3∘Jj∘JQ∘JB) λa Z b=>?_
 refine qg (λr t u=>∃(i:Nat) (j:Nat),(i≤j)∧(j≤abk l)∧(∀k,k<i→(l.getD k Tk.zero).id<id)∧(∀k,j≤k→k<abk l→id≤(l.getD k Tk.zero).id)∧r=j-i∧Fr t 49 [] [(10,vI j),(9,vI i),(8,vI (abk l)),(7,.bool false),(6,vI 0),(0,abg A l c),(1,vI id),(2,.func (.func 221) #[] #[])]∧Mem w u []) (m:=abk l-0) ⟨0,abk l,abx _,abo _,λk h=>by omega,λk h1 h2=>by omega,rfl,Z.sub kr,b.pk []⟩ ?_
 clear Z b;rintro r a E ⟨i,j,v,x,h1,h2,rfl,Z,b⟩
 refine Jb Z b ((JQ∘JP∘Jp 3∘bG∘Jj) (Ji (λg=>?_) λg=>?_))
 ·
  have s:i≤((i+j)/2)∧((i+j)/2)<j:=by omega
  refine (JT∘aD∘JB∘JP∘Jp 2∘Ja∘Jw .u64∘Jp 1∘Jo (vQ ((i+j)/2:Nat)) (by exact tC .u64 (i+j) (j:=1) (q:=2) rfl rfl)∘Jw .i64∘Jp 1∘aF∘Jr∘Jp 3) ?_
  obtain ⟨gA,y,rfl,_⟩:=hr.sat ((i+j)/2)
  refine (gZ ((i+j)/2) 8∘oQ Tk.cells qk hr fu ((i+j)/2) Tk.zero∘Jp 1) λa Z b=>?_
  refine fo Z 6 rfl rfl ?_
  refine mY Z (f:=221) (vs:=[.agg ((l.getD ((i+j)/2) Tk.zero).cells),vI id]) (fst:=[]) (caps:=[]) rfl rfl rfl kr rfl de (Ye (l.getD ((i+j)/2) Tk.zero) id _) ?_
  rintro _ z ⟨rfl,e⟩
  refine ⟨_,rfl,?_⟩
  replace b:=b.call e
  clear Z;intro a Z
  refine Jb Z b ((Jp 1∘Jo (.bool (decide ((l.getD ((i+j)/2) Tk.zero).id<id))) (by exact congrArg abS XY)∘aF∘Jj) (Ju (λd=>?_) λd=>?_))
  ·
   have n:=of_decide_eq_true d
   have p:(l.getD ((i+j)/2) Tk.zero).id<id:=by simpa using d
   refine (JT∘JR∘Jp 1∘cK 1∘Jp 1∘bG∘Jq) λa Z b=>?_
   exact ⟨_,om,(((i+j)/2)+1),j,by omega,x,zjb hs om p,h2,rfl,Z.sub kr,b.pk []⟩
  have n:=of_decide_eq_false d
  have B:¬(l.getD ((i+j)/2) Tk.zero).id<id:=by simpa using d
  refine (JF∘JR∘Jp 2∘aK∘Jq) λa Z b=>?_
  exact ⟨_,om,i,((i+j)/2),by omega,by omega,h1,zfg hs om om,rfl,Z.sub kr,b.pk []⟩
 obtain rfl:i=j:=by omega
 refine (JF∘JX∘JG∘JP∘Jp 5) (Ji (λo=>?_) λo=>?_)
 ·
  refine (Jp 3) ?_
  obtain ⟨gA,y,rfl,_⟩:=hr.sat i
  refine (gZ i 8∘oQ Tk.cells qk hr fu i Tk.zero∘Jp 1) λa Z b=>?_
  refine fo Z 11 rfl rfl ?_
  refine mY Z (f:=221) (vs:=[.agg ((l.getD i Tk.zero).cells),vI id]) (fst:=[]) (caps:=[]) rfl rfl rfl kr rfl de (Ye (l.getD i Tk.zero) id _) ?_
  rintro _ C ⟨rfl,e⟩
  refine ⟨_,rfl,?_⟩
  replace b:=b.call e
  clear Z;intro a Z
  exact Jb Z b ((Jp 1∘Jo (.bool (decide ((l.getD i Tk.zero).id=id))) (by exact congrArg abS XZ)∘Jp 3∘Jj∘JZ∘bH) λb=>q3q hs om h1 h2 b.below)
 exact (Jv 11 [(7,.bool false),(6,vI i)]∘Jj∘JZ∘bH) λb=>qtu om h1 b.below
theorem Yf (x:aC) (f:Nat) (id:Int) (hs:d9 x.ts) (w:World) (hm:w.heap[f]?=some (.cells #[vI x.ak,vQ x.aj,abg x.gA x.gs x.gc,abg x.lA x.cl x.lc,abg x.uA x.cu x.uc,abg x.tA x.ts x.tc,abg x.sA x.rs x.sc,.bool true] 273 (0,0))) (ht:Rd w w.heap.size 8 x.tA (abk x.ts) (x.ts.flatMap bI)) (g:abk x.ts≤1000000):
    Calls abl 161 #[vP f 0,vI id] w (Is w (vI (fidx x.ts id))):=by
 refine (iX Tryz.func161 20) ?_
 refine (JP∘Jp 1∘Jr∘Jp 1∘Jn∘Jf 0∘Jf 5∘Jy (v:= .slice x.tA (abk x.ts) x.tc) (h:=by exact Pd rfl rfl kr (λ_ h=>h.zu hm rfl))∘Jp 1∘JL (h:=by exact λc=>qy4 x.tA x.tc x.ts id hs _ (c.old ht) g)) ?_
 rintro c _ j ⟨⟨i,b,rfl,k,d⟩,e⟩
 refine ⟨_,rfl,_,c.call e,?_⟩
 refine (Jp 1∘Jx∘Jx∘Jp 2∘Jj∘JQ∘JP∘Jp 2∘bG∘Jj) (Ju (λa=>?_) λa=>?_)
 ·
  exact (JT∘JP∘Jp 1∘Jj∘JZ∘aZ) λc=>by exact ⟨by rw [←d,if_neg (by simpa using a)],c.below⟩
 exact (JF∘aD∘JP∘Jp 2∘aK∘Jj∘JZ∘aZ) λc=>by exact ⟨by rw [←d,if_pos (by simpa using a)],c.below⟩
def PV (x:aC) (a c g:Nat):Prop:=∀w:World,eD w x→w.heap[a]?=some (.cells #[vI x.ak,vQ x.aj,.slice x.gA (abk x.gs) x.gc,.slice x.lA (abk x.cl) x.lc,.slice x.uA (abk x.cu) x.uc,.slice x.tA (abk x.ts) x.tc,.slice x.sA (abk x.rs) x.sc,.bool true] 273 (0,0))→Calls abl 162 #[vP a 0,vI g,vI c] w (Is w (.tuple #[.agg (aJ bB (aO x.av g c)).cells,.bool (!(aO x.av g c).isEmpty)]))
def pq {x:aC} (h:iP x.av i=true):1≤(x.ts.getD i Tk.zero).id∧(x.ts.getD i Tk.zero).id≤65535:=by
 have h1:=(Dx h).2
 unfold dJ at h1
 rw [abC,decide_eq_true_eq] at h1
 exact ⟨h1.1.1,h1.1.2.1⟩
theorem qy5 {p:Nat→Prop} (h:∀i,i<k→p i) (hk:p k):∀i,i<k+1→p i:=λi hi=>by
 rcases acj i k with h1|h1
 ·exact h i h1
 ·obtain rfl:i=k:=by omega
  exact hk
def qq4 (m n:Mb) (A j:Option Addr) (c p:Nat) (w:World) (hr:Rd w w.heap.size 1 A 3 (m.nums.map bq)) (d:Rd w w.heap.size 1 j 3 (n.nums.map bq)):
    Calls abl 224 #[.slice A 3 c,.slice j 3 p] w (uR w m n):=by
 refine (iX Tryz.func224 36) ?_
 refine (JP∘Jp 1∘Jj∘JQ∘JP∘Jp 1∘Jl∘Jp 1∘Jj∘JB) λa Z b=>?_
 refine qg (λq r s=>∃(k:Nat),(k≤3)∧(∀i,i<k→m.nums.getD i 0=n.nums.getD i 0)∧q=3-k∧Fr r 36 [] [(11,vI k),(10,vI 3),(9,.slice A 3 c),(4,vI 0),(0,.slice A 3 c),(1,.slice j 3 p)]∧Mem w s []) (m:=3-0) ⟨0,by decide,λi h=>by omega,rfl,Z.sub kr,b.pk []⟩ ?_
 clear Z b;rintro q a x ⟨k,y,l,rfl,Z,b⟩
 refine Jb Z b ((JP∘Jp 1∘Jj∘JQ) (Ji (λe=>?_) λe=>?_))
 ·
  have f:k<3:=by omega
  refine (JT∘aD∘JQ∘JB∘JP∘Jp 1) ?_
  obtain ⟨gA,z,rfl,_⟩:=hr.sat k
  refine (gZ k 1∘Jy (h:=by exact aad hr k 0 (show k<3 by omega) rfl rfl)∘Jp 2∘Jj∘JQ∘JP∘Jp 2∘Jl∘Jp 1∘Jo (.bool false) (by exact congrArg abS (decide_eq_false om))∘dU∘Jj∘JF∘aD∘JP∘Jp 2) ?_
  obtain ⟨t,u,rfl,_⟩:=d.sat k
  refine (gZ k 1∘Jy (h:=by exact aad d k 0 (show k<3 by omega) rfl rfl)∘Jp 1∘gG∘Jr∘Jp 2∘JL (h:=by exact λb=>FY (m.nums.getD k 0) (n.nums.getD k 0) _)) ?_
  rintro b _ v ⟨rfl,o⟩
  refine ⟨_,rfl,_,b.call o,?_⟩
  refine (Jp 1∘dU∘Jr∘Jp 2∘Jo (.bool (decide (((m.nums.getD k 0):Int)≠((n.nums.getD k 0):Int)))) (by exact congrArg abS zfa)∘aK∘Jj) (Ji (λg=>?_) λg=>?_)
  ·
   exact (JT∘JP∘Jp 2∘aK∘Jj∘JZ∘aZ) λb=>q9f f l om b.below
  refine (JF∘aD∘JR∘cK 1∘Jp 1∘aK∘Jq) λa Z b=>?_
  exact ⟨_,om,k+1,by omega,qy5 l om,rfl,Z.sub kr,b.pk []⟩
 exact (JF∘JX∘JG∘JQ∘JP∘Jp 1∘Jl∘Jp 1∘Jl∘Jv 1 [(35,.bool false)]∘gG∘Jj∘JF∘aD∘JP∘Jp 1∘Jj∘JZ∘aZ) λb=>q9g (λi hi=>l i om) b.below
def Yg (m:Mb) (w:World):Calls abl 163 #[.agg m.cells] w (Is w (vQ (m.v:Int))):=by
 refine (dY Tryz.func163 5) ?_
 exact (JP∘JE) λb a=>(Jp 1∘Jr∘Jy (v:=vP a 0) (h:=by exact Yl.uh (ad:=⟨a,0,none⟩) (m:=3) (y:=0) (sz:=1) rfl rfl rfl kr de)∘Jc O0∘Jp 1∘bG∘Jj∘JZ) tH
def zfh (W w:World) (gs c:Nat) (o:Bool) (m n:Mb) (fs:List Fact) (b:Mem W w (.blk gs #[.bool o] 4:: .blk c n.cells 283::fs)):
    Calls abl 223 ([.agg m.cells,vP gs 0,vP c 0]:List Value).toArray w λr p=>r= .returned (.tuple #[])∧Mem W p (.blk gs #[.bool true] 4:: .blk c (if m.lt n then m else n).cells 283::fs):=by
 refine qI Tryz.func223 [.agg m.cells,vP gs 0,vP c 0] [(0,.agg m.cells),(1,vP gs 0),(2,vP c 0)] λa Z=>?_
 refine Jb Z b ((JP∘JE) λt e=>(aK∘Jr∘JW fO aU) λj=>(aK∘Jj) λa Z b=>?_)
 refine wp_seq ?_
 refine Jb Z b ((Vs .n []) λq=>(Vy 0 (v:=vS e 3 3) (h:=by exact aaI (n:=3) (sz:=1) rfl rfl kr)∘Vy 1 (v:=vS c 3 3) (h:=by exact aaI (n:=3) (sz:=1) rfl rfl kr)) λa Z b k=>?_)
 refine s_on Z 2 rfl ?_
 refine kQ Z [vS e 3 3,vS c 3 3] rfl rfl (qq4 m n (some ⟨e,0,none⟩) (some ⟨c,0,none⟩) 3 3 _ (b.aW (i:=0) (n:=3) (size:=1) rfl rfl) (b.aW (i:=2) (n:=3) (size:=1) rfl rfl)) ?_
 rintro _ u ⟨⟨s,rfl,f⟩,g⟩
 refine ⟨_,rfl,?_⟩
 replace b:=b.call g
 clear Z;intro a Z
 refine ay (b.pt 3 [0,1,2]) (λk=>?_)
 refine Vb Z b k ((Vq [3] [(7,.bool (decide ((s:Int)<(0:Int))))]∘Vo (.bool (m.lt n)) (by exact congrArg abS f)∘Vd∘dU) (Ju (λd=>?_) λd=>?_))
 ·
  refine (JT∘JR∘eF sM O0∘JV sM iO (h1:=by exact BG m)) λl=>(mZ∘Jq) λa Z b=>?_
  refine gQ rfl Z ⟨rfl,?_⟩
  rw [if_pos d]
  exact b.pt 3 [1,2]
 refine (JF∘JS) λa Z b=>?_
 refine gQ rfl Z ⟨rfl,?_⟩
 rw [if_neg (by rw [d];decide)]
 exact b.pt 3 [1,2]
def Yh (W w:World) (gs a:Nat) (b:Bool) (m:Mb) (q:List Mb) (fs:List Fact) (c:Mem W w (.blk gs #[.bool b] 4:: .blk a (aJ bB q).cells 283::fs)):
  Calls abl 223 ([.agg m.cells,vP gs 0,vP a 0]:List Value).toArray w λr d=>r= .returned (.tuple #[])∧Mem W d (.blk gs #[.bool (!(q++[m]).isEmpty)] 4:: .blk a (aJ bB (q++[m])).cells 283::fs):=by
 have h1:=zfh W w gs a b m _ fs c
 rw [←qy0] at h1
 rw [show (!(q++[m]).isEmpty)=true from by simp]
 exact h1
def qy6 (x:aC) (N:x.av.Ok) (hf:bP x) (D:ShAt x) (O c:Nat) (hc:(c:Int)<x.ak) (g:Nat) (hg:g<abk x.rs) (ih:∀h,g<h→h<abk x.rs→PV x O c h):PV x O c g:=by
 intro w G hm
 have hfs:=hf.s;have hft:=hf.t;have hfg:=hf.g;have hrl:=D.rs;have hto:=N.ts
 obtain ⟨hc1,hc2,_,_⟩:=lW D.cfg
 refine (wU Tryz.func162 102) ?_
 refine (JP∘JA #[vQ 0,vQ 0,vQ 0]) λw6 M=>(Jp 1∘Jr∘Jy (v:= .agg #[vQ 18446744073709551615,vQ 18446744073709551615,vQ 18446744073709551615]) (h:=by exact aaq (n:=3) (sz:=1) (vs:=[(0,vQ 18446744073709551615),(1,vQ 18446744073709551615),(2,vQ 18446744073709551615)]) rfl rfl kr kr)∘JA #[vQ 0,vQ 0,vQ 0]) λw8 j=>(JA #[.bool false]) λw9 k=>(JV sM fO) λOT=>(JW aU aU) λPW=>(Jr∘Jy (h:=by exact Yl.makeFunc (fst:=[]) (caps:=[vP k 0,vP j 0]) rfl rfl rfl)∘Jp 1∘aK∘Jq∘JC (h:=by exact λb=>b.FH (i:=1) (ds:=(aJ bB []).cells) rfl rfl)∘JG∘JQ∘JP∘Jp 1∘Jn∘Jf 0∘Jf 5∘Jy (v:= .slice x.tA (abk x.ts) x.tc) (h:=by exact Pd rfl rfl kr (λ_ h=>h.zu hm rfl))∘Jl∘Jp 1∘Jj∘JB) λa Z b=>?_
 refine qg (λP Q R=>∃(i:Nat) (q:List Mb),(i≤abk x.ts)∧(q=(x.ts.take i).filterMap (uN · g c))∧P=abk x.ts-i∧Fr Q 102 [] [(24,vI i),(23,vI (abk x.ts)),(22,abg x.tA x.ts x.tc),(10,.func (.func 223) #[] #[vP k 0,vP j 0]),(9,vP k 0),(8,vP j 0),(7,.bool false),(6,vP M 0),(0,vP O 0),(1,vI g),(2,vI c)]∧Mem w R [.blk k #[.bool (!q.isEmpty)] 4,.blk j ((aJ bB q).cells) 283,.blk M #[vQ 0,vQ 0,vQ 0] 283]) (m:=abk x.ts-0) ⟨0,[],abx _,rfl,rfl,Z.sub kr,b.pk [0,1,2]⟩ ?_
 clear Z b;rintro P a w_ ⟨i,q,hi,E,rfl,Z,b⟩
 refine Jb Z b ((JP∘Jp 1∘Jj∘JQ) (Ji (λS=>?_) λS=>?_))
 ·
  have o:i<abk x.ts:=by omega
  obtain ⟨t,ht⟩:∃z,(x.ts.getD i Tk.zero)=z:=⟨_,rfl⟩
  have T:=pq (D.tk i o)
  rw [ht] at T
  refine (JT∘aD∘JQ∘JB∘JP) ?_
  obtain ⟨U,V,F,_⟩:=Rd.sat G.t i
  have H:=G.t;rw [F] at H
  refine (Jk 22 (.slice (some ⟨U,V,none⟩) (abk x.ts) x.tc) (h:=by rw [F];try rfl)∘gZ i 8∘oQ Tk.cells qk H fu i Tk.zero (hk:=o)∘Jo (.agg t.cells) (by rw [ht])∘JA #[vI 0,vI 0,vI 0,vI 0,vQ 0,.bool false,vQ 0,vW 0]) λDz W=>(JV fu aU (h1:=by exact FB t)) λFZ=>(bG∘Jj) λa Z b=>?_
  refine zb (λQ R=>Fr Q 102 [] [(41,.bool (t.here g c)),(12,vP W 0),(22,abg (some ⟨U,V,none⟩) x.ts x.tc),(25,.bool true),(24,vI i),(23,vI (abk x.ts)),(10,.func (.func 223) #[] #[vP k 0,vP j 0]),(9,vP k 0),(8,vP j 0),(7,.bool false),(6,vP M 0),(0,vP O 0),(1,vI g),(2,vI c)]∧Mem w R [.blk W t.cells 232,.blk k #[.bool (!q.isEmpty)] 4,.blk j ((aJ bB q).cells) 283,.blk M #[vQ 0,vQ 0,vQ 0] 283]) ?_ ?_
  ·
   refine zx ?_
   refine Jb Z b ((Jg 5 O0∘Jp 1) (Ju (λp=>?_) λp=>?_))
   ·
    refine (Jg 1 O0∘Jp 4) (Je (λX=>?_) λX=>?_)
    ·
     refine (Jg 3 O0∘Jp 3∘aF∘Jq) λa Z b=>?_
     have Z:=Z.sp 41 (.bool (t.here g c)) rfl (congrArg abS (by unfold Tk.here;rw [p,decide_eq_true om,acF,acF,acg,beq_iff_eq,decide_eq_true_eq]))
     exact ⟨Z.sub kr,b.pk [0,1,2,3]⟩
    refine (Jp 5∘aF∘Jq) λa Z b=>?_
    have Z:=Z.sp 41 (.bool (t.here g c)) rfl (congrArg abS (by unfold Tk.here;rw [p,decide_eq_false om];rfl))
    exact ⟨Z.sub kr,b.pk [0,1,2,3]⟩
   refine (Jv 11 [(41,.bool false)]∘bG∘Jq) λa Z b=>?_
   have Z:=Z.sp 41 (.bool (t.here g c)) rfl (congrArg abS (by unfold Tk.here;rw [p];rfl))
   exact ⟨Z.sub kr,b.pk [0,1,2,3]⟩
  clear Z b;rintro a w6 ⟨Z,b⟩
  refine Jb Z b (Ju (λB=>?_) λB=>?_)
  ·
   have r:q++[(⟨t.v,0,t.id.toNat⟩:Mb)]=(x.ts.take (i+1)).filterMap (uN · g c):=by rw [Pw Tk.zero o,←E,ht,uN,if_pos B];rfl
   refine (JT∘JR∘Jp 1∘Jg 6 O0∘Jg 0 O0∘Jv 1 [(47,vQ (IntKind.u64.wrap t.id))]∘Jo (vQ t.id.toNat) (by exact wO om om)∘Jy (v:= .agg #[vQ t.v,vQ 0,vQ t.id.toNat]) (h:=by exact aaq (n:=3) (sz:=1) (vs:=[(0,vQ t.v),(1,vQ 0),(2,vQ t.id.toNat)]) rfl rfl kr kr)) λa Z b=>?_
   refine fo Z 7 rfl rfl ?_
   refine mY Z (f:=223) (vs:=[.agg #[vQ t.v,vQ 0,vQ t.id.toNat]]) (fst:=[]) (caps:=[vP k 0,vP j 0]) rfl rfl rfl kr rfl de (Yh w _ k j _ (⟨t.v,0,t.id.toNat⟩:Mb) q _ (b.pk [1,2,0,3])) ?_
   rintro _ BO ⟨rfl,L⟩
   refine ⟨_,rfl,?_⟩
   replace b:=L
   clear Z;intro a Z
   refine Jb Z b ((iA∘Jj∘JR∘cK 1∘Jp 1∘aK∘Jq) λa Z b=>?_)
   replace Z:=Z.sp 22 (abg x.tA x.ts x.tc) rfl (by rw [F])
   exact ⟨_,om,i+1,(q++[(⟨t.v,0,t.id.toNat⟩:Mb)]),by omega,r,rfl,Z.sub kr,b.pk [0,1,3]⟩
  have r:q=(x.ts.take (i+1)).filterMap (uN · g c):=by rw [Pw Tk.zero o,←E,ht,uN,if_neg (by rw [B];decide)];simp
  refine (JF∘aD∘JR∘cK 1∘Jp 1∘aK∘Jq) λa Z b=>?_
  replace Z:=Z.sp 22 (abg x.tA x.ts x.tc) rfl (by rw [F])
  exact ⟨_,om,i+1,q,by omega,r,rfl,Z.sub kr,b.pk [1,2,3]⟩
 rw [abI (by omega:abk x.ts≤i)] at E
 refine (JF∘JX∘JG∘JQ∘JP∘Jp 1∘cK 1∘Jp 1∘bG∘Jj∘JB) λa Z b=>?_
 refine qg (λP Q R=>∃(u:Nat) (q:List Mb),(g+1≤u)∧(u≤abk x.rs)∧(q=x.ts.filterMap (uN · g c)++((((ac4 (abk x.rs)).drop (g+1)).take (u- (g+1))).filterMap (kS x.av c (λu=>aO x.av u c) g)))∧P=abk x.rs-u∧Fr Q 102 [] [(13,vI u),(25,.bool false),(24,vI i),(23,vI (abk x.ts)),(22,abg x.tA x.ts x.tc),(10,.func (.func 223) #[] #[vP k 0,vP j 0]),(9,vP k 0),(8,vP j 0),(7,.bool false),(6,vP M 0),(0,vP O 0),(1,vI g),(2,vI c)]∧Mem w R [.blk k #[.bool (!q.isEmpty)] 4,.blk j ((aJ bB q).cells) 283,.blk M #[vQ 0,vQ 0,vQ 0] 283]) (m:=abk x.rs- (g+1)) ⟨g+1,q,abo _,by omega,by rw [E];simp,rfl,Z.sub kr,b.pk [0,1,2]⟩ ?_
 clear Z b;rintro P a w_ ⟨u,q,hgh,hh,E,rfl,Z,b⟩
 refine Jb Z b ((JQ∘JP∘Jp 2∘Jn∘Jf 0∘Jf 6∘Jy (v:= .slice x.sA (abk x.rs) x.sc) (h:=by exact Pd rfl rfl kr (λ_ h=>h.zu hm rfl))∘Jl∘Jp 1∘aF∘Jj) (Ji (λY=>?_) λY=>?_))
 ·
  have d:u<abk x.rs:=by omega
  have e:=q9h (f:=kS x.av c (λu=>aO x.av u c) g) hgh d
  refine (JT∘aD∘JQ∘JB∘JQ∘JP∘Jp 1∘Jn∘Jf 0∘Jf 0∘Jf 2∘Jy (v:= .slice x.gA (abk x.gs) x.gc) (h:=by exact Pd rfl rfl kr (λ_ h=>h.zu hm rfl))∘Jp 1) ?_
  obtain ⟨gq2,oq2,r,_⟩:=Rd.sat G.g u
  have I:=G.g;rw [r] at I
  refine (Jk 68 (.slice (some ⟨gq2,oq2,none⟩) (abk x.gs) x.gc) (h:=by rw [r];try rfl)∘gZ u 2∘Jf 0∘Dl pY I u Gr.zero∘Jp 2∘gG∘Jj) (Jh (λPX=>?_) λPX=>?_)
  ·
   rw [q3r om] at e
   refine (JT∘JX∘JG∘JR∘Jp 1∘cK 1∘Jp 1∘bG∘Jq) λa Z b=>?_
   exact ⟨_,om,u+1,q,by omega,by omega,by rw [e,E];simp,rfl,Z.sub kr,b.pk [0,1,2]⟩
  refine (JF∘aD∘JP∘Jp 3∘JL (h:=by exact λb=>ih u om om _ (G.old b) (b.kR hm))) ?_
  rintro b _ Yi ⟨rfl,hbw⟩
  refine ⟨_,rfl,_,b.call hbw,?_⟩
  refine (Jp 1∘Jx∘Jx∘JA #[vQ 0,vQ 0,vQ 0]) λPY g14=>(JV sM aU (h1:=by exact BG (aJ bB (aO x.av u c)))) λF3=>(Jp 1∘aF∘Jr∘Jp 1∘Jj) (Ju (λC=>?_) λC=>?_)
  ·
   obtain ⟨y,hy⟩:∃z,x.rs.getD u Rw.zero=z:=⟨_,rfl⟩
   have p9:Rd w w.heap.size 3 y.A (abk y.l) (y.l.flatMap iT):=by rw [←hy];exact G.row d
   have hyl:(abk y.l:Int)=x.ak:=by rw [←hy];exact (BF d (D.row u d)).1
   have mP:∀z∈y.l,z.Ok:=by rw [←hy,←jT d];exact N.sp _ (qe [] (by rw [kU];exact d))
   have hzv:=(mP _ (qe Sp.zero (show c<abk y.l by omega))).v
   rw [q9i d om (by simpa using C),hy] at e
   refine (JT∘JR∘Jp 2∘Jn∘Jf 0∘Jf 6∘Jy (v:= .slice x.sA (abk x.rs) x.sc) (h:=by exact Pd rfl rfl kr (λ_ h=>h.zu hm rfl))∘Jp 1) ?_
   obtain ⟨BM,BN,hq3,_⟩:=Rd.sat G.s u
   have J:=G.s;rw [hq3] at J
   refine (Jk 88 (.slice (some ⟨BM,BN,none⟩) (abk x.rs) x.sc) (h:=by rw [hq3];try rfl)∘gZ u 1∘Jy (v:= .slice ((x.rs.getD u Rw.zero).A) ((x.rs.getD u Rw.zero).l.length) ((x.rs.getD u Rw.zero).c)) (h:=by exact aad J u Rw.zero om rfl rfl)∘Jo (.slice y.A (abk y.l) y.c) (by rw [hy])∘Jp 1) ?_
   obtain ⟨zU,zV,hq4,_⟩:=Rd.sat p9 c
   have K:=p9;rw [hq4] at K
   refine (Jk 91 (.slice (some ⟨zU,zV,none⟩) (abk y.l) y.c) (h:=by rw [hq4];try rfl)∘gZ c 3∘Jf 0∘Dl Bz K c Sp.zero∘Jp 1∘Jw .u64∘Jy (v:= .agg #[vQ ((y.l.getD c Sp.zero).v),vQ 1,vQ u]) (h:=by exact aaq (n:=3) (sz:=1) (vs:=[(0,vQ ((y.l.getD c Sp.zero).v)),(1,vQ 1),(2,vQ u)]) rfl rfl kr kr)) λa Z b=>?_
   refine fo Z 16 rfl rfl ?_
   refine mY Z (f:=223) (vs:=[.agg #[vQ ((y.l.getD c Sp.zero).v),vQ 1,vQ u]]) (fst:=[]) (caps:=[vP k 0,vP j 0]) rfl rfl rfl kr rfl de (Yh w _ k j _ (⟨(y.l.getD c Sp.zero).v,1,u⟩:Mb) q _ (b.pk [1,2,0,3])) ?_
   rintro _ w99 ⟨rfl,L⟩
   refine ⟨_,rfl,?_⟩
   replace b:=L
   clear Z;intro a Z
   refine Jb Z b ((iA∘Jj∘JR∘Jp 1∘cK 1∘Jp 1∘aF∘Jq) λa Z b=>?_)
   exact ⟨_,om,u+1,(q++[(⟨(y.l.getD c Sp.zero).v,1,u⟩:Mb)]),by omega,by omega,by rw [e,E,abz];rfl,rfl,Z.sub kr,b.pk [0,1,3]⟩
  rw [q3s (by simpa using C)] at e
  refine (JF∘aD∘JR∘Jp 1∘cK 1∘Jp 1∘bG∘Jq) λa Z b=>?_
  exact ⟨_,om,u+1,q,by omega,by omega,by rw [e,E];simp,rfl,Z.sub kr,b.pk [1,2,3]⟩
 have hqm:q=aO x.av g c:=by rw [E,K3,kU,show u=abk x.rs by omega,zfb];rfl
 refine (JF∘JX) λa Z b=>?_
 refine wp_seq ?_
 refine Jb Z b ((Vs (.t (.t (.f .n))) []) λF4=>(qL 0 sM O1∘Vc 1 O0) λa Z b HS=>?_)
 refine s_on Z 2 rfl (cZ Z b 2 rfl rfl rfl rfl rfl sM rfl rfl (BG (aJ bB q)) λYj b=>?_)
 refine ay (b.pk [0,1]) (λHS=>?_)
 refine Vb Z b HS ((Vp [3]∘Vd∘bG∘JZ) λa Z b=>?_)
 exact eG rfl Z (.cellS (i:=2) Z b rfl rfl sM rfl) (.tmp Z rfl) (⟨by rw [←hqm],b.below⟩)
theorem Lc (x:aC) (a:x.av.Ok) (e:bP x) (b:ShAt x) (d c:Nat) (hc:(c:Int)<x.ak):∀(n g:Nat),abk x.rs-g≤n→g<abk x.rs→PV x d c g:=by
 intro n
 induction n with
 |zero=>intro g h1 h2;omega
 |succ n f=>intro g h1 h2;exact qy6 x a e b d c hc g h2 λh h3 h4=>f h om h4
theorem YA {l:List Tk} {id:Int} (h:fidx l id<0):fQ l id=none:=by
 rcases Pt l id with h1|⟨i,h1,_⟩
 ·exact h1.2
 ·omega
theorem YB {l:List Tk} {id:Int} (h:¬fidx l id<0):∃i:Nat,fidx l id=i∧fQ l id=some i∧i<abk l∧(l.getD i Tk.zero).id=id:=by
 rcases Pt l id with h1|h1
 ·omega
 ·exact h1
def qty (x:aC) (S:x.av.Ok) (H:bP x) (w:World) (D:eD w x):
    Calls abl 105 #[.agg x.cells] w (Is w (.bool (kD x.av))):=by
 have aiA:=H.s;have hft:=H.t;have hfg:=H.g;have hfl:=H.l;have hfu:=H.u
 refine (dY Tryz.func105 81) ?_
 refine (JP∘JE) λw1 I=>(Jp 1∘Jj∘JQ∘JP∘eF fU O0∘JI (h:=by exact λb=>qy3 x S H _ (D.old b))) λDz E=>(Jp 1∘bG∘Jj) (Ju (λj=>?_) λj=>?_)
 ·
  exact (JT∘JP∘Jp 1∘Jj∘JZ∘aZ) λb=>bR (FI (by simpa using j)).symm b.below
 have T:nk x.av=true:=by simpa using j
 have k:=uQ T
 have hs:=X0 k
 obtain ⟨hc1,hc2,_,_⟩:=lW k.cfg
 have oh:=k.cu
 refine (JF∘aD∘JP∘eF fU O0∘eH #[vI x.ak,vQ x.aj,abg x.gA x.gs x.gc,abg x.lA x.cl x.lc,abg x.uA x.cu x.uc,abg x.tA x.ts x.tc,abg x.sA x.rs x.sc,.bool true]∘JE) λw16 e=>(Jp 1∘dU∘Jj∘JQ∘JP∘Jg 4 O1∘Jl∘Jp 1∘Jj∘JB) λa Z b=>?_
 refine qg (λU N O=>∃(c:Nat),(c≤abk x.cu)∧(fE c λc=>dV x.av c&&gN (abk x.rs) λg=>kF x.av g c)∧U=abk x.cu-c∧Fr N 81 [] [(20,vI c),(19,vI (abk x.cu)),(18,abg x.uA x.cu x.uc),(3,vP e 0),(13,.bool false),(2,.bool false),(1,vP I 0)]∧Mem w O [.blk e #[vI x.ak,vQ x.aj,abg x.gA x.gs x.gc,abg x.lA x.cl x.lc,abg x.uA x.cu x.uc,abg x.tA x.ts x.tc,abg x.sA x.rs x.sc,.bool true] 273,.blk I x.cells 48]) (m:=abk x.cu-0) ⟨0,abx _,fE.zero,rfl,Z.sub kr,b.pk [0,1]⟩ ?_
 clear Z b;rintro U a w_ ⟨c,hc,hu,rfl,Z,b⟩
 refine Jb Z b ((JP∘Jp 1∘Jj∘JQ) (Ji (λV=>?_) λV=>?_))
 ·
  have J:c<abk x.cu:=by omega
  obtain ⟨id,f⟩:∃z,(x.cu.getD c 0)=z:=⟨_,rfl⟩
  refine (JT∘aD∘JQ∘JB∘JP∘Jp 1) ?_
  obtain ⟨F,G,P,_⟩:=Rd.sat D.u c
  have K:=D.u;rw [P] at K
  refine (Jk 18 (.slice (some ⟨F,G,none⟩) (abk x.cu) x.uc) (h:=by rw [P];try rfl)∘gZ c 1∘Jy (v:=vI (x.cu.getD c 0)) (h:=by exact aad K c 0 om rfl rfl)∘Jo (vI id) (by rw [f])∘Jp 2∘Jr∘Jp 2∘JI (h:=by exact λb=>Yf x e id hs _ (b.blk (i:=0) rfl) (b.old D.t) H.t)) λGc E=>(Jp 1∘dU∘Jj∘JQ) λa Z b=>?_
  refine zb (λN O=>Fr N 81 [] [(52,.bool (!dV x.av c)),(6,vI (fidx x.ts id)),(5,vI id),(4,vI c),(18,abg (some ⟨F,G,none⟩) x.cu x.uc),(21,.bool true),(20,vI c),(19,vI (abk x.cu)),(3,vP e 0),(13,.bool false),(2,.bool false),(1,vP I 0)]∧Mem w O [.blk e #[vI x.ak,vQ x.aj,abg x.gA x.gs x.gc,abg x.lA x.cl x.lc,abg x.uA x.cu x.uc,abg x.tA x.ts x.tc,abg x.sA x.rs x.sc,.bool true] 273,.blk I x.cells 48]) ?_ ?_
  ·
   refine zx ?_
   refine Jb Z b ((Jp 3) (Jh (λW=>?_) λW=>?_))
   ·
    refine (Jp 3) (Ji (λX=>?_) λX=>?_)
    ·
     refine (Jv 19 [(52,.bool true)]∘aF∘Jq) λa Z b=>?_
     have Z:=Z.sp 52 (.bool (!dV x.av c)) rfl (congrArg abS (by rw [X5 (by rw [f];omega) (by rw [f];exact YA om)];rfl))
     exact ⟨Z.sub kr,b.pk [0,1]⟩
    obtain ⟨i,Y,hfs,hil,aiB⟩:=YB (l:=x.ts) (id:=id) om
    refine (Jg 5 O1∘Jp 1∘Jo (vI i) (by rw [Y])) ?_
    obtain ⟨BM,BN,Q,_⟩:=Rd.sat D.t i
    have o:=D.t;rw [Q] at o
    refine (Jk 35 (.slice (some ⟨BM,BN,none⟩) (abk x.ts) x.tc) (h:=by rw [Q];try rfl)∘gZ i 8∘Jf 5∘Od qk o 5 i Tk.zero∘Jp 3) (Ju (λp=>?_) λp=>?_)
    ·
     refine (Jv 10 [(52,.bool true)]∘aF∘Jq) λa Z b=>?_
     have Z:=Z.sp 52 (.bool (!dV x.av c)) rfl (congrArg abS (by rw [X4 (by rw [f];omega) (by rw [f];exact hfs),(Bool.not_eq_true' _).mp p];rfl))
     exact ⟨Z.sub kr,b.pk [0,1]⟩
    refine (Jg 5 O1∘Jp 1∘Jo (vI i) (by rw [Y])∘Jk 44 (.slice (some ⟨BM,BN,none⟩) (abk x.ts) x.tc) (h:=by rw [Q];try rfl)∘gZ i 8∘Jf 3∘Od qk o 3 i Tk.zero∘Jp 4∘aF∘Jq) λa Z b=>?_
    have Z:=Z.sp 52 (.bool (!dV x.av c)) rfl (congrArg abS (by rw [X4 (by rw [f];omega) (by rw [f];exact hfs),(Bool.not_eq_false' _).mp p,acF,bne,acg];simp))
    exact ⟨Z.sub kr,b.pk [0,1]⟩
   refine (Jv 22 [(52,.bool false)]∘dU∘Jq) λa Z b=>?_
   have Z:=Z.sp 52 (.bool (!dV x.av c)) rfl (congrArg abS (by rw [qyz (by rw [f];omega)];rfl))
   exact ⟨Z.sub kr,b.pk [0,1]⟩
  clear Z b;rintro a w8 ⟨Z,b⟩
  refine Jb Z b (Ju (λq=>?_) λq=>?_)
  ·
   exact (JT∘JP∘Jp 1∘Jj∘JZ∘aZ) λb=>bR (FJ J (by simpa using q)).symm b.below
  refine (JF∘aD∘JP∘Jg 6 O1∘Jl∘Jp 1∘Jj∘JB) λa Z b=>?_
  refine qg (λU N O=>∃(g:Nat),(g≤abk x.rs)∧(fE g λg=>kF x.av g c)∧U=abk x.rs-g∧Fr N 81 [] [(56,vI g),(55,vI (abk x.rs)),(54,abg x.sA x.rs x.sc),(52,.bool false),(6,vI (fidx x.ts id)),(5,vI id),(4,vI c),(18,abg (some ⟨F,G,none⟩) x.cu x.uc),(21,.bool true),(20,vI c),(19,vI (abk x.cu)),(3,vP e 0),(13,.bool false),(2,.bool false),(1,vP I 0)]∧Mem w O [.blk e #[vI x.ak,vQ x.aj,abg x.gA x.gs x.gc,abg x.lA x.cl x.lc,abg x.uA x.cu x.uc,abg x.tA x.ts x.tc,abg x.sA x.rs x.sc,.bool true] 273,.blk I x.cells 48]) (m:=abk x.rs-0) ⟨0,abx _,fE.zero,rfl,Z.sub kr,b.pk [0,1]⟩ ?_
  clear Z b;rintro U a w_ ⟨g,hg,hu2,rfl,Z,b⟩
  refine Jb Z b ((JP∘Jp 1∘Jj∘JQ) (Ji (λBK=>?_) λBK=>?_))
  ·
   have d:g<abk x.rs:=by omega
   obtain ⟨y,hy⟩:∃z,x.rs.getD g Rw.zero=z:=⟨_,rfl⟩
   have p9:Rd w w.heap.size 3 y.A (abk y.l) (y.l.flatMap iT):=by rw [←hy];exact D.row d
   have hyl:(abk y.l:Int)=x.ak:=by rw [←hy];exact (BF d (k.row g d)).1
   refine (JT∘aD∘JQ∘JB∘JP∘Jp 1) ?_
   obtain ⟨zU,zV,R,_⟩:=Rd.sat D.s g
   have L:=D.s;rw [R] at L
   refine (Jk 54 (.slice (some ⟨zU,zV,none⟩) (abk x.rs) x.sc) (h:=by rw [R];try rfl)∘gZ g 1∘Jy (v:= .slice ((x.rs.getD g Rw.zero).A) ((x.rs.getD g Rw.zero).l.length) ((x.rs.getD g Rw.zero).c)) (h:=by exact aad L g Rw.zero d rfl rfl)∘Jo (.slice y.A (abk y.l) y.c) (by rw [hy])∘Jp 2∘Jr∘Jp 3∘JL (h:=by exact λb=>Lc x S H k e c om _ g (abo _) d _ (D.old b) (b.blk (i:=0) rfl))) ?_
   rintro b _ w65 ⟨rfl,E⟩
   refine ⟨_,rfl,_,b.call E,?_⟩
   refine (Jp 1∘Jx∘Jx∘JA #[vQ 0,vQ 0,vQ 0]) λw9 g9=>(JV sM aU (h1:=by exact BG (aJ bB (aO x.av g c)))) λF3=>(Jp 1∘Jj) λa Z b=>?_
   refine zb (λN O=>Fr N 81 [] [(78,.bool (!kF x.av g c)),(10,.bool (!(aO x.av g c).isEmpty)),(9,vP g9 0),(8,abg y.A y.l y.c),(7,vI g),(54,abg (some ⟨zU,zV,none⟩) x.rs x.sc),(57,.bool true),(56,vI g),(55,vI (abk x.rs)),(52,.bool false),(6,vI (fidx x.ts id)),(5,vI id),(4,vI c),(18,abg (some ⟨F,G,none⟩) x.cu x.uc),(21,.bool true),(20,vI c),(19,vI (abk x.cu)),(3,vP e 0),(13,.bool false),(2,.bool false),(1,vP I 0)]∧Mem w O [.blk g9 ((aJ bB (aO x.av g c)).cells) 283,.blk e #[vI x.ak,vQ x.aj,abg x.gA x.gs x.gc,abg x.lA x.cl x.lc,abg x.uA x.cu x.uc,abg x.tA x.ts x.tc,abg x.sA x.rs x.sc,.bool true] 273,.blk I x.cells 48]) ?_ ?_
   ·
    refine Jb Z b ((Vs .n []) λBR=>(Vp [0,1]) λa Z b HS=>?_)
    rcases Z.tf 69 rfl with ⟨r,Z⟩|⟨r,Z⟩
    ·
     refine Vb Z b HS ((Vp [4,5]∘qL 2 sM O0) ?_)
     obtain ⟨Qc,Qd,M,_⟩:=Rd.sat p9 c
     have B:=p9;rw [M] at B
     intro a Z b HS
     replace Z:=Z.sp 72 (abg (some ⟨Qc,Qd,none⟩) y.l y.c) rfl (by rw [M];try rfl)
     refine Vb Z b HS ((zI 6 c 3∘Vf 7 2∘EU 8 Bz B 2 c Sp.zero∘VI 3 .n (h:=by exact λb=>Yg (aJ bB (aO x.av g c)) _)) λw71 E=>(Vp [9,10]∘Vd∘lT) λa Z b=>?_)
     have Z:=Z.sp 78 (.bool (!kF x.av g c)) rfl (congrArg abS (by rw [zi9 (by simpa using r),Px d,hy,←decide_not];exact decide_eq_decide.2 om))
     exact ⟨Z.sub kr,b.pk [0,1,2]⟩
    refine ap Z (λ_=>HS) [2,3,4,5,6,7,8,9,10] (bt 11 []) [(78,.bool false)] λa Z=>?_
    refine qd kr ?_
    have Z:=Z.sp 78 (.bool (!kF x.av g c)) rfl (congrArg abS (by rw [zfc (by simpa using r)];rfl))
    exact ⟨Z.sub kr,b.pk [0,1,2]⟩
   clear Z b;rintro a PY ⟨Z,b⟩
   refine Jb Z b (Ju (λC=>?_) λC=>?_)
   ·
    exact (JT∘JP∘Jp 1∘Jj∘JZ∘aZ) λb=>bR (FK J d (by simpa using C)).symm b.below
   refine (JF∘aD∘JR∘cK 1∘Jp 1∘aK∘Jq) λa Z b=>?_
   replace Z:=Z.sp 54 (abg x.sA x.rs x.sc) rfl (by rw [R])
   exact ⟨_,om,g+1,by omega,hu2.succ (by simpa using C),rfl,Z.sub kr,b.pk [1,2]⟩
  refine (JF∘JX∘JG∘JR∘cK 1∘Jp 1∘aK∘Jq) λa Z b=>?_
  replace Z:=Z.sp 18 (abg x.uA x.cu x.uc) rfl (by rw [P])
  exact ⟨_,om,c+1,by omega,hu.succ (by rw [show dV x.av c=true by simpa using q,acF];exact fE.all λi hi=>hu2 i om),rfl,Z.sub kr,b.pk [0,1]⟩
 exact (JF∘JX∘JG∘JP∘Jp 1∘Jj∘JZ∘aZ) λb=>bR (FL T (λi hi=>hu i om)).symm b.below
def dW {α:Type} (k:Nat) (f:Nat→List α):List α:=(ac4 k).flatMap f
theorem q5 (k:Nat) (f:Nat→List α):dW (k+1) f=dW k f++f k:=by unfold dW;rw [List.range_succ,abO];simp
theorem BH (f:Nat→List α):dW 0 f=[]:=rfl
theorem FM {f:Nat→List α} (h:∀i,abk (f i)≤m):∀k,abk (dW k f)≤m*k
 |0=>abx _
 |k+1=>by rw [q5,abm,aeC];have:=FM h k;have:=h k;omega
theorem X6 {f:Nat→List α}:∀k,(∀i,i<k→abk (f i)≤m)→abk (dW k f)≤m*k
 |0,_=>abx _
 |k+1,h=>by rw [q5,abm,aeC];have:=X6 k (λi hi=>h i om);have:=h k om;omega
def Dy {f:Nat→List α} {p:α→Prop}:∀k,(∀i,i<k→∀x∈f i,p x)→∀x∈dW k f,p x
 |0,_=>λx a=>by cases a
 |k+1,h=>λx a=>by
  rw [q5] at a
  rcases abV.1 a with a|a
  ·exact Dy k (λi hi=>h i om) x a
  ·exact h k om x a
def aH (n:Int):Nat:=(n%18446744073709551616).toNat
theorem BI (n:Int):aH n<18446744073709551616:=by unfold aH;omega
theorem Py (n:Int):abJ .u64 (Go.IntKind.u64.wrap n)= .int .u64 ((aH n:Nat):Int):=by
 unfold aH
 rw [Int.toNat_of_nonneg (Int.emod_nonneg _ de)]
 rfl
structure cO where
 next:Int
 st:aC
def cO.cells (s:cO):Array Value:= #[.int .i64 s.next,.int .i64 s.st.ak,.int .u64 (s.st.aj:Int),.slice s.st.gA (abk s.st.gs) s.st.gc,.slice s.st.lA (abk s.st.cl) s.st.lc,.slice s.st.uA (abk s.st.cu) s.st.uc,.slice s.st.tA (abk s.st.ts) s.st.tc,.slice s.st.sA (abk s.st.rs) s.st.sc]
def K9 (x:cO):∀v∈x.cells.toList,v.oneCell'=true:=by simp [cO.cells,acf]
def tK (l:List Gr) (i:Nat):List Nat:=[aH (l.getD (i+1) Gr.zero).parent,aH (l.getD (i+1) Gr.zero).weight]
def qo (l:List Tk) (i:Nat):Int:=if i=0 then 0 else (l.getD (i-1) Tk.zero).id
def l8 (p:Int) (t:Tk):List Nat:=[aH (t.id-p),aH t.group,aH t.weight,aH t.cpu,t.mask,if t.ready then 1 else 0,t.v,t.r]
def mO (g:Nat) (z:Sp):List Nat:=(if 0<g then [z.v,z.r] else [])++[z.floor]
def nA (g:Nat) (l:List Sp):List Nat:=dW (abk l) λc=>mO g (l.getD c Sp.zero)
def aG (s:cO):Nat→List Nat
 |0=>[aH s.next]
 |1=>[aH s.st.ak,s.st.aj,abk s.st.gs]
 |2=>dW (abk s.st.gs-1) (tK s.st.gs)
 |3=>s.st.cl.map aH
 |4=>s.st.cu.map aH
 |5=>abk s.st.ts::dW (abk s.st.ts) λi=>l8 (qo s.st.ts i) (s.st.ts.getD i Tk.zero)
 |6=>dW (abk s.st.rs) λg=>nA g (s.st.rs.getD g Rw.zero).l
 |_=>[]
def qb:Nat→ByteArray
 |0=>⟨#[110,101,120,116]⟩
 |1=>⟨#[99,111,110,102,105,103]⟩
 |2=>⟨#[103,114,111,117,112,115]⟩
 |3=>⟨#[99,108,111,99,107,115]⟩
 |4=>⟨#[99,117,114,114,101,110,116]⟩
 |5=>⟨#[116,97,115,107,115]⟩
 |6=>⟨#[115,112,111,116,115]⟩
 |_=>⟨#[]⟩
def bJ (s:cO):Nat:=if s.next<1∨281474976710657<s.next then 330 else if kD s.st.av=false then 331 else 0
def dX (s:cO):List Nat:=dW 7 (aG s)
def dA (s:cO):List Nat:=[113,115,1]++(dX s).flatMap au
def dh (s:cO):List Nat:=if bJ s=0 then bA (dA s) else []
structure jo where
 nm:ByteArray
 fr:Nat
 to:Nat
def gK (x:jo):List Value:=[.string x.nm,.int .i64 (x.fr:Int),.int .i64 (x.to:Int)]
def q9j (x:jo):abk (gK x)=3:=rfl
def wZ (w:World) (R:List Nat) (r:Ending) (a:World):Prop:=
 (∃A c,r= .returned (.slice A (abk R) c)∧a.ownsRow w.heap.size 41 1 (.slice A (abk R) c) (abk R) (R.map bq)∧abk R≤c)∧Below w.heap.size w a
def zS {q:List Nat} (h:q=R) (a:W.ownsRow w.heap.size 41 1 (.slice A (abk q) c) (abk q) (q.map bq)) (hc:abk q≤c) (hb:Below w.heap.size w W):wZ w R (.returned (.slice A (abk q) c)) W:=by
 subst h
 exact ⟨⟨A,c,rfl,a,hc⟩,hb⟩
theorem uV (l:List Nat):∀u∈l.map bq,u.oneCell'=true:=by
 intro u a
 obtain ⟨x,_,rfl⟩:=acd.1 a
 rfl
theorem qod {l:List Int} (h:k<abk l):(l.take (k+1)).map aH=(l.take k).map aH++[aH (l.getD k 0)]:=by grind [abt,adX]
def nC {a b:List α} (h:abk b=n):abk a+n=abk (a++b):=by rw [abm,h]
theorem X7 (h:n<18446744073709551616):aH (n:Int)=n:=by unfold aH;omega
def zfd {l:List Gr} (h:Rd w w.heap.size 2 A (abk l) (l.flatMap eZ)) (h1:1≤abk l) (hc:abk l≤c) (a:(if c=1 then A else A.map (·.add (1*2)))=E):Rd w w.heap.size 2 E (abk (l.drop 1)) ((l.drop 1).flatMap eZ):=by
 have h2:=Rd.zk1 pY h h1 hc
 rw [a] at h2
 exact h2
theorem getD_drop (l:List α) (j k:Nat) (d:α):(l.drop j).getD k d=l.getD (k+j) d:=by
 rw [abn,acO,abn,aeB]
theorem qc1 (l:List Tk) (k:Nat):qo l (k+1)=(l.getD k Tk.zero).id:=by unfold qo;rw [if_neg om];rfl
theorem qtq (l:List Tk):qo l 0=0:=rfl
theorem Pz (h:0<g):mO g z=[z.v,z.r]++[z.floor]:=by unfold mO;rw [if_pos h]
theorem La (h:¬0<g):mO g z=[z.floor]:=by unfold mO;rw [if_neg h];rfl
theorem FN {p:Int} (h:t.ready=true):l8 p t=[aH (t.id-p),aH t.group,aH t.weight,aH t.cpu]++[t.mask,1,t.v,t.r]:=by unfold l8;rw [h];rfl
theorem FP {p:Int} (h:t.ready=false):l8 p t=[aH (t.id-p),aH t.group,aH t.weight,aH t.cpu]++[t.mask,0,t.v,t.r]:=by unfold l8;rw [h];rfl
def SL (A:Option Addr) (c:Nat) (l:List Int) (w:World) (hr:Rd w w.heap.size 1 A (abk l) (l.map aP)) (C:abk l≤1000000):
    Calls abl 277 #[abg A l c] w (wZ w (l.map aH)):=by
 refine (dY Tryz.func277 19) ?_
 refine (JP∘Jp 1∘Jr∘Jp 1∘Jq∘JC (h:=by exact λb=>b.nil 41 1)∘JG∘JQ∘JP∘Jp 1∘Jl∘Jp 1∘Jj∘JB) λa Z b=>?_
 refine qg (λt v x=>∃(k:Nat) (q:List Nat) (o:Option Addr) (co:Nat),(k≤abk l)∧(q=(l.take k).map aH)∧(abk q=k)∧(abk q≤co)∧t=abk l-k∧Fr v 19 [] [(8,vI k),(7,vI (abk l)),(6,abg A l c),(3,abg o q co),(2,vN)]∧Mem w x [abh o q co bq 41 1]) (m:=abk l-0) ⟨0,[],none,0,abx _,rfl,rfl,abo _,rfl,Z.sub kr,b.pk [0]⟩ ?_
 clear Z b;rintro t a D ⟨k,q,o,co,E,u,p,r,rfl,Z,b⟩
 refine Jb Z b ((JP∘Jp 1∘Jj∘JQ) (Ji (λs=>?_) λs=>?_))
 ·
  have f:k<abk l:=by omega
  refine (JT∘aD∘JQ∘JB∘JP) ?_
  obtain ⟨gA,F,rfl,_⟩:=hr.sat k
  refine (gZ k 1∘Jy (h:=by exact aad hr k 0 f rfl rfl)∘Jp 1∘bG∘Jj∘JR∘Jp 2∘Jv 1 [(14,vQ (IntKind.u64.wrap (l.getD k 0)))]∘Jo (vQ (aH (l.getD k 0))) (by exact Py _)∘JU kP #[vQ (aH (l.getD k 0))]) λy z=>(JD ([aH (l.getD k 0)].map bq) 1 (λ_ _=>fO) kP (hr:=by exact λb=>b.aW (i:=0) (n:=1) (size:=1) rfl rfl) (h1:=by exact uV _)) λB g j e=>(Jp 1∘lT∘Jq) ?_
  have d:abk q+1=abk (q++[aH (l.getD k 0)]):=nC rfl
  rw [d] at e
  refine (JC (h:=by exact λb=>b.aT (i:=1) (ys:=(q++[aH (l.getD k 0)]).map bq) rfl d (List.map_append.symm))∘Jk 3 (.slice g (abk (q++[aH (l.getD k 0)])) j) (h:=by exact gF d)∘JG∘JR∘cK 1∘Jp 1∘aK∘Jq) λa Z b=>?_
  exact ⟨_,om,k+1,(q++[aH (l.getD k 0)]),g,j,by omega,by rw [u,qod f],by rw [abm,p];rfl,e,rfl,Z.sub kr,b.pk [1]⟩
 exact (JF∘JX∘JG∘JP∘Jp 2∘aK∘Jj∘JZ∘aZ) λb=>zS (by rw [u,abI om]) (b.own (i:=0) rfl) r b.below
theorem H9 (A:Option Addr) (c n:Nat) (l:List Int) (R:List Nat) (w:World) (a:abk l=n) (hr:Rd w w.heap.size 1 A n (l.map aP)) (b:n≤1000000) (d:l.map aH=R):
  Calls abl 277 #[.slice A n c] w (wZ w R):=by
 subst a;subst d
 exact SL A c l w hr b
def q6l (s:cO) (d:s.st.av.Ok) (f:bP s.st) (w:World) (g:eD w s.st):
    Calls abl 230 #[.agg s.cells] w (wZ w (aG s 0)):=by
 refine (dY Tryz.func230 7) ?_
 refine (JP∘JE) λj k=>(Jp 1∘Jr∘Jg 0 O0∘JU zy #[vI s.next]) λl e=>(JK (h:=by exact λa=>H9 (some ⟨e,0,none⟩) 1 1 [s.next] [aH s.next] _ rfl (a.aW (i:=0) (n:=1) (size:=1) rfl rfl) de rfl)) λm o p b=>?_
 have c: [aH s.next].length=1:=rfl
 exact (Jp 1∘dU∘Jj∘JZ∘aZ) λa=>zS rfl (a.own (i:=0) rfl) b a.below
def quz (s:cO) (c:s.st.av.Ok) (d:bP s.st) (w:World) (k:eD w s.st):
    Calls abl 231 #[.agg s.cells] w (wZ w (aG s 1)):=by
 have e:=d.g
 refine (dY Tryz.func231 17) ?_
 exact (JP∘JE) λl m=>(Jp 1∘Jr∘Jf 1∘Jf 0∘Jy (v:= .agg #[vI s.st.ak,vQ s.st.aj,abg s.st.gA s.st.gs s.st.gc]) (h:=by exact Pe rfl rfl xX rfl (λ_ h=>h.sub (i:=0) rfl 1 rfl))∘JA #[vI 0,vQ 0,vN]) λo p=>(JV xX aU) λb=>(dU∘Jr∘Jg 0 O0∘Jv 1 [(9,vQ (IntKind.u64.wrap s.st.ak))]∘Jo (vQ (aH s.st.ak)) (by exact Py _)∘Jg 1 O0∘Jg 2 O0∘Jl∘Jw .u64∘JU kP #[vQ (aH s.st.ak),vQ s.st.aj,vQ (abk s.st.gs)]) λf j=>(Jp 1∘aF∘Jq∘JC (h:=by exact λa=>(a.eB (i:=0) (n:=3) (size:=1) rfl rfl de).bM (i:=0) (ys:=[aH s.st.ak,s.st.aj,abk s.st.gs].map bq) rfl (rfl))∘JG∘JZ∘aZ) λa=>zS (q:=[aH s.st.ak,s.st.aj,abk s.st.gs]) rfl (a.own (i:=0) rfl) (abo 3) a.below
def qu0 (s:cO) (c:s.st.av.Ok) (d:bP s.st) (w:World) (e:eD w s.st):
    Calls abl 233 #[.agg s.cells] w (wZ w (aG s 3)):=by
 refine (dY Tryz.func233 7) ?_
 exact (JP∘JE) λf g=>(Jp 1∘Jr∘Jf 1∘Jg 3 O0∘JK (h:=by exact λa=>SL s.st.lA s.st.lc s.st.cl _ (a.old e.l) d.l)) λj k m b=>(Jp 1∘dU∘Jj∘JZ∘aZ) λa=>zS rfl (a.own (i:=0) rfl) b a.below
def qr5 (s:cO) (c:s.st.av.Ok) (d:bP s.st) (w:World) (e:eD w s.st):
    Calls abl 234 #[.agg s.cells] w (wZ w (aG s 4)):=by
 refine (dY Tryz.func234 7) ?_
 exact (JP∘JE) λf g=>(Jp 1∘Jr∘Jf 1∘Jg 4 O0∘JK (h:=by exact λa=>SL s.st.uA s.st.uc s.st.cu _ (a.old e.u) d.u)) λj k l b=>(Jp 1∘dU∘Jj∘JZ∘aZ) λa=>zS rfl (a.own (i:=0) rfl) b a.below
def qu1 (s:cO) (M:s.st.av.Ok) (N:bP s.st) (w:World) (O:eD w s.st) (hc:fq s.st) (u:ShAt s.st):
    Calls abl 232 #[.agg s.cells] w (wZ w (aG s 2)):=by
 have P:=N.g;have x:=hc.g
 have y:=(qp (lW u.cfg).2.2.2).1
 obtain ⟨l,d⟩:∃z,(if s.st.gc=1 then s.st.gA else s.st.gA.map (·.add (1*2)))=z:=⟨_,rfl⟩
 have f:=zfd O.g y x d
 obtain ⟨m,hm⟩:∃z,s.st.gs.drop 1=z:=⟨_,rfl⟩
 have A:abk m=abk s.st.gs-1:=by rw [←hm,abH]
 rw [hm] at f
 refine (dY Tryz.func232 26) ?_
 refine (JP∘JE) λY Q=>(Jp 1∘Jr∘Jp 1∘Jq∘JC (h:=by exact λb=>b.nil 41 1)∘JG∘JQ∘JP∘Jf 1∘Jf 0∘Jg 2 O1∘Jy (v:= .slice (if s.st.gc=1 then s.st.gA else (s.st.gA:Option Addr).map (·.add (1*2))) (abk s.st.gs-1) (s.st.gc-1)) (h:=by exact aag iQ (j:=1) rfl rfl rfl om)∘Jo (.slice l (abk m) (s.st.gc-1)) (by rw [d,A])∘Jl∘Jp 1∘Jj∘JB) λa Z b=>?_
 refine qg (λG R S=>∃(k:Nat) (q:List Nat) (B:Option Addr) (co:Nat),(k≤abk m)∧(q=dW k (tK s.st.gs))∧(abk q=2*k)∧(abk q≤co)∧G=abk m-k∧Fr R 26 [] [(12,vI k),(11,vI (abk m)),(10,abg l m (s.st.gc-1)),(3,abg B q co),(2,vN)]∧Mem w S [abh B q co bq 41 1,.blk Q s.cells 50]) (m:=abk m-0) ⟨0,[],none,0,abx _,rfl,rfl,abo _,rfl,Z.sub kr,b.pk [0,1]⟩ ?_
 clear Z b;rintro G a w_ ⟨k,q,B,co,hk,H,C,D,rfl,Z,b⟩
 refine Jb Z b ((JP∘Jp 1∘Jj∘JQ) (Ji (λo=>?_) λo=>?_))
 ·
  have p:k<abk m:=by omega
  refine (JT∘aD∘JQ∘JB∘JP) ?_
  obtain ⟨I,J,rfl,_⟩:=f.sat k
  refine (gZ k 2∘oQ Gr.cells pY f lC k Gr.zero (hk:=p)∘JA #[vI 0,vI 0]) λw5 g5=>(JV lC aU (h1:=by exact XK (m.getD k Gr.zero))) λK=>(bG∘Jj∘JR∘Jp 1∘Jg 0 O0∘Jg 1 O0∘JU zy #[vI ((m.getD k Gr.zero).parent),vI ((m.getD k Gr.zero).weight)]) λT E=>(JK (h:=by exact λb=>H9 (some ⟨E,0,none⟩) 2 2 [(m.getD k Gr.zero).parent,(m.getD k Gr.zero).weight] [aH (m.getD k Gr.zero).parent,aH (m.getD k Gr.zero).weight] _ rfl (b.aW (i:=0) (n:=2) (size:=1) rfl rfl) de rfl)) λU V W L=>?_
  have F: [aH (m.getD k Gr.zero).parent,aH (m.getD k Gr.zero).weight].length=2:=rfl
  refine (JD ([aH (m.getD k Gr.zero).parent,aH (m.getD k Gr.zero).weight].map bq) 3 (λ_ _=>qJ) kP (hr:=by exact λb=>b.rd (i:=0) rfl) (h1:=by exact uV _)) λX r t e=>(Jp 1∘aF∘Jq) ?_
  have c:abk q+([aH (m.getD k Gr.zero).parent,aH (m.getD k Gr.zero).weight].length)=abk (q++[aH (m.getD k Gr.zero).parent,aH (m.getD k Gr.zero).weight]):=nC rfl
  rw [c] at e
  refine (JC (h:=by exact λb=>b.aT (i:=3) (ys:=(q++[aH (m.getD k Gr.zero).parent,aH (m.getD k Gr.zero).weight]).map bq) rfl c (List.map_append.symm))∘Jk 3 (.slice r (abk (q++[aH (m.getD k Gr.zero).parent,aH (m.getD k Gr.zero).weight])) t) (h:=by exact gF c)∘JG∘JR∘cK 1∘Jp 1∘aK∘Jq) λa Z b=>?_
  exact ⟨_,om,k+1,(q++[aH (m.getD k Gr.zero).parent,aH (m.getD k Gr.zero).weight]),r,t,by omega,by rw [H,q5,←hm,getD_drop];rfl,by rw [abm,C];rfl,e,rfl,Z.sub kr,b.pk [3,4]⟩
 exact (JF∘JX∘JG∘JP∘Jp 2∘aK∘Jj∘JZ∘aZ) λb=>zS (by rw [H,show k=abk s.st.gs-1 by omega];try rfl) (b.own (i:=0) rfl) D b.below
def q0i (s:cO) (L:s.st.av.Ok) (hf:bP s.st) (w:World) (hx:eD w s.st) (hc:fq s.st) (M:ShAt s.st):
    Calls abl 235 #[.agg s.cells] w (wZ w (aG s 5)):=by
 have htl:=hf.t
 refine (dY Tryz.func235 53) ?_
 refine (JP∘JE) λw1 g1=>(Jp 1∘Jr∘Jf 1∘Jg 5 O0∘Jl∘JU zy #[vI (abk s.st.ts)]) λDz F=>(JK (h:=by exact λb=>H9 (some ⟨F,0,none⟩) 1 1 [(abk s.st.ts:Int)] [aH (abk s.st.ts:Int)] _ rfl (b.aW (i:=0) (n:=1) (size:=1) rfl rfl) de rfl)) λG H uJ x=>?_
 have N: [aH (abk s.st.ts:Int)].length=1:=rfl
 refine (Jp 1∘lT∘Jq) ?_
 have f: [aH (abk s.st.ts:Int)].length=[abk s.st.ts].length:=rfl
 rw [f] at x
 refine (JC (h:=by exact λb=>b.aT (i:=0) (ys:=[abk s.st.ts].map bq) rfl f (by rw [X7 om]))∘Jk 3 (.slice G ([abk s.st.ts].length) H) (h:=by exact gF f)∘JG∘JP∘Jp 1∘Jj∘JQ∘JP∘Jf 1∘Jg 5 O2∘Jl∘Jp 1∘Jj∘JB) λa Z b=>?_
 refine qg (λmS aS wS=>∃(k:Nat) (q:List Nat) (O:Option Addr) (co:Nat),(k≤abk s.st.ts)∧(0≤qo s.st.ts k∧qo s.st.ts k≤65535)∧(q=[abk s.st.ts]++dW k λi=>l8 (qo s.st.ts i) (s.st.ts.getD i Tk.zero))∧(abk q=8*k+1)∧(abk q≤co)∧mS=abk s.st.ts-k∧Fr aS 53 [] [(18,vI k),(17,vI (abk s.st.ts)),(16,abg s.st.tA s.st.ts s.st.tc),(4,vI (qo s.st.ts k)),(3,abg O q co),(2,vN),(1,vP g1 0)]∧Mem w wS [abh O q co bq 41 1,.blk F #[vI (abk s.st.ts)] 3,.blk g1 s.cells 50]) (m:=abk s.st.ts-0) ⟨0,[abk s.st.ts],G,H,abx _,by rw [qtq];decide,by rw [BH,abN],rfl,x,rfl,Z.sub kr,b.pk [0,1,2]⟩ ?_
 clear Z b;rintro mS a w_ ⟨k,q,O,co,hk,hp,P,Zn,Q,rfl,Z,b⟩
 refine Jb Z b ((JP∘Jp 1∘Jj∘JQ) (Ji (λI=>?_) λI=>?_))
 ·
  have g:k<abk s.st.ts:=by omega
  obtain ⟨t,ht⟩:∃z,(s.st.ts.getD k Tk.zero)=z:=⟨_,rfl⟩
  have J:=pq (M.tk k g)
  rw [ht] at J
  have A:=L.ts _ (qe Tk.zero g)
  replace A:Tk.Ok t:=by rw [←ht];exact A
  have htr:=A.r
  refine (JT∘aD∘JQ∘JB∘JP) ?_
  obtain ⟨R,S,u,_⟩:=Rd.sat hx.t k
  have y:=hx.t;rw [u] at y
  refine (Jk 16 (.slice (some ⟨R,S,none⟩) (abk s.st.ts) s.st.tc) (h:=by rw [u];try rfl)∘gZ k 8∘oQ Tk.cells qk y fu k Tk.zero (hk:=g)∘Jo (.agg t.cells) (by rw [ht])∘JA #[vI 0,vI 0,vI 0,vI 0,vQ 0,.bool false,vQ 0,vW 0]) λw6 g6=>(JV fu aU (h1:=by exact FB t)) λFZ=>(bG∘Jr∘Jp 1∘Jj∘JQ∘JP∘Jg 5 O0∘Jj) (Ju (λj=>?_) λj=>?_)
  ·
   refine (JT∘JR∘Jp 1∘Jr∘Jp 1∘Jg 0 O0∘Jp 2∘Jo (vI (t.id-qo s.st.ts k)) (by exact oH ⟨by omega,by omega⟩)∘Jg 1 O0∘Jg 2 O0∘Jg 3 O0∘JU zy #[vI (t.id-qo s.st.ts k),vI t.group,vI t.weight,vI t.cpu]) λT B=>(JK (h:=by exact λb=>H9 (some ⟨B,0,none⟩) 4 4 [t.id-qo s.st.ts k,t.group,t.weight,t.cpu] [aH (t.id-qo s.st.ts k),aH t.group,aH t.weight,aH t.cpu] _ rfl (b.aW (i:=0) (n:=4) (size:=1) rfl rfl) de rfl)) λU V W K=>?_
   have C: [aH (t.id-qo s.st.ts k),aH t.group,aH t.weight,aH t.cpu].length=4:=rfl
   refine (JD ([aH (t.id-qo s.st.ts k),aH t.group,aH t.weight,aH t.cpu].map bq) 3 (λ_ _=>qJ) kP (hr:=by exact λb=>b.rd (i:=0) rfl) (h1:=by exact uV _)) λX D E l=>(Jp 1∘aF∘Jq) ?_
   have c:abk q+([aH (t.id-qo s.st.ts k),aH t.group,aH t.weight,aH t.cpu].length)=abk (q++[aH (t.id-qo s.st.ts k),aH t.group,aH t.weight,aH t.cpu]):=nC rfl
   rw [c] at l
   refine (JC (h:=by exact λb=>b.aT (i:=3) (ys:=(q++[aH (t.id-qo s.st.ts k),aH t.group,aH t.weight,aH t.cpu]).map bq) rfl c (List.map_append.symm))∘Jk 3 (.slice D (abk (q++[aH (t.id-qo s.st.ts k),aH t.group,aH t.weight,aH t.cpu])) E) (h:=by exact gF c)∘JG∘JP∘Jp 1∘Jg 4 O2∘Jp 1∘Jg 6 O2∘Jg 7 O2∘Jw .u64∘JU kP #[vQ t.mask,vQ 1,vQ t.v,vQ t.r]) λY g47=>(JD ([t.mask,1,t.v,t.r].map bq) 4 (λ_ _=>sF) kP (hr:=by exact λb=>b.aW (i:=0) (n:=4) (size:=1) rfl rfl) (h1:=by exact uV _)) λDr o p e=>(Jp 1∘aF∘Jq) ?_
   have d:(abk (q++[aH (t.id-qo s.st.ts k),aH t.group,aH t.weight,aH t.cpu]))+4=abk ((q++[aH (t.id-qo s.st.ts k),aH t.group,aH t.weight,aH t.cpu])++[t.mask,1,t.v,t.r]):=nC rfl
   rw [d] at e
   refine (JC (h:=by exact λb=>b.aT (i:=4) (ys:=((q++[aH (t.id-qo s.st.ts k),aH t.group,aH t.weight,aH t.cpu])++[t.mask,1,t.v,t.r]).map bq) rfl d (List.map_append.symm))∘Jk 3 (.slice o (abk ((q++[aH (t.id-qo s.st.ts k),aH t.group,aH t.weight,aH t.cpu])++[t.mask,1,t.v,t.r])) p) (h:=by exact gF d)∘JG∘JR∘Jf 0∘Jc O3∘Jo (vI (qo s.st.ts (k+1))) (by rw [qc1,ht])∘Jp 1∘bG∘Jj∘JR∘cK 1∘Jp 1∘aK∘Jq) λa Z b=>?_
   replace Z:=Z.sp 16 (abg s.st.tA s.st.ts s.st.tc) rfl (by rw [u])
   exact ⟨_,om,k+1,(q++[aH (t.id-qo s.st.ts k),aH t.group,aH t.weight,aH t.cpu]++[t.mask,1,t.v,t.r]),o,p,by omega,by rw [qc1,ht];omega,by rw [P,q5,ht,FN j,abz,abz],by (simp only [abm,abX,adT];omega),e,rfl,Z.sub kr,b.pk [4,5,6]⟩
  refine (JF∘aD∘JP∘Jp 1∘Jg 0 O0∘Jp 2∘Jo (vI (t.id-qo s.st.ts k)) (by exact oH ⟨by omega,by omega⟩)∘Jg 1 O0∘Jg 2 O0∘Jg 3 O0∘JU zy #[vI (t.id-qo s.st.ts k),vI t.group,vI t.weight,vI t.cpu]) λT B=>(JK (h:=by exact λb=>H9 (some ⟨B,0,none⟩) 4 4 [t.id-qo s.st.ts k,t.group,t.weight,t.cpu] [aH (t.id-qo s.st.ts k),aH t.group,aH t.weight,aH t.cpu] _ rfl (b.aW (i:=0) (n:=4) (size:=1) rfl rfl) de rfl)) λU V W K=>?_
  have C: [aH (t.id-qo s.st.ts k),aH t.group,aH t.weight,aH t.cpu].length=4:=rfl
  refine (JD ([aH (t.id-qo s.st.ts k),aH t.group,aH t.weight,aH t.cpu].map bq) 3 (λ_ _=>qJ) kP (hr:=by exact λb=>b.rd (i:=0) rfl) (h1:=by exact uV _)) λX D E l=>(Jp 1∘aF∘Jq) ?_
  have c:abk q+([aH (t.id-qo s.st.ts k),aH t.group,aH t.weight,aH t.cpu].length)=abk (q++[aH (t.id-qo s.st.ts k),aH t.group,aH t.weight,aH t.cpu]):=nC rfl
  rw [c] at l
  refine (JC (h:=by exact λb=>b.aT (i:=3) (ys:=(q++[aH (t.id-qo s.st.ts k),aH t.group,aH t.weight,aH t.cpu]).map bq) rfl c (List.map_append.symm))∘Jk 3 (.slice D (abk (q++[aH (t.id-qo s.st.ts k),aH t.group,aH t.weight,aH t.cpu])) E) (h:=by exact gF c)∘JG∘JP∘Jp 1∘Jg 4 O2∘Jp 1∘Jg 6 O2∘Jg 7 O2∘Jw .u64∘JU kP #[vQ t.mask,vQ 0,vQ t.v,vQ t.r]) λY g47=>(JD ([t.mask,0,t.v,t.r].map bq) 4 (λ_ _=>sF) kP (hr:=by exact λb=>b.aW (i:=0) (n:=4) (size:=1) rfl rfl) (h1:=by exact uV _)) λDr o p e=>(Jp 1∘aF∘Jq) ?_
  have d:(abk (q++[aH (t.id-qo s.st.ts k),aH t.group,aH t.weight,aH t.cpu]))+4=abk ((q++[aH (t.id-qo s.st.ts k),aH t.group,aH t.weight,aH t.cpu])++[t.mask,0,t.v,t.r]):=nC rfl
  rw [d] at e
  refine (JC (h:=by exact λb=>b.aT (i:=4) (ys:=((q++[aH (t.id-qo s.st.ts k),aH t.group,aH t.weight,aH t.cpu])++[t.mask,0,t.v,t.r]).map bq) rfl d (List.map_append.symm))∘Jk 3 (.slice o (abk ((q++[aH (t.id-qo s.st.ts k),aH t.group,aH t.weight,aH t.cpu])++[t.mask,0,t.v,t.r])) p) (h:=by exact gF d)∘JG∘JR∘Jf 0∘Jc O3∘Jo (vI (qo s.st.ts (k+1))) (by rw [qc1,ht])∘Jp 1∘bG∘Jj∘JR∘cK 1∘Jp 1∘aK∘Jq) λa Z b=>?_
  replace Z:=Z.sp 16 (abg s.st.tA s.st.ts s.st.tc) rfl (by rw [u])
  exact ⟨_,om,k+1,(q++[aH (t.id-qo s.st.ts k),aH t.group,aH t.weight,aH t.cpu]++[t.mask,0,t.v,t.r]),o,p,by omega,by rw [qc1,ht];omega,by rw [P,q5,ht,FP j,abz,abz],by (simp only [abm,abX,adT];omega),e,rfl,Z.sub kr,b.pk [4,5,6]⟩
 exact (JF∘JX∘JG∘JP∘Jp 2∘aK∘Jj∘JZ∘aZ) λb=>zS (by rw [P,show k=abk s.st.ts by omega];try rfl) (b.own (i:=0) rfl) Q b.below
def q0j (s:cO) (Q:s.st.av.Ok) (hf:bP s.st) (w:World) (R:eD w s.st) (hc:fq s.st) (F:ShAt s.st):
    Calls abl 236 #[.agg s.cells] w (wZ w (aG s 6)):=by
 have hrl:=hf.s
 obtain ⟨hc1,hc2,_,_⟩:=lW F.cfg
 refine (dY Tryz.func236 41) ?_
 refine (JP∘JE) λw1 g1=>(Jp 1∘Jr∘Jp 1∘Jq∘JC (h:=by exact λb=>b.nil 41 1)∘JG∘JQ∘JP∘Jf 1∘Jg 6 O1∘Jl∘Jp 1∘Jj∘JB) λa Z b=>?_
 refine qg (λG S T=>∃(g:Nat) (q:List Nat) (p:Option Addr) (co:Nat),(g≤abk s.st.rs)∧(q=dW g λi=>nA i (s.st.rs.getD i Rw.zero).l)∧(abk q≤192*g)∧(abk q≤co)∧G=abk s.st.rs-g∧Fr S 41 [] [(12,vI g),(11,vI (abk s.st.rs)),(10,abg s.st.sA s.st.rs s.st.sc),(3,abg p q co),(2,vN)]∧Mem w T [abh p q co bq 41 1,.blk g1 s.cells 50]) (m:=abk s.st.rs-0) ⟨0,[],none,0,abx _,rfl,abo _,abo _,rfl,Z.sub kr,b.pk [0,1]⟩ ?_
 clear Z b;rintro G a w_ ⟨g,q,p,co,hg,E,U,t,rfl,Z,b⟩
 refine Jb Z b ((JP∘Jp 1∘Jj∘JQ) (Ji (λH=>?_) λH=>?_))
 ·
  have e:g<abk s.st.rs:=by omega
  obtain ⟨y,I⟩:∃z,s.st.rs.getD g Rw.zero=z:=⟨_,rfl⟩
  have J:Rd w w.heap.size 3 y.A (abk y.l) (y.l.flatMap iT):=by rw [←I];exact R.row e
  have hyl:(abk y.l:Int)=s.st.ak:=by rw [←I];exact (BF e (F.row g e)).1
  have V:∀z∈y.l,z.Ok:=by rw [←I,←jT e];exact Q.sp _ (qe [] (by rw [kU];exact e))
  refine (JT∘aD∘JQ∘JB∘JP∘Jp 1) ?_
  obtain ⟨K,L,D,_⟩:=Rd.sat R.s g
  have x:=R.s;rw [D] at x
  refine (Jk 10 (.slice (some ⟨K,L,none⟩) (abk s.st.rs) s.st.sc) (h:=by rw [D];try rfl)∘gZ g 1∘Jy (v:= .slice ((s.st.rs.getD g Rw.zero).A) ((s.st.rs.getD g Rw.zero).l.length) ((s.st.rs.getD g Rw.zero).c)) (h:=by exact aad x g Rw.zero e rfl rfl)∘Jo (.slice y.A (abk y.l) y.c) (by rw [I])∘Jp 2∘Jr∘Jp 1∘Jl∘Jp 1∘Jj∘JB) λa Z b=>?_
  refine qg (λG S T=>∃(c:Nat) (q:List Nat) (p:Option Addr) (co:Nat),(c≤abk y.l)∧(q=(dW g λi=>nA i (s.st.rs.getD i Rw.zero).l)++dW c λi=>mO g (y.l.getD i Sp.zero))∧(abk q≤192*g+3*c)∧(abk q≤co)∧G=abk y.l-c∧Fr S 41 [] [(19,vI c),(18,vI (abk y.l)),(17,abg y.A y.l y.c),(5,abg y.A y.l y.c),(4,vI g),(10,abg (some ⟨K,L,none⟩) s.st.rs s.st.sc),(13,.bool true),(12,vI g),(11,vI (abk s.st.rs)),(3,abg p q co),(2,vN)]∧Mem w T [abh p q co bq 41 1,.blk g1 s.cells 50]) (m:=abk y.l-0) ⟨0,q,p,co,abx _,by rw [E,BH,abN],by omega,t,rfl,Z.sub kr,b.pk [0,1]⟩ ?_
  clear Z b;rintro G a w_ ⟨c,q,p,co,hc,E,U,t,rfl,Z,b⟩
  refine Jb Z b ((JP∘Jp 1∘Jj∘JQ) (Ji (λM=>?_) λM=>?_))
  ·
   have B:c<abk y.l:=by omega
   obtain ⟨z,hz⟩:∃q,(y.l.getD c Sp.zero)=q:=⟨_,rfl⟩
   have N:=V _ (qe Sp.zero B)
   rw [hz] at N
   have hzr:=N.r
   refine (JT∘aD∘JQ∘JB∘JP) ?_
   obtain ⟨W,X,u,_⟩:=Rd.sat J c
   have C:=J;rw [u] at C
   refine (Jk 17 (.slice (some ⟨W,X,none⟩) (abk y.l) y.c) (h:=by rw [u];try rfl)∘gZ c 3∘oQ Sp.cells Bz C nM c Sp.zero (hk:=B)∘Jo (.agg z.cells) (by rw [hz])∘JA #[vQ 0,vW 0,vQ 0]) λw7 g7=>(JV nM aU (h1:=by exact XL z)) λaod=>(bG∘Jj∘JQ∘JP∘Jp 2∘aK∘Jj) (Ji (λO=>?_) λO=>?_)
   ·
    refine (JT∘JR∘Jp 1∘Jg 0 O0∘Jg 1 O0∘Jw .u64∘JU kP #[vQ z.v,vQ z.r]) λKT g31=>(JD ([z.v,z.r].map bq) 2 (λ_ _=>iO) kP (hr:=by exact λb=>b.aW (i:=0) (n:=2) (size:=1) rfl rfl) (h1:=by exact uV _)) λw32 Y c32 P=>(Jp 1∘aF∘Jq) ?_
    have j:abk q+2=abk (q++[z.v,z.r]):=nC rfl
    rw [j] at P
    refine (JC (h:=by exact λb=>b.aT (i:=2) (ys:=(q++[z.v,z.r]).map bq) rfl j (List.map_append.symm))∘Jk 3 (.slice Y (abk (q++[z.v,z.r])) c32) (h:=by exact gF j)∘JG∘JR∘Jp 1∘Jg 2 O1∘JU kP #[vQ z.floor]) λSN g36=>(JD ([z.floor].map bq) 3 (λ_ _=>qJ) kP (hr:=by exact λb=>b.aW (i:=0) (n:=1) (size:=1) rfl rfl) (h1:=by exact uV _)) λDv k o f=>(Jp 1∘gG∘Jq) ?_
    have d:(abk (q++[z.v,z.r]))+1=abk ((q++[z.v,z.r])++[z.floor]):=nC rfl
    rw [d] at f
    refine (JC (h:=by exact λb=>b.aT (i:=3) (ys:=((q++[z.v,z.r])++[z.floor]).map bq) rfl d (List.map_append.symm))∘Jk 3 (.slice k (abk ((q++[z.v,z.r])++[z.floor])) o) (h:=by exact gF d)∘JG∘JR∘cK 1∘Jp 1∘aK∘Jq) λa Z b=>?_
    replace Z:=Z.sp 17 (abg y.A y.l y.c) rfl (by rw [u])
    exact ⟨_,om,c+1,((q++[z.v,z.r])++[z.floor]),k,o,by omega,by rw [E,q5,hz,Pz om];simp only [abz],by (simp only [abm,abX,adT];omega),f,rfl,Z.sub kr,b.pk [3,4]⟩
   refine (JF∘aD∘JR∘Jp 1∘Jg 2 O0∘JU kP #[vQ z.floor]) λSN g36=>(JD ([z.floor].map bq) 2 (λ_ _=>iO) kP (hr:=by exact λb=>b.aW (i:=0) (n:=1) (size:=1) rfl rfl) (h1:=by exact uV _)) λDv k o f=>(Jp 1∘gG∘Jq) ?_
   have d:abk q+1=abk (q++[z.floor]):=nC rfl
   rw [d] at f
   refine (JC (h:=by exact λb=>b.aT (i:=2) (ys:=(q++[z.floor]).map bq) rfl d (List.map_append.symm))∘Jk 3 (.slice k (abk (q++[z.floor])) o) (h:=by exact gF d)∘JG∘JR∘cK 1∘Jp 1∘aK∘Jq) λa Z b=>?_
   replace Z:=Z.sp 17 (abg y.A y.l y.c) rfl (by rw [u])
   exact ⟨_,om,c+1,(q++[z.floor]),k,o,by omega,by rw [E,q5,hz,La om,abz],by (simp only [abm,abX,adT];omega),f,rfl,Z.sub kr,b.pk [2,3]⟩
  refine (JF∘JX∘JG∘JR∘cK 1∘Jp 1∘aK∘Jq) λa Z b=>?_
  replace Z:=Z.sp 10 (abg s.st.sA s.st.rs s.st.sc) rfl (by rw [D])
  exact ⟨_,om,g+1,q,p,co,by omega,by rw [E,show c=abk y.l by omega,q5,I];rfl,by omega,t,rfl,Z.sub kr,b.pk [0,1]⟩
 exact (JF∘JX∘JG∘JP∘Jp 2∘aK∘Jj∘JZ∘aZ) λb=>zS (by rw [E,show g=abk s.st.rs by omega];try rfl) (b.own (i:=0) rfl) t b.below
def rP:SI abl 362 2:=⟨by kernel_rfl,by kernel_rfl⟩
def zg2:EI abl 363 362 (.agg #[.string (abw #[]),.nilFunc]) 2 24:=⟨by kernel_rfl,by kernel_rfl,rfl,by omega⟩
def qv (s:cO):Array Value:= #[.string (abw #[110,101,120,116]),.func (.func 230) #[.agg s.cells] #[],.string (abw #[99,111,110,102,105,103]),.func (.func 231) #[.agg s.cells] #[],.string (abw #[103,114,111,117,112,115]),.func (.func 232) #[.agg s.cells] #[],.string (abw #[99,108,111,99,107,115]),.func (.func 233) #[.agg s.cells] #[],.string (abw #[99,117,114,114,101,110,116]),.func (.func 234) #[.agg s.cells] #[],.string (abw #[116,97,115,107,115]),.func (.func 235) #[.agg s.cells] #[],.string (abw #[115,112,111,116,115]),.func (.func 236) #[.agg s.cells] #[]]
def qxi (P:Program) (W:World) (a:Nat) (s:cO) (Inv:Nat→List Fact→Prop):Prop:=
 ∀(i:Nat) (F fr:List Fact) (w:World) (A:Option Addr) (c:Nat),Inv i F→i<7→abk (aG s i)≤c→Mem W w (.row (.slice A (abk (aG s i)) c) (abk (aG s i)) ((aG s i).map bq) 41 1::(F++fr))→YieldAt ace 0 P a #[.string (qb i),.slice A (abk (aG s i)) c] w (Pg W fr (Inv (i+1)))
def q6m (s:cO) (w:World):
    Calls abl 166 #[.agg s.cells] w λr e=>∃d gp,r= .returned (.func (.func 237) #[] #[vP d 0])∧Mem w e [.blk d #[.slice (some ⟨gp,0,none⟩) 7 7] 363,.blk gp (qv s) 362]:=by
 refine (dY Tryz.func166 27) ?_
 refine (JP∘JE) λj k=>(Jp 1∘Jr∘eF zp O0∘Jy (h:=by exact Yl.makeFunc (fst:=[.agg s.cells]) (caps:=[]) rfl rfl rfl)∘eH #[.string (abw #[110,101,120,116]),.func (.func 230) #[.agg s.cells] #[]]∘eF zp O0∘Jy (h:=by exact Yl.makeFunc (fst:=[.agg s.cells]) (caps:=[]) rfl rfl rfl)∘eH #[.string (abw #[99,111,110,102,105,103]),.func (.func 231) #[.agg s.cells] #[]]∘eF zp O0∘Jy (h:=by exact Yl.makeFunc (fst:=[.agg s.cells]) (caps:=[]) rfl rfl rfl)∘eH #[.string (abw #[103,114,111,117,112,115]),.func (.func 232) #[.agg s.cells] #[]]∘eF zp O0∘Jy (h:=by exact Yl.makeFunc (fst:=[.agg s.cells]) (caps:=[]) rfl rfl rfl)∘eH #[.string (abw #[99,108,111,99,107,115]),.func (.func 233) #[.agg s.cells] #[]]∘eF zp O0∘Jy (h:=by exact Yl.makeFunc (fst:=[.agg s.cells]) (caps:=[]) rfl rfl rfl)∘eH #[.string (abw #[99,117,114,114,101,110,116]),.func (.func 234) #[.agg s.cells] #[]]∘eF zp O0∘Jy (h:=by exact Yl.makeFunc (fst:=[.agg s.cells]) (caps:=[]) rfl rfl rfl)∘eH #[.string (abw #[116,97,115,107,115]),.func (.func 235) #[.agg s.cells] #[]]∘eF zp O0∘Jy (h:=by exact Yl.makeFunc (fst:=[.agg s.cells]) (caps:=[]) rfl rfl rfl)∘eH #[.string (abw #[115,112,111,116,115]),.func (.func 236) #[.agg s.cells] #[]]) λa Z b=>?_
 refine fo Z 21 rfl rfl (iW Z b zg2 [(0,.agg #[.string (abw #[110,101,120,116]),.func (.func 230) #[.agg s.cells] #[]]),(1,.agg #[.string (abw #[99,111,110,102,105,103]),.func (.func 231) #[.agg s.cells] #[]]),(2,.agg #[.string (abw #[103,114,111,117,112,115]),.func (.func 232) #[.agg s.cells] #[]]),(3,.agg #[.string (abw #[99,108,111,99,107,115]),.func (.func 233) #[.agg s.cells] #[]]),(4,.agg #[.string (abw #[99,117,114,114,101,110,116]),.func (.func 234) #[.agg s.cells] #[]]),(5,.agg #[.string (abw #[116,97,115,107,115]),.func (.func 235) #[.agg s.cells] #[]]),(6,.agg #[.string (abw #[115,112,111,116,115]),.func (.func 236) #[.agg s.cells] #[]])] (qv s) ?_)
 clear Z b;intro a f g Z b
 exact Jb Z b ((JA #[vN]) λl i=>(JW aU aU) λc=>(aF∘Jr∘Jy (h:=by exact Yl.makeFunc (fst:=[]) (caps:=[vP i 0]) rfl rfl rfl)∘Jp 1∘aK∘Jj∘JZ∘aZ) λb=>by exact ⟨_,_,rfl,b.pk [0,1]⟩)
def q0k (W w:World) (g gp u:Nat) (s:cO) (x:s.st.av.Ok) (C:bP s.st) (D:eD W s.st) (hc:fq s.st) (E:ShAt s.st) (Inv:Nat→List Fact→Prop) (H:List Fact) (hy:qxi abl W u s Inv) (I:Inv 0 H) (b:Mem W w (.blk g #[.slice (some ⟨gp,0,none⟩) 7 7] 363:: .blk gp (qv s) 362::H)):
    Calls abl 237 (.func (.yield u) #[] #[]:: [vP g 0]).toArray w (XO W (Inv 7)):=by
 refine qI Tryz.func237 [.func (.yield u) #[] #[],vP g 0] [(0,.func (.yield u) #[] #[]),(1,vP g 0)] λa Z=>?_
 refine Jb Z b ((JP∘Jc O0∘Jl∘Jp 1∘Jj∘JB) λa Z b=>?_)
 refine qg (λK L M=>∃(k:Nat) (F:List Fact),(k≤7)∧(Inv k F)∧K=7-k∧Fr L 20 [] [(7,vI k),(6,vI 7),(5,vS gp 7 7),(0,.func (.yield u) #[] #[])]∧Mem W M (.blk g #[vS gp 7 7] 363:: .blk gp (qv s) 362::F)) (m:=7-0) ⟨0,H,by decide,I,rfl,Z.sub kr,b.pt 2 [0,1]⟩ ?_
 clear Z b;rintro K a N ⟨k,F,O,B,rfl,Z,b⟩
 refine Jb Z b ((JP∘Jp 1∘Jj∘JQ) (Ji (λJ=>?_) λJ=>?_))
 ·
  repeat (first|clear Z|clear b)
  intro a Z b
  obtain rfl|rfl|rfl|rfl|rfl|rfl|rfl:k=0∨k=1∨k=2∨k=3∨k=4∨k=5∨k=6:=by omega
  ·
   replace Z:=Z.sp 7 (vI 0) rfl rfl
   refine Jb Z b ((JT∘aD∘JQ∘JB∘JP∘Jy (v:=vP gp 0) (h:=by exact Yl.indexAddr (ad:=⟨gp,0,none⟩) (y:=0) (sz:=2) rfl rfl rfl de kr)∘Jy (v:= .agg #[.string (abw #[110,101,120,116]),.func (.func 230) #[.agg s.cells] #[]]) (h:=by exact Pe rfl rfl rP rfl (λ_ h=>h.sub (i:=1) rfl 0 rfl))∘JA #[.string (abw #[]),.nilFunc]) λG c=>(JV rP aU) λr=>(bG∘Jj) λa Z b=>?_)
   refine wp_seq ?_
   refine Cy 6 b (.blk c #[.string (abw #[110,101,120,116]),.func (.func 230) #[.agg s.cells] #[]] 362:: .blk g #[vS gp 7 7] 363:: .blk gp (qv s) 362::F) 3 [0,1,2] [] λb l=>?_
   refine ap Z (λ_=>l) [0,1,3] (bf 6 [0,1,3]) [(14,vP c 1),(12,vP c 0),(11,.func (.yield u) #[] #[])] λa Z=>?_
   refine dR Z l 2 0 λa Z=>?_
   refine dR Z l 4 0 λa Z=>?_
   refine s_on Z 5 rfl ?_
   refine mY Z (f:=230) (vs:=[]) (fst:=[.agg s.cells]) (caps:=[]) rfl rfl rfl kr rfl de (q6l s x C _ (D.old b)) ?_
   rintro _ z ⟨⟨d,e,rfl,A,j⟩,n⟩
   refine ⟨_,rfl,?_⟩
   replace b:=b.bN n A
   clear Z;intro a Z
   refine ay (b.pt 4 [1,2,3]) (λl=>?_)
   refine qd kr ?_
   replace b:=b.pt (fs':=(abh d (aG s 0) e bq 41 1:: .blk c #[.string (abw #[110,101,120,116]),.func (.func 230) #[.agg s.cells] #[]] 362:: .blk g #[vS gp 7 7] 363:: .blk gp (qv s) 362::F)) 4 [0,1,2,3]
   refine wQ Z (i:=6) (vs:=[.string (abw #[110,101,120,116]),abg d (aG s 0) e]) rfl rfl rfl rfl rfl rfl de (hy 0 F [.blk c #[.string (abw #[110,101,120,116]),.func (.func 230) #[.agg s.cells] #[]] 362,.blk g #[vS gp 7 7] 363,.blk gp (qv s) 362] _ d e B om j (aam (es:=[.blk c #[.string (abw #[110,101,120,116]),.func (.func 230) #[.agg s.cells] #[]] 362,.blk g #[vS gp 7 7] 363,.blk gp (qv s) 362]) b)) zh ?_
   clear Z b;rintro v o a ⟨t,b,p,q⟩ Z;injection p with p;subst p
   replace b:Mem W o (.blk c #[.string (abw #[110,101,120,116]),.func (.func 230) #[.agg s.cells] #[]] 362:: .blk g #[vS gp 7 7] 363:: .blk gp (qv s) 362::t):=aai (es:=[.blk c #[.string (abw #[110,101,120,116]),.func (.func 230) #[.agg s.cells] #[]] 362,.blk g #[vS gp 7 7] 363,.blk gp (qv s) 362]) b
   replace Z:=Z.to [(17,.bool true),(7,vI 0),(6,vI 7),(5,vS gp 7 7),(0,.func (.yield u) #[] #[])]
   refine Jb Z b ((Jp 1∘aK∘Jq∘JF∘aD∘JR∘Jv 2 [(7,vI 1)]∘Jq) λa Z b=>?_)
   exact ⟨_,om,1,t,by omega,q,rfl,Z.sub kr,b.pt 3 [1,2]⟩
  ·
   replace Z:=Z.sp 7 (vI 1) rfl rfl
   refine Jb Z b ((JT∘aD∘JQ∘JB∘JP∘Jy (v:=vP gp 2) (h:=by exact Yl.indexAddr (ad:=⟨gp,0,none⟩) (y:=1) (sz:=2) rfl rfl rfl de kr)∘Jy (v:= .agg #[.string (abw #[99,111,110,102,105,103]),.func (.func 231) #[.agg s.cells] #[]]) (h:=by exact Pe rfl rfl rP rfl (λ_ h=>h.sub (i:=1) rfl 2 rfl))∘JA #[.string (abw #[]),.nilFunc]) λG c=>(JV rP aU) λr=>(bG∘Jj) λa Z b=>?_)
   refine wp_seq ?_
   refine Cy 6 b (.blk c #[.string (abw #[99,111,110,102,105,103]),.func (.func 231) #[.agg s.cells] #[]] 362:: .blk g #[vS gp 7 7] 363:: .blk gp (qv s) 362::F) 3 [0,1,2] [] λb l=>?_
   refine ap Z (λ_=>l) [0,1,3] (bf 6 [0,1,3]) [(14,vP c 1),(12,vP c 0),(11,.func (.yield u) #[] #[])] λa Z=>?_
   refine dR Z l 2 0 λa Z=>?_
   refine dR Z l 4 0 λa Z=>?_
   refine s_on Z 5 rfl ?_
   refine mY Z (f:=231) (vs:=[]) (fst:=[.agg s.cells]) (caps:=[]) rfl rfl rfl kr rfl de (quz s x C _ (D.old b)) ?_
   rintro _ z ⟨⟨d,e,rfl,A,j⟩,n⟩
   refine ⟨_,rfl,?_⟩
   replace b:=b.bN n A
   clear Z;intro a Z
   refine ay (b.pt 4 [1,2,3]) (λl=>?_)
   refine qd kr ?_
   replace b:=b.pt (fs':=(abh d (aG s 1) e bq 41 1:: .blk c #[.string (abw #[99,111,110,102,105,103]),.func (.func 231) #[.agg s.cells] #[]] 362:: .blk g #[vS gp 7 7] 363:: .blk gp (qv s) 362::F)) 4 [0,1,2,3]
   refine wQ Z (i:=6) (vs:=[.string (abw #[99,111,110,102,105,103]),abg d (aG s 1) e]) rfl rfl rfl rfl rfl rfl de (hy 1 F [.blk c #[.string (abw #[99,111,110,102,105,103]),.func (.func 231) #[.agg s.cells] #[]] 362,.blk g #[vS gp 7 7] 363,.blk gp (qv s) 362] _ d e B om j (aam (es:=[.blk c #[.string (abw #[99,111,110,102,105,103]),.func (.func 231) #[.agg s.cells] #[]] 362,.blk g #[vS gp 7 7] 363,.blk gp (qv s) 362]) b)) zh ?_
   clear Z b;rintro v o a ⟨t,b,p,q⟩ Z;injection p with p;subst p
   replace b:Mem W o (.blk c #[.string (abw #[99,111,110,102,105,103]),.func (.func 231) #[.agg s.cells] #[]] 362:: .blk g #[vS gp 7 7] 363:: .blk gp (qv s) 362::t):=aai (es:=[.blk c #[.string (abw #[99,111,110,102,105,103]),.func (.func 231) #[.agg s.cells] #[]] 362,.blk g #[vS gp 7 7] 363,.blk gp (qv s) 362]) b
   replace Z:=Z.to [(17,.bool true),(7,vI 1),(6,vI 7),(5,vS gp 7 7),(0,.func (.yield u) #[] #[])]
   refine Jb Z b ((Jp 1∘aK∘Jq∘JF∘aD∘JR∘Jv 2 [(7,vI 2)]∘Jq) λa Z b=>?_)
   exact ⟨_,om,2,t,by omega,q,rfl,Z.sub kr,b.pt 3 [1,2]⟩
  ·
   replace Z:=Z.sp 7 (vI 2) rfl rfl
   refine Jb Z b ((JT∘aD∘JQ∘JB∘JP∘Jy (v:=vP gp 4) (h:=by exact Yl.indexAddr (ad:=⟨gp,0,none⟩) (y:=2) (sz:=2) rfl rfl rfl de kr)∘Jy (v:= .agg #[.string (abw #[103,114,111,117,112,115]),.func (.func 232) #[.agg s.cells] #[]]) (h:=by exact Pe rfl rfl rP rfl (λ_ h=>h.sub (i:=1) rfl 4 rfl))∘JA #[.string (abw #[]),.nilFunc]) λG c=>(JV rP aU) λr=>(bG∘Jj) λa Z b=>?_)
   refine wp_seq ?_
   refine Cy 6 b (.blk c #[.string (abw #[103,114,111,117,112,115]),.func (.func 232) #[.agg s.cells] #[]] 362:: .blk g #[vS gp 7 7] 363:: .blk gp (qv s) 362::F) 3 [0,1,2] [] λb l=>?_
   refine ap Z (λ_=>l) [0,1,3] (bf 6 [0,1,3]) [(14,vP c 1),(12,vP c 0),(11,.func (.yield u) #[] #[])] λa Z=>?_
   refine dR Z l 2 0 λa Z=>?_
   refine dR Z l 4 0 λa Z=>?_
   refine s_on Z 5 rfl ?_
   refine mY Z (f:=232) (vs:=[]) (fst:=[.agg s.cells]) (caps:=[]) rfl rfl rfl kr rfl de (qu1 s x C _ (D.old b) hc E) ?_
   rintro _ z ⟨⟨d,e,rfl,A,j⟩,n⟩
   refine ⟨_,rfl,?_⟩
   replace b:=b.bN n A
   clear Z;intro a Z
   refine ay (b.pt 4 [1,2,3]) (λl=>?_)
   refine qd kr ?_
   replace b:=b.pt (fs':=(abh d (aG s 2) e bq 41 1:: .blk c #[.string (abw #[103,114,111,117,112,115]),.func (.func 232) #[.agg s.cells] #[]] 362:: .blk g #[vS gp 7 7] 363:: .blk gp (qv s) 362::F)) 4 [0,1,2,3]
   refine wQ Z (i:=6) (vs:=[.string (abw #[103,114,111,117,112,115]),abg d (aG s 2) e]) rfl rfl rfl rfl rfl rfl de (hy 2 F [.blk c #[.string (abw #[103,114,111,117,112,115]),.func (.func 232) #[.agg s.cells] #[]] 362,.blk g #[vS gp 7 7] 363,.blk gp (qv s) 362] _ d e B om j (aam (es:=[.blk c #[.string (abw #[103,114,111,117,112,115]),.func (.func 232) #[.agg s.cells] #[]] 362,.blk g #[vS gp 7 7] 363,.blk gp (qv s) 362]) b)) zh ?_
   clear Z b;rintro v o a ⟨t,b,p,q⟩ Z;injection p with p;subst p
   replace b:Mem W o (.blk c #[.string (abw #[103,114,111,117,112,115]),.func (.func 232) #[.agg s.cells] #[]] 362:: .blk g #[vS gp 7 7] 363:: .blk gp (qv s) 362::t):=aai (es:=[.blk c #[.string (abw #[103,114,111,117,112,115]),.func (.func 232) #[.agg s.cells] #[]] 362,.blk g #[vS gp 7 7] 363,.blk gp (qv s) 362]) b
   replace Z:=Z.to [(17,.bool true),(7,vI 2),(6,vI 7),(5,vS gp 7 7),(0,.func (.yield u) #[] #[])]
   refine Jb Z b ((Jp 1∘aK∘Jq∘JF∘aD∘JR∘Jv 2 [(7,vI 3)]∘Jq) λa Z b=>?_)
   exact ⟨_,om,3,t,by omega,q,rfl,Z.sub kr,b.pt 3 [1,2]⟩
  ·
   replace Z:=Z.sp 7 (vI 3) rfl rfl
   refine Jb Z b ((JT∘aD∘JQ∘JB∘JP∘Jy (v:=vP gp 6) (h:=by exact Yl.indexAddr (ad:=⟨gp,0,none⟩) (y:=3) (sz:=2) rfl rfl rfl de kr)∘Jy (v:= .agg #[.string (abw #[99,108,111,99,107,115]),.func (.func 233) #[.agg s.cells] #[]]) (h:=by exact Pe rfl rfl rP rfl (λ_ h=>h.sub (i:=1) rfl 6 rfl))∘JA #[.string (abw #[]),.nilFunc]) λG c=>(JV rP aU) λr=>(bG∘Jj) λa Z b=>?_)
   refine wp_seq ?_
   refine Cy 6 b (.blk c #[.string (abw #[99,108,111,99,107,115]),.func (.func 233) #[.agg s.cells] #[]] 362:: .blk g #[vS gp 7 7] 363:: .blk gp (qv s) 362::F) 3 [0,1,2] [] λb l=>?_
   refine ap Z (λ_=>l) [0,1,3] (bf 6 [0,1,3]) [(14,vP c 1),(12,vP c 0),(11,.func (.yield u) #[] #[])] λa Z=>?_
   refine dR Z l 2 0 λa Z=>?_
   refine dR Z l 4 0 λa Z=>?_
   refine s_on Z 5 rfl ?_
   refine mY Z (f:=233) (vs:=[]) (fst:=[.agg s.cells]) (caps:=[]) rfl rfl rfl kr rfl de (qu0 s x C _ (D.old b)) ?_
   rintro _ z ⟨⟨d,e,rfl,A,j⟩,n⟩
   refine ⟨_,rfl,?_⟩
   replace b:=b.bN n A
   clear Z;intro a Z
   refine ay (b.pt 4 [1,2,3]) (λl=>?_)
   refine qd kr ?_
   replace b:=b.pt (fs':=(abh d (aG s 3) e bq 41 1:: .blk c #[.string (abw #[99,108,111,99,107,115]),.func (.func 233) #[.agg s.cells] #[]] 362:: .blk g #[vS gp 7 7] 363:: .blk gp (qv s) 362::F)) 4 [0,1,2,3]
   refine wQ Z (i:=6) (vs:=[.string (abw #[99,108,111,99,107,115]),abg d (aG s 3) e]) rfl rfl rfl rfl rfl rfl de (hy 3 F [.blk c #[.string (abw #[99,108,111,99,107,115]),.func (.func 233) #[.agg s.cells] #[]] 362,.blk g #[vS gp 7 7] 363,.blk gp (qv s) 362] _ d e B om j (aam (es:=[.blk c #[.string (abw #[99,108,111,99,107,115]),.func (.func 233) #[.agg s.cells] #[]] 362,.blk g #[vS gp 7 7] 363,.blk gp (qv s) 362]) b)) zh ?_
   clear Z b;rintro v o a ⟨t,b,p,q⟩ Z;injection p with p;subst p
   replace b:Mem W o (.blk c #[.string (abw #[99,108,111,99,107,115]),.func (.func 233) #[.agg s.cells] #[]] 362:: .blk g #[vS gp 7 7] 363:: .blk gp (qv s) 362::t):=aai (es:=[.blk c #[.string (abw #[99,108,111,99,107,115]),.func (.func 233) #[.agg s.cells] #[]] 362,.blk g #[vS gp 7 7] 363,.blk gp (qv s) 362]) b
   replace Z:=Z.to [(17,.bool true),(7,vI 3),(6,vI 7),(5,vS gp 7 7),(0,.func (.yield u) #[] #[])]
   refine Jb Z b ((Jp 1∘aK∘Jq∘JF∘aD∘JR∘Jv 2 [(7,vI 4)]∘Jq) λa Z b=>?_)
   exact ⟨_,om,4,t,by omega,q,rfl,Z.sub kr,b.pt 3 [1,2]⟩
  ·
   replace Z:=Z.sp 7 (vI 4) rfl rfl
   refine Jb Z b ((JT∘aD∘JQ∘JB∘JP∘Jy (v:=vP gp 8) (h:=by exact Yl.indexAddr (ad:=⟨gp,0,none⟩) (y:=4) (sz:=2) rfl rfl rfl de kr)∘Jy (v:= .agg #[.string (abw #[99,117,114,114,101,110,116]),.func (.func 234) #[.agg s.cells] #[]]) (h:=by exact Pe rfl rfl rP rfl (λ_ h=>h.sub (i:=1) rfl 8 rfl))∘JA #[.string (abw #[]),.nilFunc]) λG c=>(JV rP aU) λr=>(bG∘Jj) λa Z b=>?_)
   refine wp_seq ?_
   refine Cy 6 b (.blk c #[.string (abw #[99,117,114,114,101,110,116]),.func (.func 234) #[.agg s.cells] #[]] 362:: .blk g #[vS gp 7 7] 363:: .blk gp (qv s) 362::F) 3 [0,1,2] [] λb l=>?_
   refine ap Z (λ_=>l) [0,1,3] (bf 6 [0,1,3]) [(14,vP c 1),(12,vP c 0),(11,.func (.yield u) #[] #[])] λa Z=>?_
   refine dR Z l 2 0 λa Z=>?_
   refine dR Z l 4 0 λa Z=>?_
   refine s_on Z 5 rfl ?_
   refine mY Z (f:=234) (vs:=[]) (fst:=[.agg s.cells]) (caps:=[]) rfl rfl rfl kr rfl de (qr5 s x C _ (D.old b)) ?_
   rintro _ z ⟨⟨d,e,rfl,A,j⟩,n⟩
   refine ⟨_,rfl,?_⟩
   replace b:=b.bN n A
   clear Z;intro a Z
   refine ay (b.pt 4 [1,2,3]) (λl=>?_)
   refine qd kr ?_
   replace b:=b.pt (fs':=(abh d (aG s 4) e bq 41 1:: .blk c #[.string (abw #[99,117,114,114,101,110,116]),.func (.func 234) #[.agg s.cells] #[]] 362:: .blk g #[vS gp 7 7] 363:: .blk gp (qv s) 362::F)) 4 [0,1,2,3]
   refine wQ Z (i:=6) (vs:=[.string (abw #[99,117,114,114,101,110,116]),abg d (aG s 4) e]) rfl rfl rfl rfl rfl rfl de (hy 4 F [.blk c #[.string (abw #[99,117,114,114,101,110,116]),.func (.func 234) #[.agg s.cells] #[]] 362,.blk g #[vS gp 7 7] 363,.blk gp (qv s) 362] _ d e B om j (aam (es:=[.blk c #[.string (abw #[99,117,114,114,101,110,116]),.func (.func 234) #[.agg s.cells] #[]] 362,.blk g #[vS gp 7 7] 363,.blk gp (qv s) 362]) b)) zh ?_
   clear Z b;rintro v o a ⟨t,b,p,q⟩ Z;injection p with p;subst p
   replace b:Mem W o (.blk c #[.string (abw #[99,117,114,114,101,110,116]),.func (.func 234) #[.agg s.cells] #[]] 362:: .blk g #[vS gp 7 7] 363:: .blk gp (qv s) 362::t):=aai (es:=[.blk c #[.string (abw #[99,117,114,114,101,110,116]),.func (.func 234) #[.agg s.cells] #[]] 362,.blk g #[vS gp 7 7] 363,.blk gp (qv s) 362]) b
   replace Z:=Z.to [(17,.bool true),(7,vI 4),(6,vI 7),(5,vS gp 7 7),(0,.func (.yield u) #[] #[])]
   refine Jb Z b ((Jp 1∘aK∘Jq∘JF∘aD∘JR∘Jv 2 [(7,vI 5)]∘Jq) λa Z b=>?_)
   exact ⟨_,om,5,t,by omega,q,rfl,Z.sub kr,b.pt 3 [1,2]⟩
  ·
   replace Z:=Z.sp 7 (vI 5) rfl rfl
   refine Jb Z b ((JT∘aD∘JQ∘JB∘JP∘Jy (v:=vP gp 10) (h:=by exact Yl.indexAddr (ad:=⟨gp,0,none⟩) (y:=5) (sz:=2) rfl rfl rfl de kr)∘Jy (v:= .agg #[.string (abw #[116,97,115,107,115]),.func (.func 235) #[.agg s.cells] #[]]) (h:=by exact Pe rfl rfl rP rfl (λ_ h=>h.sub (i:=1) rfl 10 rfl))∘JA #[.string (abw #[]),.nilFunc]) λG c=>(JV rP aU) λr=>(bG∘Jj) λa Z b=>?_)
   refine wp_seq ?_
   refine Cy 6 b (.blk c #[.string (abw #[116,97,115,107,115]),.func (.func 235) #[.agg s.cells] #[]] 362:: .blk g #[vS gp 7 7] 363:: .blk gp (qv s) 362::F) 3 [0,1,2] [] λb l=>?_
   refine ap Z (λ_=>l) [0,1,3] (bf 6 [0,1,3]) [(14,vP c 1),(12,vP c 0),(11,.func (.yield u) #[] #[])] λa Z=>?_
   refine dR Z l 2 0 λa Z=>?_
   refine dR Z l 4 0 λa Z=>?_
   refine s_on Z 5 rfl ?_
   refine mY Z (f:=235) (vs:=[]) (fst:=[.agg s.cells]) (caps:=[]) rfl rfl rfl kr rfl de (q0i s x C _ (D.old b) hc E) ?_
   rintro _ z ⟨⟨d,e,rfl,A,j⟩,n⟩
   refine ⟨_,rfl,?_⟩
   replace b:=b.bN n A
   clear Z;intro a Z
   refine ay (b.pt 4 [1,2,3]) (λl=>?_)
   refine qd kr ?_
   replace b:=b.pt (fs':=(abh d (aG s 5) e bq 41 1:: .blk c #[.string (abw #[116,97,115,107,115]),.func (.func 235) #[.agg s.cells] #[]] 362:: .blk g #[vS gp 7 7] 363:: .blk gp (qv s) 362::F)) 4 [0,1,2,3]
   refine wQ Z (i:=6) (vs:=[.string (abw #[116,97,115,107,115]),abg d (aG s 5) e]) rfl rfl rfl rfl rfl rfl de (hy 5 F [.blk c #[.string (abw #[116,97,115,107,115]),.func (.func 235) #[.agg s.cells] #[]] 362,.blk g #[vS gp 7 7] 363,.blk gp (qv s) 362] _ d e B om j (aam (es:=[.blk c #[.string (abw #[116,97,115,107,115]),.func (.func 235) #[.agg s.cells] #[]] 362,.blk g #[vS gp 7 7] 363,.blk gp (qv s) 362]) b)) zh ?_
   clear Z b;rintro v o a ⟨t,b,p,q⟩ Z;injection p with p;subst p
   replace b:Mem W o (.blk c #[.string (abw #[116,97,115,107,115]),.func (.func 235) #[.agg s.cells] #[]] 362:: .blk g #[vS gp 7 7] 363:: .blk gp (qv s) 362::t):=aai (es:=[.blk c #[.string (abw #[116,97,115,107,115]),.func (.func 235) #[.agg s.cells] #[]] 362,.blk g #[vS gp 7 7] 363,.blk gp (qv s) 362]) b
   replace Z:=Z.to [(17,.bool true),(7,vI 5),(6,vI 7),(5,vS gp 7 7),(0,.func (.yield u) #[] #[])]
   refine Jb Z b ((Jp 1∘aK∘Jq∘JF∘aD∘JR∘Jv 2 [(7,vI 6)]∘Jq) λa Z b=>?_)
   exact ⟨_,om,6,t,by omega,q,rfl,Z.sub kr,b.pt 3 [1,2]⟩
  ·
   replace Z:=Z.sp 7 (vI 6) rfl rfl
   refine Jb Z b ((JT∘aD∘JQ∘JB∘JP∘Jy (v:=vP gp 12) (h:=by exact Yl.indexAddr (ad:=⟨gp,0,none⟩) (y:=6) (sz:=2) rfl rfl rfl de kr)∘Jy (v:= .agg #[.string (abw #[115,112,111,116,115]),.func (.func 236) #[.agg s.cells] #[]]) (h:=by exact Pe rfl rfl rP rfl (λ_ h=>h.sub (i:=1) rfl 12 rfl))∘JA #[.string (abw #[]),.nilFunc]) λG c=>(JV rP aU) λr=>(bG∘Jj) λa Z b=>?_)
   refine wp_seq ?_
   refine Cy 6 b (.blk c #[.string (abw #[115,112,111,116,115]),.func (.func 236) #[.agg s.cells] #[]] 362:: .blk g #[vS gp 7 7] 363:: .blk gp (qv s) 362::F) 3 [0,1,2] [] λb l=>?_
   refine ap Z (λ_=>l) [0,1,3] (bf 6 [0,1,3]) [(14,vP c 1),(12,vP c 0),(11,.func (.yield u) #[] #[])] λa Z=>?_
   refine dR Z l 2 0 λa Z=>?_
   refine dR Z l 4 0 λa Z=>?_
   refine s_on Z 5 rfl ?_
   refine mY Z (f:=236) (vs:=[]) (fst:=[.agg s.cells]) (caps:=[]) rfl rfl rfl kr rfl de (q0j s x C _ (D.old b) hc E) ?_
   rintro _ z ⟨⟨d,e,rfl,A,j⟩,n⟩
   refine ⟨_,rfl,?_⟩
   replace b:=b.bN n A
   clear Z;intro a Z
   refine ay (b.pt 4 [1,2,3]) (λl=>?_)
   refine qd kr ?_
   replace b:=b.pt (fs':=(abh d (aG s 6) e bq 41 1:: .blk c #[.string (abw #[115,112,111,116,115]),.func (.func 236) #[.agg s.cells] #[]] 362:: .blk g #[vS gp 7 7] 363:: .blk gp (qv s) 362::F)) 4 [0,1,2,3]
   refine wQ Z (i:=6) (vs:=[.string (abw #[115,112,111,116,115]),abg d (aG s 6) e]) rfl rfl rfl rfl rfl rfl de (hy 6 F [.blk c #[.string (abw #[115,112,111,116,115]),.func (.func 236) #[.agg s.cells] #[]] 362,.blk g #[vS gp 7 7] 363,.blk gp (qv s) 362] _ d e B om j (aam (es:=[.blk c #[.string (abw #[115,112,111,116,115]),.func (.func 236) #[.agg s.cells] #[]] 362,.blk g #[vS gp 7 7] 363,.blk gp (qv s) 362]) b)) zh ?_
   clear Z b;rintro v o a ⟨t,b,p,q⟩ Z;injection p with p;subst p
   replace b:Mem W o (.blk c #[.string (abw #[115,112,111,116,115]),.func (.func 236) #[.agg s.cells] #[]] 362:: .blk g #[vS gp 7 7] 363:: .blk gp (qv s) 362::t):=aai (es:=[.blk c #[.string (abw #[115,112,111,116,115]),.func (.func 236) #[.agg s.cells] #[]] 362,.blk g #[vS gp 7 7] 363,.blk gp (qv s) 362]) b
   replace Z:=Z.to [(17,.bool true),(7,vI 6),(6,vI 7),(5,vS gp 7 7),(0,.func (.yield u) #[] #[])]
   refine Jb Z b ((Jp 1∘aK∘Jq∘JF∘aD∘JR∘Jv 2 [(7,vI 7)]∘Jq) λa Z b=>?_)
   exact ⟨_,om,7,t,by omega,q,rfl,Z.sub kr,b.pt 3 [1,2]⟩
 refine (JF∘JX) ?_
 obtain rfl:k=7:=by omega
 intro a Z b
 exact gQ rfl Z ⟨_,rfl,F,aap [.blk g #[vS gp 7 7] 363,.blk gp (qv s) 362] b,B⟩
structure En where
 v:Nat
 r:Nat
 w:Nat
abbrev ny:Nat:=18446744073709551615
def En.add (x:En) (d:Nat):En:=
 if ny-x.v≤(d*1048576+x.r)/x.w then ⟨ny,0,x.w⟩ else ⟨x.v+(d*1048576+x.r)/x.w,(d*1048576+x.r)%x.w,x.w⟩
def En.woken (x:En) (floor aj:Nat):En:=if x.v<floor-aj then ⟨floor-aj,0,x.w⟩ else x
def sJ (v fr to:Nat):Nat:=if fr≤v then to+min (v-fr) (ny-to) else to-min to (fr-v)
def En.moved (x:En) (fr to:Nat):En:=⟨sJ x.v fr to,if sJ x.v fr to=ny then 0 else x.r,x.w⟩
def Tk.en (t:Tk):En:=⟨t.v,t.r,t.weight.toNat⟩
def Tk.put (t:Tk) (x:En):Tk:={t with v:=x.v,r:=x.r,weight:=x.w}
def aY.j4 (s:aY) (g c:Nat):En:=⟨(s.spot g c).v,(s.spot g c).r,(s.gs.getD g Gr.zero).weight.toNat⟩
structure bC where
 kind:Nat
 cpu:Int
 task:Int
 group:Int
 weight:Int
 to:Int
 ticks:Int
 mask:Nat
structure bC.Ok (x:bC):Prop where
 kind:x.kind<256
 cpu:aQ x.cpu
 task:aQ x.task
 group:aQ x.group
 weight:aQ x.weight
 to:aQ x.to
 ticks:aQ x.ticks
 mask:x.mask<18446744073709551616
def aY.jr (s:aY) (i:Nat) (t:Tk):aY:={s with ts:=s.ts.set i t}
def aY.uS (s:aY) (g c:Nat) (x:Sp):aY:={s with sp:=s.sp.set g ((s.sp.getD g []).set c x)}
def aY.uT (s:aY) (g c:Nat) (x:En):aY:=s.uS g c {s.spot g c with v:=x.v,r:=x.r}
def aY.eY (s:aY) (c:Int):Bool:=decide (0≤c∧c<s.ak)
def nZ (id:Int):Bool:=decide (1≤id∧id≤65535)
def qQ (s:aY) (c:Nat):Nat→Nat→List Nat
 |0,_=>[]
 |f+1,g=>if g=0 then [] else if (aO s g c).isEmpty then g::qQ s c f (s.par g).toNat else []
def kL (s:aY) (g c:Nat):List Nat:=qQ s c g g
def lG (c:Nat) (s:aY) (g:Nat):aY:=s.uT g c ((s.j4 g c).woken (s.spot (s.par g).toNat c).floor s.aj)
def gD (s:aY) (l:List Nat) (c:Nat):aY:=l.foldl (lG c) s
def gV (s:aY) (g c:Nat) (x:Sp):Sp:=if (aO s g c).isEmpty then x else {x with floor:=max x.floor (aJ bB (aO s g c)).v}
def fA (s:aY):aY:={s with sp:=s.sp.mapIdx λg l=>l.mapIdx λc x=>gV s g c x}
def wY (s:aY) (c:Nat):Nat→Nat→Nat
 |0,_=>0
 |f+1,g=>if (aO s g c).isEmpty then 0 else if (aJ bB (aO s g c)).k=0 then (aJ bB (aO s g c)).id else wY s c f (aJ bB (aO s g c)).id
def oK (s:aY) (c:Nat):Nat:=wY s c (abk s.sp) 0
def aI (s:aY) (c:Nat):Int:=(s.ts.map λt=>if t.ready&&decide (t.cpu=(c:Int)) then t.weight else (0:Int)).sum
def jd (m:Nat) (c:Int):Bool:=decide (m/2^c.toNat%2=1)
abbrev gW:=aY×Int×Nat
def xY (s:aY) (o:bC):gW:=
 if s.eY o.cpu=false then (s,0,300)
 else if nZ o.task=false then (s,0,301)
 else if ¬(0≤o.group∧o.group<abk s.sp) then (s,0,302)
 else if lV o.weight=false∨o.mask=0∨wX o.mask s.ak=true then (s,0,2)
 else if 0≤fidx s.ts o.task then (s,0,303)
 else if jd o.mask o.cpu=false then (s,0,305)
 else (gD {s with ts:=(s.ts.takeWhile λt=>decide (t.id≤o.task))++(⟨o.task,o.group,o.weight,o.cpu,o.mask,true,(s.spot o.group.toNat o.cpu.toNat).floor,0⟩::(s.ts.dropWhile λt=>decide (t.id≤o.task)))} (kL s o.group.toNat o.cpu.toNat) o.cpu.toNat,0,0)
def og (s:aY) (id:Int):Tk:=s.ts.getD (fidx s.ts id).toNat Tk.zero
def xZ (s:aY) (o:bC):gW:=
 if nZ o.task=false then (s,0,301)
 else if fidx s.ts o.task<0 then (s,0,6)
 else if (og s o.task).ready=true then (s,0,304)
 else
  let t:=og s o.task
  (gD (s.jr (fidx s.ts o.task).toNat {t.put (t.en.woken (s.spot t.group.toNat t.cpu.toNat).floor s.aj) with ready:=true}) (kL s t.group.toNat t.cpu.toNat) t.cpu.toNat,0,0)
def rD (s:aY) (o:bC):gW:=
 if s.eY o.cpu=false then (s,0,300)
 else if s.cu.getD o.cpu.toNat 0=0 then (s,0,6)
 else
  let id:=s.cu.getD o.cpu.toNat 0
  let i:=(fidx s.ts id).toNat
  let s1:={s with cu:=s.cu.set o.cpu.toNat 0,ts:=s.ts.set i {s.ts.getD i Tk.zero with ready:=false}}
  (if o.kind=4 then {s1 with ts:=s1.ts.eraseIdx i} else s1,id,0)
def o9 (c d:Nat):Nat→Nat→aY→aY
 |0,_,s=>s
 |f+1,g,s=>if g=0 then s else o9 c d f (s.par g).toNat (s.uT g c ((s.j4 g c).add d))
def jv (s:aY) (o:bC):gW:=
 if s.eY o.cpu=false then (s,0,300)
 else if ¬(1≤o.ticks∧o.ticks≤4294967295) then (s,0,2)
 else if 281474976710656<s.cl.getD o.cpu.toNat 0+o.ticks then (s,0,4)
 else
  let s1:={s with cl:=s.cl.set o.cpu.toNat (s.cl.getD o.cpu.toNat 0+o.ticks)}
  if s.cu.getD o.cpu.toNat 0=0 then (s1,0,0)
  else
   let id:=s.cu.getD o.cpu.toNat 0
   let t:=og s id
   (o9 o.cpu.toNat o.ticks.toNat t.group.toNat t.group.toNat (s1.jr (fidx s.ts id).toNat (t.put (t.en.add o.ticks.toNat))),id,0)
def kG (s:aY) (o:bC):gW:=
 if s.eY o.cpu=false then (s,0,300)
 else ({s with cu:=s.cu.set o.cpu.toNat (oK s o.cpu.toNat)},oK s o.cpu.toNat,0)
def yg (s:aY) (o:bC):gW:=
 if nZ o.task=false then (s,0,301)
 else if lV o.weight=false then (s,0,2)
 else if fidx s.ts o.task<0 then (s,0,6)
 else (s.jr (fidx s.ts o.task).toNat {og s o.task with r:=0,weight:=o.weight},0,0)
def yh (s:aY) (o:bC):gW:=
 if ¬(1≤o.group∧o.group<abk s.sp) then (s,0,302)
 else if lV o.weight=false then (s,0,2)
 else ({s with sp:=s.sp.set o.group.toNat ((s.sp.getD o.group.toNat []).map λx=>{x with r:=0}),gs:=s.gs.set o.group.toNat {s.gs.getD o.group.toNat Gr.zero with weight:=o.weight}},0,0)
def je (s:aY) (i:Nat) (to:Int):aY:=
 let t:=s.ts.getD i Tk.zero
 let s1:=s.jr i {t.put (t.en.moved (s.spot t.group.toNat t.cpu.toNat).floor (s.spot t.group.toNat to.toNat).floor) with cpu:=to}
 if t.ready then gD s1 (kL s t.group.toNat to.toNat) to.toNat else s1
def yj (s:aY) (o:bC):gW:=
 if s.eY o.to=false then (s,0,300)
 else if nZ o.task=false then (s,0,301)
 else if fidx s.ts o.task<0 then (s,0,6)
 else if o.task∈s.cu then (s,0,304)
 else if (og s o.task).cpu=o.to then (s,0,2)
 else if jd (og s o.task).mask o.to=false then (s,0,305)
 else (je s (fidx s.ts o.task).toNat o.to,0,0)
def iE (s:aY) (cpu:Int):Nat→Int×Int
 |0=>(-1,-1)
 |c+1=>if (c:Int)≠cpu∧(iE s cpu c).2<aI s c then ((c:Int),aI s c) else iE s cpu c
def sK (s:aY) (o:bC) (t:Tk):Bool:=t.ready&& (decide (t.cpu=(iE s o.cpu s.ak.toNat).1)&& (jd t.mask o.cpu&& (decide (s.cu.getD t.cpu.toNat 0≠t.id)&&decide (2*t.weight≤(iE s o.cpu s.ak.toNat).2-aI s o.cpu.toNat))))
def fV (s:aY) (o:bC):Nat→Option Nat
 |0=>none
 | n + 1 => if sK s o (s.ts.getD n Tk.zero) then match fV s o n with
   |none=>some n
   |some b=>if (s.ts.getD b Tk.zero).weight<(s.ts.getD n Tk.zero).weight then some n else some b
  else fV s o n
def uU (s:aY) (o:bC):gW:=
 if s.eY o.cpu=false then (s,0,300)
 else match fV s o (abk s.ts) with
  |none=>(s,0,6)
  |some b=>(je s b o.cpu,(s.ts.getD b Tk.zero).id,0)
def bY (s:aY) (o:bC):gW:=
 match o.kind with
 |1=>xY s o
 |2=>xZ s o
 |3=>rD s o
 |4=>rD s o
 |5=>jv s o
 |6=>kG s o
 |7=>yg s o
 |8=>yh s o
 |9=>yj s o
 |10=>uU s o
 |_=>(s,0,2)
def rE (s:aY) (o:bC):gW:=if (bY s o).2.2≠0 then (s,0,(bY s o).2.2) else (fA (bY s o).1,(bY s o).2.1,0)
def newS (ak:Int) (aj:Nat) (gs:List Gr):aY:=⟨ak,aj,gs,abB ak.toNat 0,abB ak.toNat 0,[],abB (abk gs) (abB ak.toNat Sp.zero)⟩
def xL (f y:Nat):List (Nat×Bool):=if y<128 then [] else iq (f-1) (y/128)
theorem q1x (a:0<f):iq f y=(y%128,decide (127<y))::xL f y:=by
 obtain ⟨k,rfl⟩:∃k,f=k+1:=⟨f-1,by omega⟩
 unfold xL
 by_cases h:y<128
 ·rw [CY k y h,if_pos h,decide_eq_false om,Nat.mod_eq_of_lt h]
 ·rw [CZ k y om,if_neg h,decide_eq_true om,aej]
theorem q79 (h:¬127<y):xL f y=[]:=if_pos om
theorem q1y (h:127<y):xL f y=iq (f-1) (y/128):=if_neg om
def q1z (h:y<128^f) (h1:127<y):y/128<128^ (f-1)∧0<f-1:=by
 rcases f with _|_|f
 ·rw [Nat.pow_zero] at h;omega
 ·rw [aco,Nat.pow_one] at h;omega
 ·rw [agR] at h
  exact ⟨by rw [aej];omega,by omega⟩
def VP (W:World) (b:Nat) (Inv:List (Nat×Bool)→List Fact→Prop):Prop:=
 ∀(g:Nat) (m:Bool) (t:List (Nat×Bool)) (F fr:List Fact) (w:World),g<128→Inv ((g,m)::t) F→Mem W w (F++fr)→
  YieldAt ace 0 abl b #[.int .u8 (g:Int),.bool m] w λe c=>∃a,Mem W c (a++fr)∧e= .returned (.bool true)∧Inv t a
def zek (W:World) (Inv:List (Nat×Bool)→List Fact→Prop) (r:Ending) (b:World):Prop:=∃v,r= .returned v∧∃a,Mem W b a∧Inv [] a
theorem qp8 {I:List Fact→Prop}:∀(e:Ending) (b:World),(∃a,Mem W b (a++fr)∧e= .returned (.bool true)∧I a)→∃v,e= .returned v
 |_,_,⟨_,_,h,_⟩=>⟨_,h⟩
def zH (W:World) (n:Nat) (ys:List Value) (x:Nat) (fr:List Fact) (r:Ending) (a:World):Prop:=
 ∃A c,r= .returned (.slice A (n+abk (au x)) c)∧n+abk (au x)≤c∧Mem W a (.row (.slice A (n+abk (au x)) c) (n+abk (au x)) (ys++(au x).map B8) 5 1::fr)
def q8a {ys:List Value} (hz:l++([]:List (Nat×Bool)).map bn=au x) (hc:n+abk l≤c) (a:Mem W w (.row (.slice A (n+abk l) c) (n+abk l) (ys++l.map B8) 5 1::fr)):zH W n ys x fr (.returned (.slice A (n+abk l) c)) w:=by
 rw [adp,abN] at hz
 subst hz
 exact ⟨A,c,rfl,hc,a⟩
def q14 (W w:World) (c d x:Nat) (u:x<18446744073709551616) (Inv:List (Nat×Bool)→List Fact→Prop) (l:List Fact) (hy:VP W d Inv) (n:Inv (iq 10 x) l) (b:Mem W w (.blk c #[vQ x] 41::l)):
    Calls abl 239 (.func (.yield d) #[] #[]:: [vP c 0]).toArray w (zek W Inv):=by
 refine qI Tryz.func239 [.func (.yield d) #[] #[],vP c 0] [(0,.func (.yield d) #[] #[]),(1,vP c 0)] λa Z=>?_
 refine Jb Z b ((JB) λa Z b=>?_)
 refine qg (λs z A=>∃(f:Nat) (y:Nat) (F:List Fact),(0<f)∧(y<128^f)∧(y<18446744073709551616)∧(Inv (iq f y) F)∧s=0+y∧Fr z 16 [] [(0,.func (.yield d) #[] #[]),(1,vP c 0)]∧Mem W A (.blk c #[vQ y] 41::F)) (m:=0+x) ⟨10,x,l,de,om,u,n,rfl,Z.sub kr,b.pt 1 [0]⟩ ?_
 clear Z b;rintro s a D ⟨f,y,F,B,e,g,C,rfl,Z,b⟩
 refine Jb Z b ((JQ) λa Z b=>?_)
 refine wp_seq ?_
 refine NV (i:=6) ?_
 refine Jb Z b ((Jp 1∘Jc O0∘Jp 1∘Jo (vQ (y%128:Nat)) (by exact congrArg _ (zib y g))∘Jv 1 [(6,vB (IntKind.u8.wrap ((y%128:Nat):Int)))]∘Jo (vB (y%128:Nat)) (by exact congrArg _ (zic _ om))∘Jc O0∘Jp 1∘Jo (.bool (decide (127<y))) (by exact congrArg abS (decide_eq_decide.2 om))∘Jq) λa Z b=>?_)
 refine wQ Z (i:=6) (vs:=[vB (y%128:Nat),.bool (decide (127<y))]) rfl rfl rfl rfl rfl rfl de (hy _ _ _ F _ _ (adA _ de) (by rw [←q1x B];exact C) (aai (F:=[.blk c #[vQ y] 41]) b)) qp8 ?_
 clear Z b;rintro v o a ⟨p,b,r,h⟩ Z;injection r with r;subst r
 replace b:Mem W o (.blk c #[vQ y] 41::p):=aai (es:=[.blk c #[vQ y] 41]) b
 refine Jb Z b ((Jp 1∘Jc O0∘Jp 2∘aF∘Jq) (Ji (λk=>?_) λk=>?_))
 ·
  refine (JT∘aD∘JB∘JR∘Jc O0∘Jp 1∘Jo (vQ (y/128:Nat)) (by exact tC .u64 y (j:=7) (q:=128) rfl rfl)∘JW aU aU) λt=>(mM∘Jq) λa Z b=>?_
  exact ⟨_,om,(f-1),(y/128),p,(q1z e om).2,(q1z e om).1,by omega,by rw [←q1y om];exact h,rfl,Z.sub kr,b.pt 1 [0]⟩
 refine (JF∘JX) λa Z b=>?_
 exact gQ rfl Z (⟨_,rfl,p,aap [.blk c #[vQ y] 41] b,by rw [←q79 (f:=f) (y:=y) om];exact h⟩)
def q8c (x:Nat) (w:World):
    Calls abl 168 #[vQ x] w λr a=>∃g,r= .returned (.func (.func 239) #[] #[vP g 0])∧Mem w a [.blk g #[vQ x] 41]:=by
 refine (dY Tryz.func168 4) ?_
 exact (JP∘Bf) λd b=>(Jp 1∘Jr∘Jy (h:=by exact Yl.makeFunc (fst:=[]) (caps:=[vP b 0]) rfl rfl rfl)∘Jp 1∘aK∘Jj∘JZ∘aZ) λc=>by exact ⟨_,rfl,c⟩
def V4 (W w:World) (x:Nat) (M:x<18446744073709551616) (A:Option Addr) (n c:Nat) (ys:List Value) (fr:List Fact) (V:n≤100000000000) (hc:n≤c) (d:Mem W w (.row (.slice A n c) n ys 5 1::fr)):
    Calls abl 109 #[.slice A n c,vQ x] w (zH W n ys x fr):=by
 refine Kz (vs:=[.slice A n c,vQ x]) Tryz.func109 rfl rfl kr (σ0:=[(0,.slice A n c),(1,vQ x)]) rfl ?_
 intro a Z
 refine Jb Z d ((JP∘Bf) λN s=>(Jp 1∘Jj∘JQ∘JP∘Jp 1∘JL (h:=by exact λd=>q8c x _)) ?_)
 rintro d _ X ⟨O,rfl,hm⟩
 refine ⟨_,rfl,_,d.join hm,?_⟩
 refine (aK∘Jq∘JC (h:=by exact λd=>d.aT (i:=2) (ys:=ys++([]:List Nat).map B8) rfl rfl (by rw [adp,abN]))∘JG∘JB) λa Z d=>?_
 refine Ky Z d (λF=>∃(b:List Nat) (l:Option Addr) (j:Nat),(b++(([]:List (Nat×Bool))).map bn=au x)∧(n+abk b≤j)∧F=(.blk s #[.slice l (n+abk b) j] 30:: .row (.slice l (n+abk b) j) (n+abk b) (ys++b.map B8) 5 1::fr)) (λ_ _=>False) rfl kr ?_ ?_ ?_
 ·
  clear Z d;intro z y o P E d
  have Q:VP W z (λG F=>∃(b:List Nat) (l:Option Addr) (j:Nat),(b++(G).map bn=au x)∧(n+abk b≤j)∧F=(.obj z (.loop (o .ready none)):: .obj y (.deferred (some []))::(.blk s #[.slice l (n+abk b) j] 30:: .row (.slice l (n+abk b) j) (n+abk b) (ys++b.map B8) 5 1::fr))):=by
   rintro q m t F p R S ⟨b,l,j,hz,C,rfl⟩ d
   have T:abk b≤10:=by have h:=congrArg List.length hz;rw [abm] at h;have:=AO x;omega
   replace d:Mem W R (.obj z (.loop (o .ready none)):: .obj y (.deferred (some [])):: .blk s #[.slice l (n+abk b) j] 30:: .row (.slice l (n+abk b) j) (n+abk b) (ys++b.map B8) 5 1::(fr++(p))):=(by simpa only [aev,abz,ade] using d)
   refine NS (v1:=vB q) (v2:= .bool m) E d de de λa Z=>?_
   refine wpIn_seq ?_
   refine qz ?_
   refine Jb Z d ((Jp 1∘Jq) λa Z d=>?_)
   refine qz ?_
   refine Jb Z d ((Jp 1∘Jq) λa Z d=>?_)
   refine ⟨(.obj y (.deferred (some [])):: .blk s #[.slice l (n+abk b) j] 30:: .row (.slice l (n+abk b) j) (n+abk b) (ys++b.map B8) 5 1::(fr++(p))),d.pt (fs':=(.obj z (.loop (o .ready none)):: .obj y (.deferred (some [])):: .blk s #[.slice l (n+abk b) j] 30:: .row (.slice l (n+abk b) j) (n+abk b) (ys++b.map B8) 5 1::(fr++(p)))) 4 [0,1,2,3],λY d=>?_⟩
   refine wpIn_block ?_
   refine wpIn_seq ?_
   refine wpIn_seq ?_
   refine qz ?_
   refine Jb Z d ((Jp 1∘Jq) (Ju (λu=>?_) λu=>?_))
   ·
    intro a Z d
    have D:bn (q,m)=q+128:=by rw [u];rfl
    refine VB Z rfl ?_
    refine qz ?_
    refine Jb Z d ((Jp 2∘Jo (vB (q+128:Nat)) (by exact congrArg _ (Eo q S))∘Jp 1∘bG∘Jq) λa Z d=>?_)
    refine qz ?_
    refine Jb Z d ((Jc O2∘Jp 1∘JU aX #[vB (q+128:Nat)]) λI J=>(JD [B8 (bn (q,m))] 4 (λ_ _=>sF) aX (hr:=by exact λd=>(by rw [D];exact d.aW (i:=0) (n:=1) (size:=1) rfl rfl)) (h1:=by exact sj [bn (q,m)])) λK e f k=>(JW qJ aU) λH=>(wT∘Jq) λa Z d=>?_)
    have g:(n+abk b)+1=(n+abk (b++[bn (q,m)])):=by rw [abm];rfl
    rw [g] at k
    replace d:=d.aT (i:=4) (ys:=(ys++(b++[bn (q,m)]).map B8)) rfl g (by rw [abP,abz];rfl)
    replace d:=d.dO (i:=3) (ds:= #[.slice e (n+abk (b++[bn (q,m)])) f]) rfl (by rw [g])
    refine ⟨(.obj y (.deferred (some [])):: .blk s #[.slice e (n+abk (b++[bn (q,m)])) f] 30:: .row (.slice e (n+abk (b++[bn (q,m)])) f) (n+abk (b++[bn (q,m)])) (ys++(b++[bn (q,m)]).map B8) 5 1::(fr++(p))),d.pt (fs':=(.obj z (.loop (o .busy none)):: .obj y (.deferred (some [])):: .blk s #[.slice e (n+abk (b++[bn (q,m)])) f] 30:: .row (.slice e (n+abk (b++[bn (q,m)])) f) (n+abk (b++[bn (q,m)])) (ys++(b++[bn (q,m)]).map B8) 5 1::(fr++(p)))) 5 [1,2,3,4],λU d=>?_⟩
    exact ⟨(.obj z (.loop (o .ready none)):: .obj y (.deferred (some [])):: .blk s #[.slice e (n+abk (b++[bn (q,m)])) f] 30:: .row (.slice e (n+abk (b++[bn (q,m)])) f) (n+abk (b++[bn (q,m)])) (ys++(b++[bn (q,m)]).map B8) 5 1::fr),(by simpa only [aev,abz,ade] using d),rfl,(b++[bn (q,m)]),e,f,by rw [abz];exact hz,k,rfl⟩
   intro a Z d
   have D:bn (q,m)=q:=by rw [u];rfl
   refine VD Z rfl ?_
   refine wpIn_skip ?_
   refine qz ?_
   refine Jb Z d ((Jc O2∘Jp 1∘JU aX #[vB q]) λI J=>(JD [B8 (bn (q,m))] 4 (λ_ _=>sF) aX (hr:=by exact λd=>(by rw [D];exact d.aW (i:=0) (n:=1) (size:=1) rfl rfl)) (h1:=by exact sj [bn (q,m)])) λK e f k=>(JW qJ aU) λH=>(wT∘Jq) λa Z d=>?_)
   have g:(n+abk b)+1=(n+abk (b++[bn (q,m)])):=by rw [abm];rfl
   rw [g] at k
   replace d:=d.aT (i:=4) (ys:=(ys++(b++[bn (q,m)]).map B8)) rfl g (by rw [abP,abz];rfl)
   replace d:=d.dO (i:=3) (ds:= #[.slice e (n+abk (b++[bn (q,m)])) f]) rfl (by rw [g])
   refine ⟨(.obj y (.deferred (some [])):: .blk s #[.slice e (n+abk (b++[bn (q,m)])) f] 30:: .row (.slice e (n+abk (b++[bn (q,m)])) f) (n+abk (b++[bn (q,m)])) (ys++(b++[bn (q,m)]).map B8) 5 1::(fr++(p))),d.pt (fs':=(.obj z (.loop (o .busy none)):: .obj y (.deferred (some [])):: .blk s #[.slice e (n+abk (b++[bn (q,m)])) f] 30:: .row (.slice e (n+abk (b++[bn (q,m)])) f) (n+abk (b++[bn (q,m)])) (ys++(b++[bn (q,m)]).map B8) 5 1::(fr++(p)))) 5 [1,2,3,4],λU d=>?_⟩
   exact ⟨(.obj z (.loop (o .ready none)):: .obj y (.deferred (some [])):: .blk s #[.slice e (n+abk (b++[bn (q,m)])) f] 30:: .row (.slice e (n+abk (b++[bn (q,m)])) f) (n+abk (b++[bn (q,m)])) (ys++(b++[bn (q,m)]).map B8) 5 1::fr),(by simpa only [aev,abz,ade] using d),rfl,(b++[bn (q,m)]),e,f,by rw [abz];exact hz,k,rfl⟩
  refine (q14 W P O z x M _ _ Q ⟨[],A,c,rfl,hc,rfl⟩ (d.pt 5 [2,0,1,3,4])).mono ?_
  rintro r N ⟨v,rfl,F2,L,⟨b,l,j,hz,C,rfl⟩⟩
  exact ⟨v,rfl,.inl ⟨_,⟨b,l,j,hz,C,rfl⟩,L⟩⟩
 ·
  clear Z d;rintro B a w6 _ ⟨b,l,j,hz,C,rfl⟩ Z d
  refine Jb Z d ((JG∘JP∘Jc O1∘Jp 1∘aK∘Jj∘JZ) λa Z d=>?_)
  refine EO Z d (i:=0) rfl λa w7 Z d=>?_
  exact kZ rfl Z rfl (q8a hz C (d.pt (fs':=(.row (.slice l (n+abk b) j) (n+abk b) (ys++b.map B8) 5 1::fr)) 3 [2]))
 exact λ_ _ _ _ _ h=>h.elim
def q8d (A:Option Addr) (c:Nat) (b:List Nat) (w:World) (hr:Rd w w.heap.size 1 A (abk b) (b.map bq)) (s:∀x∈b,x<18446744073709551616) (E:abk b≤1000000000):
    Calls abl 49 #[.slice A (abk b) c] w (ru w (b.flatMap au)):=by
 refine (dY Tryz.func49 17) ?_
 refine (JP∘Jp 1∘Jr∘Jp 1∘Jj∘JQ∘JP∘Jp 1∘Jl∘Jp 1∘Jq∘JC (h:=by exact λd=>d.nil 5 1)∘JG∘JB) λa Z d=>?_
 refine qg (λv y z=>∃(k:Nat) (n:Option Addr) (g:Nat),(k≤abk b)∧(abk ((b.take k).flatMap au)≤g)∧v=abk b-k∧Fr y 17 [] [(8,vI k),(7,vI (abk b)),(6,abg A b c),(3,abg n ((b.take k).flatMap au) g),(2,vN)]∧Mem w z [abh n ((b.take k).flatMap au) g B8 5 1]) (m:=abk b-0) ⟨0,none,0,abx _,abo _,rfl,Z.sub kr,d.pk [0]⟩ ?_
 clear Z d;rintro v a F ⟨k,n,g,G,o,rfl,Z,d⟩
 refine Jb Z d ((JP∘Jp 1∘Jj∘JQ) (Ji (λt=>?_) λt=>?_))
 ·
  have j:k<abk b:=by omega
  have B:=s _ (qe 0 j)
  have u:=zm (b.take k)
  rw [abu] at u
  have C:=AO (b.getD k 0)
  have p:(b.take (k+1)).flatMap au=(b.take k).flatMap au++au (b.getD k 0):=by rw [adX,getD_at 0 j,abO];simp
  refine (JT∘aD∘JQ∘JB∘JP) ?_
  obtain ⟨gA,H,rfl,_⟩:=hr.sat k
  refine (gZ k 1∘Jy (h:=by exact aad hr k 0 j rfl rfl)∘Jp 1∘bG∘Jj∘JR∘Jp 2∘JL (h:=by exact λd=>V4 w _ (b.getD k 0) B n (abk ((b.take k).flatMap au)) g (((b.take k).flatMap au).map B8) _ om o (d.pk (fs':=[abh n ((b.take k).flatMap au) g B8 5 1]) [0]))) ?_
  rintro d _ D ⟨q,r,rfl,f,hm⟩
  refine ⟨_,rfl,_,hm,?_⟩
  refine (Jp 1∘dU∘Jq) ?_
  have e:(abk ((b.take k).flatMap au)+abk (au (b.getD k 0)))=abk ((b.take (k+1)).flatMap au):=by rw [p,abm]
  rw [e] at f
  refine (JC (h:=by exact λd=>d.aT (i:=0) (ys:=((b.take (k+1)).flatMap au).map B8) rfl e (by rw [p,abP]))∘Jk 3 (.slice q (abk ((b.take (k+1)).flatMap au)) r) (h:=by exact gF e)∘JG∘JR∘cK 1∘Jp 1∘aK∘Jq) λa Z d=>?_
  exact ⟨_,om,k+1,q,r,by omega,f,rfl,Z.sub kr,d.pk [0]⟩
 have l:b.take k=b:=abI om
 exact (JF∘JX∘JG∘JP∘Jp 2∘aK∘Jj∘JZ∘aZ) λd=>by exact ⟨⟨n,g,by rw [l],by have h:=d.own (i:=0) rfl;rw [l] at h;exact h,by rw [←l];exact o⟩,d.below⟩
def qyc (b:x<18446744073709551616):Calls abl 109 #[vN,vQ x] w (ru w (au x)):=
 (V4 w w x b none 0 0 [] [] (abx _) (abo _) ((Mem.start w).nil 5 1)).mono λr d ⟨A, c, h1, h2, a⟩ => by
  rw [aco,ade] at a
  rw [aco] at h1 h2
  exact ⟨⟨A,c,h1,a.own (i:=0) rfl,h2⟩,a.below⟩
def KF (A:Option Addr) (n c:Nat) (a:List Nat) (w:World) (hr:Rd w w.heap.size 1 A n (a.map bq)) (b:∀x∈a,x<18446744073709551616) (d:n≤1000000000):Calls abl 49 #[.slice A n c] w (ru w (a.flatMap au)):=by
 obtain rfl:n=abk a:=by have h:=hr.len;rw [abv,ac5] at h;exact h.symm
 exact q8d A c a w hr b d
def qnd:∀(k:Nat) (l xs:List Nat) (u x m:Nat),bD k l=(xs,u,0)→aB (l.drop u)=(x,m,0)→bD (k+1) l=(xs++[x],u+m,0)
 |0,l,xs,u,x,m,h,h2=>by
  simp only [bD,Prod.mk.injEq] at h
  obtain ⟨rfl,rfl,_⟩:=h
  rw [List.drop_zero] at h2
  simp [bD,h2]
 | k + 1, l, xs, u, x, m, h, h2 => by
  rw [bD] at h
  split at h
  ·rename_i h1;simp at h;exact absurd h.2.2 h1
  ·rename_i h1
   split at h
   ·rename_i h3;simp at h;exact absurd h.2.2 h3
   ·rename_i h3
    simp only [Prod.mk.injEq] at h
    obtain ⟨rfl,rfl,_⟩:=h
    have a:bD k (l.drop (aB l).2.1)=((bD k (l.drop (aB l).2.1)).1,(bD k (l.drop (aB l).2.1)).2.1,0):=by
     rw [←show (bD k (l.drop (aB l).2.1)).2.2=0 by omega]
    have h4:=qnd k _ _ _ x m a (by rwa [ac3])
    rw [bD,if_neg h1,h4,if_neg (by simp)]
    simp [Nat.add_assoc]
def quj:∀(k j:Nat) (l xs:List Nat) (u:Nat),bD k l=(xs,u,0)→(aB (l.drop u)).2.2≠0→(bD (k+1+j) l).2.2≠0:=by intro x;induction x<;>grind [bD,aB,ac3,Prod.mk.injEq]
def zav:∀(k:Nat) (l xs:List Nat) (u:Nat),bD k l=(xs,u,0)→abk xs=k∧k≤u∧u≤abk l:=by intro x;induction x<;>grind [bD,aB,y8,UL]
theorem wV:SI abl 73 11:=⟨by kernel_rfl,by kernel_rfl⟩
section
variable {e:Ev} {vs:List Nat}
end
def zin (w:World) (er:Nat) (R:List Nat) (r:Ending) (w':World):Prop:=
 (∃A c,r= .returned (.tuple #[.slice A (abk R) c,.int .i64 (er:Int)])∧w'.ownsRow w.heap.size 41 1 (.slice A (abk R) c) (abk R) (R.map bq)∧abk R≤c)∧Below w.heap.size w w'
section
variable {b:Bs} {e:Ev} {w w':World} {v:Bool}
def KG (hb:Below w.heap.size w w') (h:v=true↔(1≤b.seq∧b.seq≤281474976710656∧0≤b.time∧b.time≤281474976710656)):Is w (.bool b.right) (.returned (.bool v)) w':=by
 refine ⟨?_,hb⟩
 unfold Bs.right
 rw [show v=decide _ from (acg.2 (h.trans decide_eq_true_iff.symm))]
def V5 (hb:Below w.heap.size w w') (h:v=true↔(b.seq≤e.seq∧b.time≤e.time)):Is w (.bool (b.behind e)) (.returned (.bool v)) w':=by
 refine ⟨?_,hb⟩
 unfold Bs.behind
 rw [show v=decide _ from (acg.2 (h.trans decide_eq_true_iff.symm))]
end
def q8e (e:Ev) (d:e.Ok) (B:Nat) (w:World) (f:Laid B w) (g:B≤w.heap.size) {er:Nat} {R:List Nat} (h1:e.check=er) (h2:e.tq=R):Calls abl 286 #[.agg e.cells] w (zin w er R):=by
 subst h1 h2
 refine (qx4 e d B w f g).mono λr w' ⟨⟨v,h,a⟩,i⟩=>?_
 obtain ⟨A,c,rfl,hc⟩:=Dg a
 exact ⟨⟨A,c,h,a,hc⟩,i⟩
theorem q15 (e:Ev) (a:e.Ok) (B:Nat) (w:World) (c:Laid B w) (d:B≤w.heap.size):Calls abl 243 #[.agg e.cells] w (Is w (.int .i64 (e.check:Int))):=UD e a B w c d
theorem q8f (e:Ev):abk e.tq≤4:=by grind [Ev.tq,Ev.vals,Es]
def zel {b:Bs} (h:e.check=er) (h0:er≠0):mV b e=er∧tu b e=[]:=by grind [mV,tu]
def V6 {b:Bs} (h:e.check=0) (h2:¬(b.right=true∧b.behind e=true)):mV b e=70∧tu b e=[]:=by grind [mV,tu]
theorem zem {b:Bs} (h:e.check=0) (h1:b.right=true) (h2:b.behind e=true):mV b e=0∧tu b e=oF b e:=by grind [mV,tu]
def EX {n:Int} (h:er=sH∧R=[]) (a:n=sH) (hb:Below w.heap.size w w'):zf w er R (.returned (.tuple #[.slice none 0 0,.int .i64 n])) w':=by
 obtain ⟨rfl,rfl⟩:=h
 subst a
 exact ⟨⟨none,0,rfl,acQ _ _ _ _,abo _⟩,hb⟩
def V7 (h:er=0∧R=L) (a:w'.ownsRow w.heap.size 5 1 (.slice A (abk L) c) (abk L) (L.map B8)) (hc:abk L≤c) (hb:Below w.heap.size w w'):zf w er R (.returned (.tuple #[.slice A (abk L) c,.int .i64 0])) w':=by
 obtain ⟨rfl,rfl⟩:=h
 exact ⟨⟨A,c,rfl,a,hc⟩,hb⟩
theorem q8g (l:List Nat):∀u∈l.map bq,u.oneCell'=true:=by
 intro u a
 obtain ⟨x,_,rfl⟩:=acd.1 a
 rfl
theorem V8 {x:Int} (h:0≤x∧x<9223372036854775808) (a:x.toNat=n):abJ .u64 (IntKind.u64.wrap x)= .int .u64 (n:Int):=by rw [aeL];congr 1;omega
def q8h {b:Bs} {vs:List Nat} (c:e.Ok) (h:e.check=0) (d:e.tq=vs) (h1:b.right=true) (h2:b.behind e=true):(0≤e.seq-b.seq∧e.seq-b.seq<9223372036854775808)∧(0≤e.time-b.time∧e.time-b.time<9223372036854775808)∧(∀x∈(e.seq-b.seq).toNat::(e.time-b.time).toNat::vs,x<18446744073709551616)∧oF b e=[e.kind]++((e.seq-b.seq).toNat::(e.time-b.time).toNat::vs).flatMap au:=by
 have h3:=AP h
 have h4:=of_decide_eq_true h1
 have h5:=of_decide_eq_true h2
 have:=c.seq.2
 have:=c.time.2
 refine ⟨by omega,by omega,λx a=>?_,?_⟩
 ·rcases abQ.1 a with rfl|a
  ·omega
  rcases abQ.1 a with rfl|a
  ·omega
  rw [←d] at a
  unfold Ev.tq at a
  rw [if_pos h] at a
  obtain ⟨i,hi,rfl⟩:=acd.1 a
  have k:=UF c h hi
  unfold Ev.num at k
  rw [aeL] at k
  omega
 ·unfold oF y7
  rw [←d]
  unfold Ev.tq
  rw [if_pos h]
  rfl
def zen {b:Bs} {S:List Nat} {A:Prop} {B:Prop} {C:Prop} (h:e.check=x) (h0:x=0) (hb:b.right=true∧b.behind e=true) (c:A∧B∧C∧oF b e=[e.kind]++S.flatMap au) (a:S.flatMap au=l):mV b e=0∧tu b e=e.kind::l:=by grind [zem]
def V9 {S:List Nat} (hr:Rd w w.heap.size 1 A (abk l) (l.map bq)) (d:∀x∈l,x<18446744073709551616) (f:abk l≤6) (a:l.flatMap au=S):Calls abl 49 #[.slice A (abk l) c] w (ru w S):=by
 subst a
 exact KF A (abk l) c _ w hr d om
def zeo {l:List Ev} {p:Option Ev} (hk:k=abk l):gP p k (l.drop k)=(-1,0):=by
 rw [adq om]
 rfl
def row_step {l:List Ev} {p:Option Ev} (hk:k<abk l) (a:l.getD k Ev.zero=e):gP p k (l.drop k)=if e.check≠0 then ((k:Int),e.check) else if p.all (λq=>e.after q)=false then ((k:Int),71) else gP (some e) (k+1) (l.drop (k+1)):=by grind [gP,acu,abt]
def j3 (l:List Ev) (k:Nat):Option Ev:=if k=0 then none else some (l.getD (k-1) Ev.zero)
theorem q8i {l:List Ev} (a:l.getD k Ev.zero=e):j3 l (k+1)=some e:=by grind [j3]
theorem q8j {l:List Ev} {q:Ev} (h0:0<k) (a:l.getD (k-1) Ev.zero=q) (h:¬(e.cpu=q.cpu∧q.seq<e.seq∧q.time≤e.time)):(j3 l k).all (λq=>e.after q)=false:=by
 unfold j3;rw [if_neg om,a];exact decide_eq_false h
theorem q16 {l:List Ev} {q:Ev} (c:l.getD (k-1) Ev.zero=q) (h:k=0∨(e.cpu=q.cpu∧q.seq<e.seq∧q.time≤e.time)):(j3 l k).all (λq=>e.after q)=true:=by
 unfold j3
 by_cases a:k=0
 ·rw [if_pos a];rfl
 ·rw [if_neg a,c];exact decide_eq_true (h.resolve_left a)
def KH {l:List Ev} {q:Ev} {v:Bool} (a:l.getD (k-1) Ev.zero=q) (h:v=true↔¬(k=0∨(e.cpu=q.cpu∧q.seq<e.seq∧q.time≤e.time))):abS v= .bool (!(j3 l k).all λq=>e.after q):=by grind [q8j,q16]
def Og (h:0<k) (hk:k≤140737488355328):abJ .i64 (IntKind.i64.wrap ((k:Int)-1))= .int .i64 ((k-1:Nat):Int):=by rw [IntKind.wrap_i64];congr 1;omega
def Oh {R:Int×Nat} {v n:Int} (h:R=(v,m)) (a:n=(m:Int)) (hb:Below w.heap.size w w'):Is w (.tuple #[.int .i64 R.1,.int .i64 (R.2:Int)]) (.returned (.tuple #[.int .i64 v,.int .i64 n])) w':=by
 subst h a
 exact ⟨rfl,hb⟩
def Bg {b:Bs} {l:List Ev} {v:Bool} (h:v=true↔¬(b.right=true∧(0<abk l→b.behind (l.getD 0 Ev.zero)=true))):abS v= .bool (!(b.right&&l.head?.all b.behind)):=by
 have e:l.head?.all b.behind=true↔(0<abk l→b.behind (l.getD 0 Ev.zero)=true):=by
  cases l with
  |nil=>exact ⟨λ_ h=>absurd h (Nat.lt_irrefl 0),λ_=>rfl⟩
  |cons x r=>exact ⟨λh _=>h,λh=>h (Nat.succ_pos _)⟩
 rw [←e,←abC] at h
 by_cases a:(b.right&&l.head?.all b.behind)=true
 ·rw [a,show v=false from (agq _).mp λc=>h.1 c a];rfl
 ·rw [(agq _).mp a,h.2 a];rfl
def qyd {b:Bs} {l:List Ev} {f:Int} (h:gI l=(f,c)) (h0:c≠0):zq b l=c∧qZ b l=[]:=by grind [zq,qZ]
def qs3 {b:Bs} {l:List Ev} {f:Int} (h:gI l=(f,c)) (h0:c=0) (h1:¬(b.right&&l.head?.all b.behind)=true):zq b l=70∧qZ b l=[]:=by grind [zq,qZ]
def qye {b:Bs} {l:List Ev} {f:Int} {pre:List Nat} {a:Bs} (h:gI l=(f,c)) (h0:c=0) (h1:(b.right&&l.head?.all b.behind)=true) (hr:recs b l=pre++recs a (l.drop k)) (hk:abk l≤k):zq b l=0∧qZ b l=pre:=by
 rw [abC] at h1
 have e:zq b l=0:=by unfold zq;rw [h,if_neg om,if_pos h1]
 exact ⟨e,by unfold qZ;rw [if_pos e,hr,adq hk];exact abN pre⟩
def q17 {b a:Bs} {l:List Ev} {f:Int} (h:gI l=(f,c)) (h0:c=0) (h1:(b.right&&l.head?.all b.behind)=true) (hk:k<abk l) (hb:a=AU b l k) (d:l.getD k Ev.zero=e):mV a e=0∧recs a (l.drop k)=oF a e++recs e.at (l.drop (k+1))∧e.at=AU b l (k+1)∧abk (oF a e)≤61:=by
 rw [abC] at h1
 have e1:l[k]=e:=by rw [←d,abn,abt hk];rfl
 have p:=UR (by rw [h];exact h0) h1.1 h1.2 k hk
 rw [←hb,e1] at p
 refine ⟨p,by rw [acu hk,recs,e1],?_,zed _ _⟩
 show _=(match l[k]? with|some e=>e.at|none=>b)
 rw [abt hk,e1]
def zio (e:Ev) (w:World):Calls abl 275 #[.agg e.cells] w (Is w (.agg e.at.cells)):=by
 refine (dY Tryz.func275 8) ?_
 refine (JP∘JE) λd f=>(JA #[vI 0,vI 0]) λg h=>(Jr∘Jg 0 O1∘Jg 1 O1∘eH #[vI e.seq,vI e.time]∘JV jO aU) λb=>(oI∘Jj∘JZ) λa Z c=>?_
 exact iy rfl Z (.cellS (i:=0) Z c rfl rfl jO rfl) (⟨rfl,c.below⟩)
def Wd (b:Bs) (w:World):Calls abl 273 #[.agg b.cells] w (Is w (.bool b.right)):=by
 refine (dY Tryz.func273 21) ?_
 refine (JP∘JE) λf g=>(Jp 1∘Jr∘Jg 0 O0∘Jp 2) (Ji (λe=>?_) λe=>?_)
 ·
  refine (Jg 0 O0∘Jp 3) (Ji (λc=>?_) λc=>?_)
  ·
   refine (Jg 1 O0∘Jp 3) (Ji (λd=>?_) λd=>?_)
   ·
    exact (Jg 1 O0∘Jp 3∘aF∘Jj∘JZ∘aZ) λa=>KG a.below (by simp;omega)
   exact (Jp 5∘aF∘Jj∘JZ∘aZ) λa=>KG a.below (by simp;omega)
  exact (Jv 10 [(2,.bool false)]∘aF∘Jj∘JZ∘aZ) λa=>KG a.below (by simp;omega)
 exact (Jv 15 [(2,.bool false)]∘dU∘Jj∘JZ∘aZ) λa=>KG a.below (by simp;omega)
def Wh (b:Bs) (e:Ev) (w:World):Calls abl 274 #[.agg b.cells,.agg e.cells] w (Is w (.bool (b.behind e))):=by
 refine (iX Tryz.func274 17) ?_
 refine (JP∘JE) λd f=>(JE) λg h=>(Jp 1∘Jr∘Jg 0 O0∘Jg 0 O1∘Jp 2) (Ji (λa=>?_) λa=>?_)
 ·
  exact (Jg 1 O0∘Jg 1 O1∘Jp 3∘aF∘Jj∘JZ∘aZ) λc=>V5 c.below (by simp;omega)
 exact (Jp 7∘aF∘Jj∘JZ∘aZ) λc=>V5 c.below (by simp;omega)
def q8k (b:Bs) (e:Ev) (S:e.Ok) (B:Nat) (w:World) (W:Laid B w) (T:B≤w.heap.size):Calls abl 244 #[.agg b.cells,.agg e.cells] w (zf w (mV b e) (tu b e)):=by
 refine (iX Tryz.func244 47) ?_
 refine (JP∘JE) λw2 U=>(JE) λw3 V=>(Jp 2∘Jq) ?_
 obtain ⟨N,y⟩:∃N,e.check=N:=⟨_,rfl⟩
 obtain ⟨m,z⟩:∃m,e.tq=m:=⟨_,rfl⟩
 have X:abk m≤4:=by rw [←z];exact q8f e
 refine (JG∘JP∘eF wV O0∘JK (h:=by exact λc=>q8e e S B _ (W.mem c T) (c.le T) y z)) λY cv wW hcv=>(Jp 1∘Jx∘Jx∘Jp 2∘Jj∘JQ∘JP∘Jp 2∘aK∘Jj) (Jh (λG=>?_) λG=>?_)
 ·
  exact (JT∘JP∘Jp 3∘Jj∘JZ∘bH) λc=>EX (zel y om) rfl c.below
 refine (JF∘aD∘JQ∘JP∘eF jO O2∘JI (h:=by exact λc=>Wd b _)) λDn O=>(Jp 2) (Ju (λH=>?_) λH=>?_)
 ·
  exact (Jp 5∘aF∘Jj∘JT∘JP∘Jp 2∘Jj∘JZ∘bH) λc=>EX (V6 om (by simp_all)) rfl c.below
 refine (eF jO O2∘eF wV O1∘JI (h:=by exact λc=>Wh b e _)) λKI O=>(Jp 2∘aF∘Jj) (Ju (λI=>?_) λI=>?_)
 ·
  exact (JT∘JP∘Jp 2∘Jj∘JZ∘bH) λc=>EX (V6 om (by simp_all)) rfl c.below
 have A:b.right=true∧b.behind e=true:=by simp_all
 have p:=q8h S om z A.1 A.2
 obtain ⟨q,J⟩:∃x,(e.seq-b.seq).toNat=x:=⟨_,rfl⟩
 obtain ⟨r,K⟩:∃x,(e.time-b.time).toNat=x:=⟨_,rfl⟩
 rw [J,K] at p
 obtain ⟨j,t⟩:∃j,(q::r::m).flatMap au=j:=⟨_,rfl⟩
 have hbl:abk j≤60:=by rw [←t];have:=zm (q::r::m);simp only [abX] at this;omega
 refine (JF∘aD∘JP∘Jg 0 O1∘Jg 0 O2∘Jp 1∘Jo (vI (e.seq-b.seq)) (by exact oH ⟨by omega,by omega⟩)∘Jv 1 [(31,vQ (IntKind.u64.wrap (e.seq-b.seq)))]∘Jo (vQ q) (by exact V8 p.1 J)∘Jg 1 O1∘Jg 1 O2∘Jp 1∘Jo (vI (e.time-b.time)) (by exact oH ⟨by omega,by omega⟩)∘Jv 1 [(37,vQ (IntKind.u64.wrap (e.time-b.time)))]∘Jo (vQ r) (by exact V8 p.2.1 K)∘JU kP #[vQ q,vQ r]) λKJ g38=>(Jp 1∘JC (h:=by exact λc=>c.eB (i:=0) (n:=2) (size:=1) rfl rfl de)∘JD (m.map bq) 0 (λ_ _=>aU) kP (hr:=by exact λc=>c.rd (i:=1) rfl) (h1:=by exact q8g _)) λw40 C D M=>(Jp 1∘aF∘Jq) ?_
 have o:(2+abk m)=abk (q::r::m):=aeB 2 _
 rw [o] at M
 refine (JC (h:=by exact λc=>c.aT (i:=0) (ys:=(q::r::m).map bq) rfl o (rfl))∘Jk 8 (.slice C (abk (q::r::m)) D) (h:=by exact gF o)) λa Z c=>?_
 refine zb (λaS wS=>∃(s:Nat) (F:Option Addr) (E:Nat) (k:Option Addr) (g:Nat),Fr aS 47 [] [(46,.slice k (abk (e.kind::j)) g),(4,.slice k (abk (e.kind::j)) g),(5,vI 0),(25,.bool false),(15,.bool false),(7,vI N),(3,vP V 0),(2,vP U 0)]∧Mem w wS [.row (.slice F (abk j) E) (abk j) (j.map B8) 5 1,.row (.slice k (abk (e.kind::j)) g) (abk (e.kind::j)) ((e.kind::j).map B8) 5 1,.row (.slice C (abk (q::r::m)) D) (abk (q::r::m)) ((q::r::m).map bq) 41 1,.row (.slice Y (abk m) cv) (abk m) (m.map bq) 41 1,.blk V e.cells 73,.blk U b.cells 110]∧(abk j≤E)∧(abk (e.kind::j)≤g)) ?_ ?_
 ·
  refine Jb Z c ((Vs .n []) λWi=>(Vf 0 3∘Vp [3]∘Vc 1 O2) λa Z c u=>?_)
  refine zd [2,4] kr rfl ?_
  refine all_cons ?_ ?_
  ·refine qt Z (i:=2) rfl rfl ?_
   refine iW Z c aX [(0,vB e.kind)] #[vB e.kind] ?_
   clear Z c;intro a P s Z c
   refine ay (c.pk [1,2,3,4]) (λu=>?_)
   refine Vb Z c u ((VK 4 (.f .n) (h:=by exact λc=>V9 (c.rd (i:=1) rfl) p.2.2.1 (by simp only [abX];omega) t)) λF E Q v=>λa Z c u=>?_)
   refine s_on Z 5 rfl ?_
   replace c:=c.eB (i:=1) (n:=1) (size:=1) rfl rfl de
   refine qF Z c (i:=1) rfl aX rfl rfl rfl (news:=(j.map B8)) (c.rd (i:=0) rfl) (sj _) om om rfl de ?_
   clear Z c;intro a R k g Z c l
   refine ay (c.pk [2,3,4,5]) (λu=>?_)
   refine Vb Z c u ((Vp [6,7]∘Vd) ?_)
   have d:(1+abk j)=abk (e.kind::j):=aeB 1 _
   rw [d] at l
   intro a Z c
   replace c:=c.aT (i:=1) (ys:=(e.kind::j).map B8) rfl d (rfl)
   replace Z:=Z.sp 4 (.slice k (abk (e.kind::j)) g) rfl (gF d)
   replace Z:=Z.sp 46 (.slice k (abk (e.kind::j)) g) rfl (gF d)
   exact ⟨s,F,E,k,g,Z.sub kr,c.pk [0,1,2,3,4,5],v,l⟩
  refine all_cons ?_ all_nil
  refine qt Z (i:=4) rfl rfl ?_
  refine Bd Z c [.slice C (abk (q::r::m)) D] (V9 (c.rd (i:=0) rfl) p.2.2.1 (by simp only [abX];omega) t) λF E Q v c a Z=>?_
  refine ay (c.pk [1,2,3,4]) (λu=>?_)
  refine s_on Z 2 rfl (iW Z c aX [(0,vB e.kind)] #[vB e.kind] ?_)
  clear Z c;intro a P s Z c
  refine ay (c.pk [2,3,4,5]) (λu=>?_)
  refine s_on Z 5 rfl ?_
  replace c:=c.eB (i:=0) (n:=1) (size:=1) rfl rfl de
  refine qF Z c (i:=0) rfl aX rfl rfl rfl (news:=(j.map B8)) (c.rd (i:=1) rfl) (sj _) om om rfl de ?_
  clear Z c;intro a R k g Z c l
  refine ay (c.pk [2,3,4,5]) (λu=>?_)
  refine Vb Z c u ((Vp [6,7]∘Vd) ?_)
  have d:(1+abk j)=abk (e.kind::j):=aeB 1 _
  rw [d] at l
  intro a Z c
  replace c:=c.aT (i:=0) (ys:=(e.kind::j).map B8) rfl d (rfl)
  replace Z:=Z.sp 4 (.slice k (abk (e.kind::j)) g) rfl (gF d)
  replace Z:=Z.sp 46 (.slice k (abk (e.kind::j)) g) rfl (gF d)
  exact ⟨s,F,E,k,g,Z.sub kr,c.pk [1,0,2,3,4,5],v,l⟩
 clear Z c;rintro a w7 ⟨s,F,E,k,g,Z,c,v,l⟩
 exact Jb Z c ((JZ∘bH) λc=>V7 (L:=e.kind::j) (zen y om A p t) (c.own (i:=1) rfl) l c.below)
def q8l (A:Option Addr) (c:Nat) (l:List Ev) (J:∀e∈l,e.Ok) (B:Nat) (w:World) (Q:Laid B w) (N:B≤w.heap.size) (hr:Rd w w.heap.size 11 A (abk l) (l.flatMap iw)) (U:abk l≤140737488355328):Calls abl 171 #[.slice A (abk l) c] w (Is w (.tuple #[.int .i64 (gI l).1,.int .i64 ((gI l).2:Int)])):=by
 refine (dY Tryz.func171 57) ?_
 refine (JP∘Jp 2∘Jj∘JQ∘JP∘Jp 1∘Jl∘Jp 1∘Jj∘JB) λa Z b=>?_
 refine qg (λO K L=>∃(k:Nat),(k≤abk l)∧(gI l=gP (j3 l k) k (l.drop k))∧O=abk l-k∧Fr K 57 [] [(9,vI k),(8,vI (abk l)),(7,.slice A (abk l) c),(3,vI 0),(2,vI 0),(0,.slice A (abk l) c)]∧Mem w L []) (m:=abk l-0) ⟨0,abx _,rfl,rfl,Z.sub kr,b.pk []⟩ ?_
 clear Z b;rintro O a V ⟨k,W,t,rfl,Z,b⟩
 refine Jb Z b ((JP∘Jp 1∘Jj∘JQ) (Ji (λC=>?_) λC=>?_))
 ·
  have y:k<abk l:=by omega
  obtain ⟨e,u⟩:∃e,l.getD k Ev.zero=e:=⟨_,rfl⟩
  obtain ⟨q,g⟩:∃q,l.getD (k-1) Ev.zero=q:=⟨_,rfl⟩
  have M:e.Ok:=J e (by rw [←u];exact qe Ev.zero y)
  have z:=row_step (p:=j3 l k) y u
  refine (JT∘aD∘JQ∘JB∘JP∘Jp 1) ?_
  obtain ⟨gA,o,rfl,_⟩:=hr.sat k
  refine (gZ k 11∘oQ Ev.cells wI hr wV k Ev.zero (hk:=y)∘Jo (.agg e.cells) (by rw [u])∘JA #[vI 0,vI 0,vB 0,vB 0,vI 0,vI 0,vI 0,vI 0,vI 0,vQ 0,vI 0]) λX D=>(Jp 1∘JV wV aU (h1:=by exact Kh e)) λP=>(Jj∘JQ∘JP∘eF wV O0∘JI (h:=by exact λb=>q15 e M B _ (Q.mem b N) (b.le N))) λR S=>(Jp 1∘bG∘Jr∘Jp 2∘aK∘Jj) (Jh (λE=>?_) λE=>?_)
  ·
   exact (JT∘JP∘Jp 4∘Jj∘JZ∘bH) λb=>Oh (t.trans (z.trans (if_pos om))) rfl b.below
  refine (JF∘aD) λa Z b=>?_
  refine zb (λK L=>Fr K 57 [] [(54,.bool (!(j3 l k).all λq=>e.after q)),(17,.bool false),(6,vI e.check),(4,vI k),(5,vP D 0),(10,.bool true),(9,vI k),(8,vI (abk l)),(7,.slice (some ⟨gA,o,none⟩) (abk l) c),(3,vI 0),(2,vI 0),(0,.slice (some ⟨gA,o,none⟩) (abk l) c)]∧Mem w L [.blk D e.cells 73]) ?_ ?_
  ·
   refine Jb Z b ((Vs .n []) λT=>(Vp [0,1,2]) λa Z b f=>?_)
   rcases Z.tf 22 rfl with ⟨r,Z⟩|⟨r,Z⟩
   ·
    have F:=of_decide_eq_true r
    refine Vb Z b f ((Vf 3 2∘Vp [5,6]∘Vc 4 O0∘Vp [7]∘Vo (vI (k-1:Nat)) (by exact Og om om)∘zI 8 (k-1) 11∘Vf 9 2∘EU 10 wI hr 2 (k-1) Ev.zero∘Vo (vB q.cpu) (by rw [g])∘Vp [11,12]) λa Z b f=>?_)
    rcases Z.tf 32 rfl with ⟨s,Z⟩|⟨s,Z⟩
    ·
     have G:=bne_iff_ne.1 s
     refine Vb Z b f ((Vq [13,14,15,16,17,18,19,20,21,22,23,24,25,26,27,28,29,30,31,32,33] [(53,.bool true)]∘Vq [34] [(54,.bool true)]∘Vo (.bool (!(j3 l k).all λq=>e.after q)) (by exact KH g (by first|exact iff_of_true rfl om|exact iff_of_false de om|exact decide_eq_true_iff.trans om))∘Vd∘aF) λa Z b=>?_)
     exact ⟨Z.sub kr,b.pk [0]⟩
    have G:=bne_eq_false_iff_eq.1 s
    refine ap Z (λ_=>f) [13,15,16] (bf 35 [0,1,2,3,4,5,6,7,8,9,10,11,12,13,15,16]) [(36,vI k),(35,.slice (some ⟨gA,o,none⟩) (abk l) c),(33,vP D 0)] λa Z=>?_
    refine dR Z f 14 0 (v:=vI e.seq) λa Z=>?_
    refine r9 Z (λ_=>f) (i:=17) rfl rfl (d:=37) rfl de kr (λ_ _ _ h=>h) (v:=vI (IntKind.i64.wrap ((k:Int)-1))) (λ_=>Yl.pure kr) λa Z=>?_
    replace Z:=Z.sp 37 (vI (k-1:Nat)) rfl (Og om om)
    refine jI Z f 18 rfl (v:=vP gA (o+(k-1)*11)) (Yl.ix gA o (k-1) 11 rfl rfl rfl) λa Z=>?_
    refine ap Z (λ_=>f) [19] (bt 35 [20,21,22,23,24,25,26,27,28,29,30,31,32,33,34]) [(39,vP gA (o+(k-1)*11))] λa Z=>?_
    refine jI Z f 20 rfl (v:=vI ((l.getD (k-1) Ev.zero).seq)) (Pd rfl rfl kr (λ_ h=>(by have:=(h.old hr).partAt wI (k:=(k-1)) (j:=0) (x:=(l.getD (k-1) Ev.zero)) ((getD_at Ev.zero (k:=k-1) om)) rfl;simpa using this))) λa Z=>?_
    replace Z:=Z.sp 40 (vI q.seq) rfl (by rw [g])
    refine ap Z (λ_=>f) [21,22,23] (bt 35 [24,25,26,27,28,29,30,31,32,33,34]) [(43,.bool (decide ((e.seq:Int)≤(q.seq:Int))))] λa Z=>?_
    refine Jb Z b (Ji (λH=>?_) λH=>?_)
    ·
     intro a Z b
     refine ap Z (λ_=>f) [24,25,26,27,28,29,30,31,32,33] (bt 35 [34]) [(53,.bool true)] λa Z=>?_
     refine r9 Z (λ_=>f) (i:=34) rfl rfl (d:=54) rfl de kr (λ_ _ _ h=>h) (v:= .bool true) (λ_=>Yl.pure kr) λa Z=>?_
     replace Z:=Z.sp 54 (.bool (!(j3 l k).all λq=>e.after q)) rfl (KH g (by first|exact iff_of_true rfl om|exact iff_of_false de om|exact decide_eq_true_iff.trans om))
     refine qd kr ?_
     exact ⟨Z.sub kr,b.pk [0]⟩
    intro a Z b
    refine ap Z (λ_=>f) [24,26,27] (bt 35 [25,28,29,30,31,32,33,34]) [(47,vI k),(46,.slice (some ⟨gA,o,none⟩) (abk l) c),(44,vP D 1)] λa Z=>?_
    refine dR Z f 25 0 (v:=vI e.time) λa Z=>?_
    refine r9 Z (λ_=>f) (i:=28) rfl rfl (d:=48) rfl de kr (λ_ _ _ h=>h) (v:=vI (IntKind.i64.wrap ((k:Int)-1))) (λ_=>Yl.pure kr) λa Z=>?_
    replace Z:=Z.sp 48 (vI (k-1:Nat)) rfl (Og om om)
    refine jI Z f 29 rfl (v:=vP gA (o+(k-1)*11)) (Yl.ix gA o (k-1) 11 rfl rfl rfl) λa Z=>?_
    refine ap Z (λ_=>f) [30] (bt 35 [31,32,33,34]) [(50,vP gA (o+(k-1)*11+1))] λa Z=>?_
    refine jI Z f 31 rfl (v:=vI ((l.getD (k-1) Ev.zero).time)) (Pd rfl rfl kr (λ_ h=>(h.old hr).partAt wI (k:=(k-1)) (j:=1) (x:=(l.getD (k-1) Ev.zero)) ((getD_at Ev.zero (k:=k-1) om)) rfl)) λa Z=>?_
    replace Z:=Z.sp 51 (vI q.time) rfl (by rw [g])
    refine ap Z (λ_=>f) [32,33] (bt 35 [34]) [(53,.bool (decide ((e.time:Int)<(q.time:Int))))] λa Z=>?_
    refine r9 Z (λ_=>f) (i:=34) rfl rfl (d:=54) rfl de kr (λ_ _ _ h=>h) (v:= .bool (decide ((e.time:Int)<(q.time:Int)))) (λ_=>Yl.pure kr) λa Z=>?_
    replace Z:=Z.sp 54 (.bool (!(j3 l k).all λq=>e.after q)) rfl (KH g (by first|exact iff_of_true rfl om|exact iff_of_false de om|exact decide_eq_true_iff.trans om))
    refine qd kr ?_
    replace Z:=Z.to [(54,.bool (!(j3 l k).all λq=>e.after q)),(17,.bool false),(6,vI e.check),(4,vI k),(5,vP D 0),(10,.bool true),(9,vI k),(8,vI (abk l)),(7,.slice (some ⟨gA,o,none⟩) (abk l) c),(3,vI 0),(2,vI 0),(0,.slice (some ⟨gA,o,none⟩) (abk l) c)]
    exact ⟨Z.sub kr,b.pk [0]⟩
   have F:=of_decide_eq_false r
   refine ap Z (λ_=>f) [3,4,5,6,7,8,9,10,11,12,13,14,15,16,17,18,19,20,21,22,23,24,25,26,27,28,29,30,31,32,33] (bt 35 [34]) [(53,undef)] λa Z=>?_
   refine r9 Z (λ_=>f) (i:=34) rfl rfl (d:=54) rfl de kr (λ_ _ _ h=>h) (v:= .bool false) (λ_=>Yl.pure kr) λa Z=>?_
   replace Z:=Z.sp 54 (.bool (!(j3 l k).all λq=>e.after q)) rfl (KH g (by first|exact iff_of_true rfl om|exact iff_of_false de om|exact decide_eq_true_iff.trans om))
   refine qd kr ?_
   exact ⟨Z.sub kr,b.pk [0]⟩
  clear Z b;rintro a Y ⟨Z,b⟩
  refine Jb Z b (Ju (λI=>?_) λI=>?_)
  ·
   exact (JT∘JP∘Jp 3∘Jj∘JZ∘bH) λb=>Oh (m:=71) (t.trans (z.trans ((if_neg om).trans (if_pos (by simp_all))))) rfl b.below
  refine (JF∘aD∘JR∘cK 1∘Jp 1∘aK∘Jq) λa Z b=>?_
  exact ⟨_,om,k+1,by omega,(t.trans (z.trans ((if_neg om).trans ((if_neg (by simp_all)).trans (by rw [q8i u]))))),rfl,Z.sub kr,b.pk []⟩
 exact (JF∘JX∘JG∘JP∘Jp 2∘Jj∘JZ∘bH) λb=>Oh (m:=0) (t.trans (zeo om)) rfl b.below
theorem q18 (b:Bs) (e:Ev) (a:e.Ok) {l:List Nat} (h:mV b e=0) (hb:oF b e=l) (B:Nat) (w:World) (c:Laid B w) (d:B≤w.heap.size):Calls abl 244 #[.agg b.cells,.agg e.cells] w (zf w 0 l):=by
 have k:=q8k b e a B w c d
 have f:tu b e=l:=by unfold tu;rw [if_pos h,hb]
 rwa [h,f] at k
def Wj (A:Option Addr) (c:Nat) (l:List Ev) (a:∀e∈l,e.Ok) (B:Nat) (w:World) (b:Laid B w) (d:B≤w.heap.size) (hr:Rd w w.heap.size 11 A (abk l) (l.flatMap iw)) (f:abk l≤140737488355328) {v:Int} {m:Nat} (h:gI l=(v,m)):Calls abl 171 #[.slice A (abk l) c] w (Is w (.tuple #[.int .i64 v,.int .i64 (m:Int)])):=by
 have k:=q8l A c l a B w b d hr f
 rwa [h] at k
def qs4 (b:Bs) (A:Option Addr) (c:Nat) (l:List Ev) (I:∀e∈l,e.Ok) (B:Nat) (w:World) (hL:Laid B w) (R:B≤w.heap.size) (hr:Rd w w.heap.size 11 A (abk l) (l.flatMap iw)) (hn:abk l≤1000000000000):Calls abl 228 #[.agg b.cells,.slice A (abk l) c] w (zf w (zq b l) (qZ b l)):=by
 refine (iX Tryz.func228 56) ?_
 refine (JP∘JE) λw2 S=>(Jp 2∘Jq) ?_
 obtain ⟨ri,T,q⟩:∃ri T,gI l=(ri,T):=⟨_,_,rfl⟩
 refine (JG∘JQ∘JP∘Jp 1∘JI (h:=by exact λg=>Wj A c l I B _ (hL.mem g R) (g.le R) (g.old hr) om q)) λw15 z=>(Jp 1∘Jx∘Jx∘Jp 2∘aF∘Jr∘Jp 2∘aK∘Jj) (Jh (λJ=>?_) λJ=>?_)
 ·
  exact (JT∘JP∘Jp 3∘Jj∘JZ∘bH) λg=>EX (qyd q om) rfl g.below
 obtain ⟨G,r⟩:∃e,l.getD 0 Ev.zero=e:=⟨_,rfl⟩
 refine (JF∘aD∘JQ) λa Z g=>?_
 refine zb (λU V=>Fr U 56 [] [(36,.bool (!(b.right&&l.head?.all b.behind))),(19,.bool false),(7,vI T),(5,vI 0),(4,.slice none 0 0),(2,vP S 0),(1,.slice A (abk l) c)]∧Mem w V [.blk S b.cells 110]) ?_ ?_
 ·
  refine Jb Z g ((Vs .n []) λwd4=>(qL 0 jO O0∘VI 1 .n (h:=by exact λg=>Wd b _)) λOi z=>(Vp [2,3]) λa Z g o=>?_)
  rcases Z.tf 24 rfl with ⟨K,Z⟩|⟨K,Z⟩
  ·
   refine Vb Z g o ((Vq [4,5,6,7,8,9,10,11,12,13,14] [(35,undef)]∘Vq [15] [(36,.bool true)]∘Vo (.bool (!(b.right&&l.head?.all b.behind))) (by exact Bg (by rw [r];first|exact iff_of_true rfl (by simp_all)|exact iff_of_false de (by simp_all;omega)|simp_all))∘Vd∘aF) λa Z g=>?_)
   exact ⟨Z.sub kr,g.pk [0]⟩
  refine ap Z (λ_=>o) [4] (bf 16 [0,1,2,3,4]) [(25,.slice A (abk l) c)] λa Z=>?_
  refine xM Z o 5 λa Z=>?_
  refine ap Z (λ_=>o) [6,7] (bf 16 [0,1,2,3,4,5,6,7]) [(28,.bool (decide ((abk l:Int)>(0:Int))))] λa Z=>?_
  refine Jb Z g (Ji (λM=>?_) λM=>?_)
  ·
   intro a Z g
   refine ap Z (λ_=>o) [9] (bt 16 [8,10,11,12,13,14,15]) [(30,.slice A (abk l) c)] λa Z=>?_
   refine jI Z o 8 rfl (v:= .agg b.cells) (Pe rfl rfl jO rfl (λ_ h=>qi (h.blk (i:=0) rfl))) λa Z=>?_
   revert g;revert a;repeat (first|clear Z|clear g)
   intro a Z g
   obtain ⟨gA,W,rfl,_⟩:=hr.sat 0
   refine jI Z o 10 rfl (v:=vP gA W) (Yl.indexAddr (ad:=⟨gA,W,none⟩) (y:=0) (sz:=11) rfl rfl rfl om kr) λa Z=>?_
   refine jI Z o 11 rfl (v:= .agg ((l.getD 0 Ev.zero).cells)) (Pe rfl rfl wV rfl (λ_ h=>(h.old hr).AZ wI ((getD_at Ev.zero (k:=0) om)))) λa Z=>?_
   replace Z:=Z.sp 32 (.agg G.cells) rfl (by rw [r])
   refine s_on Z 12 rfl (iV Z g [.agg b.cells,.agg G.cells] (.bool (b.behind G)) rfl rfl (Wh b G _) λKL z g a Z=>?_)
   refine ay (g.pk [0]) (λo=>?_)
   refine ap Z (λ_=>o) [13,14] (bt 16 [15]) [(35,.bool (!(b.behind G)))] λa Z=>?_
   refine r9 Z (λ_=>o) (i:=15) rfl rfl (d:=36) rfl de kr (λ_ _ _ h=>h) (v:= .bool (!(b.behind G))) (λ_=>Yl.pure kr) λa Z=>?_
   replace Z:=Z.sp 36 (.bool (!(b.right&&l.head?.all b.behind))) rfl (Bg (by rw [r];first|exact iff_of_true rfl (by simp_all)|exact iff_of_false de (by simp_all;omega)|simp_all))
   refine qd kr ?_
   exact ⟨Z.sub kr,g.pk [0]⟩
  intro a Z g
  refine ap Z (λ_=>o) [8,9,10,11,12,13,14] (bt 16 [15]) [(35,.bool false)] λa Z=>?_
  refine r9 Z (λ_=>o) (i:=15) rfl rfl (d:=36) rfl de kr (λ_ _ _ h=>h) (v:= .bool false) (λ_=>Yl.pure kr) λa Z=>?_
  replace Z:=Z.sp 36 (.bool (!(b.right&&l.head?.all b.behind))) rfl (Bg (by rw [r];first|exact iff_of_true rfl (by simp_all)|exact iff_of_false de (by simp_all;omega)|simp_all))
  refine qd kr ?_
  exact ⟨Z.sub kr,g.pk [0]⟩
 clear Z g;rintro a w4 ⟨Z,g⟩
 refine Jb Z g (Ju (λp=>?_) λp=>?_)
 ·
  exact (JT∘JP∘Jp 2∘Jj∘JZ∘bH) λg=>EX (qs3 q om (λh=>by rw [h] at p;exact absurd p de)) rfl g.below
 have N:(b.right&&l.head?.all b.behind)=true:=by simpa using p
 refine (JF∘aD∘JP∘Jp 1∘Jq∘JC (h:=by exact λg=>g.nil 5 1)∘JG∘JQ∘JP∘Jp 1∘Jl∘Jp 1∘Jj∘JB) λa Z g=>?_
 refine qg (λmS U V=>∃(k:Nat) (pre:List Nat) (H:Bs) (X:Option Addr) (co:Nat),(k≤abk l)∧(abk pre≤61*k)∧(H=AU b l k)∧(recs b l=pre++recs H (l.drop k))∧(abk pre≤co)∧mS=abk l-k∧Fr U 56 [] [(39,vI k),(38,vI (abk l)),(37,.slice A (abk l) c),(8,.slice X (abk pre) co),(36,.bool false),(19,.bool false),(7,vI T),(5,vI 0),(4,.slice none 0 0),(2,vP S 0),(1,.slice A (abk l) c)]∧Mem w V [.row (.slice X (abk pre) co) (abk pre) (pre.map B8) 5 1,.blk S H.cells 110]) (m:=abk l-0) ⟨0,[],b,none,0,abx _,abx _,rfl,rfl,abx _,rfl,Z.sub kr,g.pk [0,1]⟩ ?_
 clear Z g;rintro mS a w_ ⟨k,pre,H,X,co,hk,hpl,Y,O,hco,rfl,Z,g⟩
 refine Jb Z g ((JP∘Jp 1∘Jj∘JQ) (Ji (λP=>?_) λP=>?_))
 ·
  have C:k<abk l:=by omega
  obtain ⟨e,D⟩:∃e,l.getD k Ev.zero=e:=⟨_,rfl⟩
  have uy:e.Ok:=I e (by rw [←D];exact qe Ev.zero C)
  have s:=q17 q om N C Y D
  obtain ⟨u,Q⟩:∃u,oF H e=u:=⟨_,rfl⟩
  rw [Q] at s
  refine (JT∘aD∘JQ∘JB∘JP) ?_
  obtain ⟨gA,W,rfl,_⟩:=hr.sat k
  refine (gZ k 11∘oQ Ev.cells wI hr wV k Ev.zero (hk:=C)∘Jo (.agg e.cells) (by rw [D])∘JA #[vI 0,vI 0,vB 0,vB 0,vI 0,vI 0,vI 0,vI 0,vI 0,vQ 0,vI 0]) λuz g10=>(JV wV aU (h1:=by exact Kh e)) λOj=>(bG∘Jr∘eF jO O2∘eF wV O0∘JK (h:=by exact λg=>q18 H e uy s.1 Q B _ (hL.mem g R) (g.le R))) λAr cr EY hcr=>(Jp 1∘Jx∘Jx∘Jp 2∘mZ∘Jj∘Vs (.t (.t (.f .n))) [6]) λOl=>(Vp [0,1]∘qL 3 wV O1) λa Z g o=>?_
  refine s_on Z 2 rfl (qF Z g (i:=2) rfl aX rfl rfl rfl (news:=(u.map B8)) (g.rd (i:=0) rfl) (sj _) om om rfl de ?_)
  clear Z g;intro a w51 E F Z g x
  refine ay (g.pk [0,1,3]) (λo=>?_)
  refine Vb Z g o ((VI 4 (.t (.t (.f .n))) (h:=by exact λg=>zio e _)) λWm z=>(Vp [5]) λa Z g o=>?_)
  refine s_on Z 6 rfl (cZ Z g 3 rfl rfl rfl rfl rfl jO rfl rfl (Np e.at) λWn g=>?_)
  refine dM kr ?_
  refine qd kr ?_
  have j:(abk pre+abk u)=abk (pre++u):=by rw [abm]
  rw [j] at x
  replace g:=g.aT (i:=2) (ys:=(pre++u).map B8) rfl j (by rw [abP])
  replace Z:=Z.sp 8 (.slice E (abk (pre++u)) F) rfl (gF j)
  replace Z:=Z.sp 51 (.slice E (abk (pre++u)) F) rfl (gF j)
  refine Jb Z g ((JG∘JR∘cK 1∘Jp 1∘aK∘Jq) λa Z g=>?_)
  exact ⟨_,om,k+1,(pre++u),e.at,E,F,by omega,by rw [abm];omega,s.2.2.1,(O.trans (by rw [s.2.1,abz])),x,rfl,Z.sub kr,g.pk [2,3]⟩
 exact (JF∘JX∘JG∘JP∘Jp 3∘Jj∘JZ∘bH) λg=>V7 (L:=pre) (qye q om N O om) (g.own (i:=0) rfl) hco g.below
def q8m (b:Bs) (A:Option Addr) (n c:Nat) (l:List Ev) (a:∀e∈l,e.Ok) (B:Nat) (w:World) (d:Laid B w) (f:B≤w.heap.size) (hr:Rd w w.heap.size 11 A n (l.flatMap iw)) (g:n≤1000000000000) {er:Nat} {R:List Nat} (h1:zq b l=er) (h2:qZ b l=R):
  Calls abl 228 #[.agg b.cells,.slice A n c] w (zf w er R):=by
 obtain rfl:abk l=n:=UU hr
 subst h1;subst h2
 exact qs4 b A c l a B w d f hr g
def ziq (A:Option Addr) (n c:Nat) (l:List Ev) (a:∀e∈l,e.Ok) (B:Nat) (w:World) (b:Laid B w) (d:B≤w.heap.size) (hr:Rd w w.heap.size 11 A n (l.flatMap iw)) (f:n≤140737488355328) {i:Int} {er:Nat} (h:gI l=(i,er)):
  Calls abl 171 #[.slice A n c] w (Is w (.tuple #[.int .i64 i,.int .i64 (er:Int)])):=by
 obtain rfl:abk l=n:=UU hr
 exact Wj A c l a B w b d hr f h
section
variable {xs l:List Nat} {q k x m e:Nat}
end
section
variable {b:Bs} {cpu kd:Nat} {l xs:List Nat} {q e:Nat}
end
section
variable {b bk:Bs} {cpu m a mm er:Nat} {l rest:List Nat} {es:List Ev} {e:Ev}
end
section
variable {b:Bs} {cpu:Nat} {n:Int} {l:List Nat}
end
structure Bk where
 kind:Nat
 cpu:Nat
 lost:Int
 next:Int
 evs:List Ev
structure Bk.Ok (b:Bk):Prop where
 kind:b.kind<256
 cpu:b.cpu<256
 lost:aQ b.lost
 next:aQ b.next
 evs:∀e∈b.evs,e.Ok
def Bk.zero:Bk:=⟨0,0,0,0,[]⟩
def Bk.Dp (b:Bk):Bool:=match b.evs with
 |[]=>decide (0<b.lost)
 |e::_=>decide (e.cpu=b.cpu)
def Bk.oV (b:Bk):Bool:=decide ((gI b.evs).2=0∧b.cpu<64∧0≤b.lost∧b.lost≤281474976710656∧b.next=0∧b.Dp=true)
def Bk.uD (b:Bk):Bool:=decide (1≤b.next∧b.next≤281474976710657∧b.cpu=0∧b.lost=0∧abk b.evs=0)
def Bk.fits (b:Bk):Bool:=if b.kind=1 then b.oV else if b.kind=2 then b.uD else false
def Bk.base (b:Bk):Bs:=(b.evs.headD Ev.zero).at
def Bk.body (b:Bk):List Nat:=
 if b.kind=2 then au b.next.toNat
 else au b.cpu++au b.lost.toNat++au (abk b.evs)++(if abk b.evs=0 then [] else au b.base.seq.toNat++au b.base.time.toNat++recs b.base b.evs)
def Bk.raw (b:Bk):List Nat:=qH (12+abk b.body)++[113,116,1,b.kind]++b.body
def Bk.err (b:Bk):Nat:=if b.fits=false then 107 else if 4096<12+abk b.body then 3 else 0
def Bk.out (b:Bk):List Nat:=if b.err=0 then bA b.raw else []
def aV (l:List Nat):Nat×Nat:=if abk l<4 then (0,100) else if jZ l<13∨4096<jZ l then (0,101) else if abk l<jZ l then (0,100) else (jZ l,0)
def ji (most:Nat) (l:List Nat):Bool:=decide ((aB l).2.2=0∧(aB l).1≤most)
def q6 (l:List Nat):List Nat:=l.drop (aB l).2.1
def bK (most:Nat) (l:List Nat):Nat:=if most<(aB l).1 then most else (aB l).1
def uE (l:List Nat):Option Bk:=
 if ji 281474976710657 l=true∧abk (q6 l)=0∧Bk.fits ⟨2,0,0,bK 281474976710657 l,[]⟩=true then some ⟨2,0,0,bK 281474976710657 l,[]⟩ else none
def q2c (cpu lost:Nat) (l:List Nat) (q:List Ev×Nat×Nat):Option Bk:=
 if q.2.2=0∧(q.1.headD Ev.zero).seq=bK 281474976710656 l∧(q.1.headD Ev.zero).time=bK 281474976710656 (q6 l)∧ji 281474976710656 l=true∧ji 281474976710656 (q6 l)=true∧abk ((q6 (q6 l)).drop q.2.1)=0∧Bk.fits ⟨1,cpu,lost,0,q.1⟩=true then some ⟨1,cpu,lost,0,q.1⟩ else none
def Wv (l:List Nat):Bool:=ji 63 l&&ji 281474976710656 (q6 l)&&ji 4096 (q6 (q6 l))
def q8p (l:List Nat):Option Bk:=
 if Wv l=true∧0<bK 4096 (q6 (q6 l)) then
  q2c (bK 63 l) (bK 281474976710656 (q6 l)) (q6 (q6 (q6 l)))
   (Eu ⟨bK 281474976710656 (q6 (q6 (q6 l))),bK 281474976710656 (q6 (q6 (q6 (q6 l))))⟩ (bK 63 l) (bK 4096 (q6 (q6 l))) (q6 (q6 (q6 (q6 (q6 l))))))
 else if Wv l=true∧abk (q6 (q6 (q6 l)))=0∧Bk.fits ⟨1,bK 63 l,bK 281474976710656 (q6 l),0,[]⟩=true then some ⟨1,bK 63 l,bK 281474976710656 (q6 l),0,[]⟩ else none
def Dq (kind:Nat) (l:List Nat):Option Bk:=if kind=2 then uE l else q8p l
def fP (l:List Nat):Option Bk×Nat:=
 if zn l=false then (none,102)
 else if ¬(l.getD 4 0=113∧l.getD 5 0=116) then (none,103)
 else if l.getD 6 0≠1 then (none,104)
 else if l.getD 7 0≠1∧l.getD 7 0≠2 then (none,105)
 else match Dq (l.getD 7 0) ((l.take (abk l-4)).drop 8) with
  |none=>(none,106)
  |some b=>(some b,0)
def dz (l:List Nat):Bk×Nat×Nat:=
 if (aV l).2≠0 then (Bk.zero,0,(aV l).2)
 else match (fP (l.take (aV l).1)).1 with
  |some b=>(b,(aV l).1,0)
  |none=>(Bk.zero,0,(fP (l.take (aV l).1)).2)
def qyg (a:∀x∈l,x<256):∀x∈q6 l,x<256:=λx b=>a x (abU b)
variable {b:Bk}
def q8q (h:b.fits=true) (hk:b.kind=2):b.uD=true:=by unfold Bk.fits at h;rwa [if_neg om,if_pos hk] at h
theorem Oo (h:b.fits=true) (hk:b.kind≠2):b.kind=1∧b.oV=true:=by grind [Bk.fits]
theorem q2d (b:Bs) (e:Ev):abk (oF b e)≤61:=by grind [Ev.vals,zm,oF,y7,Es,AO]
theorem Ww:∀(l:List Ev) (b:Bs),abk (recs b l)≤61*abk l:=by intro x;induction x<;>grind [q2d,recs]
def Oq {cpu:Nat}:∀(es:List Ev) (p:Option Ev) (b:Bs) (i:Nat),(∀e∈es,e.Ok)→b.right=true→(∀e∈es.head?,b.behind e=true∧e.cpu=cpu)→(∀q,p=some q→b=q.at∧q.cpu=cpu)→(gP p i es).2=0→Chain cpu p b es
 |[],_,_,_,_,_,_,_,_=>trivial
 | e :: r, p, b, i, a, g, j, l, h => by
  rw [gP] at h
  split at h
  ·rename_i h1;exact absurd h h1
  ·rename_i h1
   split at h
   ·cases h
   ·rename_i h2
    have hc:e.check=0:=by omega
    obtain ⟨k,f⟩:=j e (by simp)
    refine ⟨⟨g,hc,a e (by simp),k⟩,f,?_,?_⟩
    ·grind [Ev.after]
    ·refine Oq r (some e) e.at (i+1) (λx c=>a x (by simp [c])) (E5 hc) ?_ (λq d=>by injection d with d;subst d;exact ⟨rfl,f⟩) h
     intro x c
     cases r with
     |nil=>cases c
     |cons y r=>
      grind [Bs.behind,Ev.after,Ev.at,gP]
def Wx {l:List Ev} (h:(gI l).2=0) (a:l.head?=some e):e.check=0:=by
 cases l with
 |nil=>cases a
 |cons x r=>
  grind [gP,gI]
theorem Wy (e:Ev):e.at.behind e=true:=by grind [Bs.behind,Ev.at]
structure Bh (b:Bk) (e:Ev) (r:List Ev):Prop where
 evs:b.evs=e::r
 cpu:e.cpu=b.cpu
 base:b.base=e.at
 check:e.check=0
 right:e.at.right=true
 chain:Chain b.cpu none e.at b.evs
def Wz (c:b.Ok) (h:b.oV=true) (d:abk b.evs≠0):∃e r,Bh b e r:=by
 unfold Bk.oV at h
 rw [decide_eq_true_eq] at h
 obtain ⟨h1,h2,h3,h4,h5,h6⟩:=h
 cases hev:b.evs with
 |nil=>rw [hev] at d;simp at d
 |cons e r=>
  have hc:e.check=0:=Wx h1 (by rw [hev];rfl)
  have a:e.cpu=b.cpu:=by unfold Bk.Dp at h6;rw [hev] at h6;simpa using h6
  refine ⟨e,r,hev,a,by unfold Bk.base;rw [hev];rfl,hc,E5 hc,?_⟩
  refine Oq b.evs none e.at 0 c.evs (E5 hc) ?_ (λq f=>by cases f) h1
  grind [Wy]
def qyh (a:b.Ok) (h:b.oV=true) (c:abk b.evs≠0):zq b.base b.evs=0∧qZ b.base b.evs=recs b.base b.evs:=by
 obtain ⟨e,r,g⟩:=Wz a h c
 rw [g.base]
 obtain ⟨_,h1,h2⟩:=Wu g.right g.chain
 exact ⟨h1,h2⟩
theorem q2e (h:x≤281474976710657):aQ (x:Int):=by unfold aQ;omega
def WZ (h:(aV l).2=0):jZ l=(aV l).1∧13≤(aV l).1∧(aV l).1≤4096∧(aV l).1≤abk l:=by
 unfold aV at h⊢
 split at h
 ·cases h
 ·split at h
  ·cases h
  ·split at h
   ·cases h
   ·rename_i h1 h2 h3
    rw [if_neg h1,if_neg h2,if_neg h3]
    omega
def iI (l:List Nat):Prop:=∀i,7≤i→l.getD i 0≠1
theorem iI.drop (h:iI l) (p:Nat):iI (l.drop p):=λi hi=>by
 rw [abn,acO,←abn]
 exact h (p+i) om
theorem iI.take (h:iI l) (n:Nat):iI (l.take n):=λi hi=>by
 rw [abn,adx]
 split
 ·rw [←abn];exact h i hi
 ·decide
def zet (h:((l.drop 7).all λx=>x !=1)=true):iI l:=λi hi a=>by
 rw [abn] at a
 cases hx:l[i]? with
 |none=>rw [hx] at a;cases a
 |some x=>
  rw [hx] at a
  have a:x=1:=a
  have hm:x∈l.drop 7:=abF (i:=i-7) (by rw [acO,Nat.add_sub_cancel' hi];exact hx)
  have h1:=List.all_eq_true.1 h x hm
  rw [a] at h1
  cases h1
theorem KS (f:α→List Value) (sz:Nat) (a:∀x,abk (f x)=sz):∀(l:List α) (k:Nat),(l.flatMap f).take (k*sz)=(l.take k).flatMap f
 |[],_=>by simp
 |_::_,0=>by simp
 |x::l,k+1=>by
  rw [abL,List.take_succ_cons,abL,List.take_append,abI (by rw [a,ads];omega),a,←KS f sz a l k]
  congr 2
  rw [ads];omega
def rC (x:Sm):List Value:=x.cells.toList
theorem Du (x:Sm):abk (rC x)=11:=rfl
def uI:SI abl 280 11:=⟨by kernel_rfl,by kernel_rfl⟩
theorem zP:EI abl 111 280 (.agg (Sm.cells ⟨0,0,0,0,0,0,0,0,0,0,0⟩)) 11 48:=⟨by kernel_rfl,by kernel_rfl,rfl,by omega⟩
structure oW (w:World) (es:List Ev) (r:Ending) (w':World):Prop where
 ret:∃v,r= .returned v∧w'.ownsRow w.heap.size 73 11 v (abk es) (es.flatMap iw)
 below:Below w.heap.size w w'
theorem ziw (n:Nat) (l:List Sm) (h:abk l=n):abJ .i64 (if ((200:Int)<(n:Int)) then 200 else (n:Int))= .int .i64 ((abk (l.take 200):Nat):Int):=by
 congr 1
 rw [abu]
 split<;>omega
def q22 {t:TypeId} {a b d:Nat} (h:w.heap[g]?=some (.cells #[.int .i64 (a:Int),.int .i64 (b:Int),.int .i64 (c:Int),.int .i64 (d:Int)] t (0,0))) {k r:Nat} (hk:k<4) (hr:(if k=0 then a else if k=1 then b else if k=2 then c else d)=r):w.cell? ⟨g,k*1,none⟩=some (.int .i64 (r:Int)):=by
 subst hr
 unfold World.cell?
 rw [h]
 obtain rfl|rfl|rfl|rfl:k=0∨k=1∨k=2∨k=3:=by omega
 all_goals rfl
def qyp (k:Nat):0<rA k∧rA k≤4294967296:=by unfold rA;split<;>(try split)<;>(try split)<;>omega
def q23 (k:Nat):0<stepT k∧stepT k≤4294967296:=by unfold stepT;split<;>(try split)<;>(try split)<;>omega
def go_step {cpu:Nat} {a:Bs} {L:List Sm} {x y:Sm} {z:Ev} (b:L[k]?=some x) (hy:({x with cpu:=cpu}:Sm)=y) (hz:y.ev.moved (a.step x).seq (a.step x).time=z):uH cpu a (L.drop k)=z::uH cpu (a.step x) (L.drop (k+1)):=by
 obtain ⟨c,d⟩:=aby.1 b
 rw [acu c,d,uH,hy,hz]
def qyq (cpu:Nat) (D:cpu<256) (b:Bs) (hb:b.Ok) (A:Option Addr) (c:Nat) (l:List Sm) (hl:∀x∈l,x.Ok) (w:World) (hr:Rd w w.heap.size 11 A (abk l) (l.flatMap rC)) (hc:abk l≤c) (hn:abk l≤9223372036854775807):
    Calls abl 104 #[.int .u8 (cpu:Int),.agg b.cells,.slice A (abk l) c] w (oW w (lu cpu b l)):=by
 refine (wU Tryz.func104 74) ?_
 refine (JP∘JE) λw4 g4=>(Jp 1∘Jq) ?_
 obtain ⟨_,hb1,hb2,hb3,hb4⟩:=OP b
 obtain ⟨L,r⟩:∃L,l.take 200=L:=⟨_,rfl⟩
 have O:abk L≤abk l∧abk L≤200:=by rw [←r,abu];omega
 have P:∀x∈L,x.Ok:=λx E=>hl x (ach (by rw [r];exact E))
 have F:Rd w w.heap.size 11 A (abk L) (L.flatMap rC):=by have h:=hr.upto (k:=abk L) O.1;rwa [KS rC 11 Du,show l.take (abk L)=L by rw [←r,abu];rcases Nat.le_total 200 (abk l) with h|h;rw [Nat.min_eq_left h];rw [Nat.min_eq_right h,abI (abo _),abI h]] at h
 refine (JG∘JP∘eF jO O0∘JL (h:=by exact λe=>q20 b hb _)) ?_
 rintro e _ uJ ⟨rfl,B⟩
 refine ⟨_,rfl,_,e.call B,?_⟩
 refine (JA #[vI 0,vI 0]) λw7 g7=>(JV jO aU (h1:=by exact Np b.based)) λOT=>(bG∘Jr∘Jg 0 O0∘Jp 1∘Jo (vI (b.based.seq-1)) (by exact oH ⟨by omega,by omega⟩)∘Jf 0) λa Z e=>?_
 refine fo Z 4 rfl rfl ?_
 refine pX Z e (i:=0) rfl rfl rfl rfl kr rfl rfl (by simp [Bs.cells]) λagb e=>?_
 refine Jb Z e ((oI∘Jr∘Jp 1∘Jq∘JC (h:=by exact λe=>e.nil 73 11)∘JG∘JQ∘JP∘Jp 2∘Jl∘Jy (v:=vI (if (200:Int)<(abk l:Int) then 200 else (abk l:Int))) (h:=by exact Yl.min rfl rfl rfl)∘Jo (vI (abk L)) (by rw [←r];exact ziw _ _ rfl)∘Jy (h:=by exact aaf zP (j:=abk L) rfl rfl rfl om)∘Jl∘Jp 1∘Jj∘JB) λa Z e=>?_)
 refine qg (λmS aS G=>∃(k:Nat) (pre:List Ev) (g:Bs) (Q:Option Addr) (co:Nat),(k≤abk L)∧(uH cpu b.start L=pre++uH cpu g (L.drop k))∧(abk pre=k)∧(abk pre≤co)∧(0≤g.seq∧g.seq≤1099511627776+4294967296*(k:Int)∧0≤g.time∧g.time≤1099511627776+4294967296*(k:Int))∧mS=abk L-k∧Fr aS 74 [] [(24,vI k),(23,vI (abk L)),(22,.slice A (abk L) c),(8,.slice Q (abk pre) co),(7,vP g7 0),(6,.slice none 0 0),(0,vB cpu)]∧Mem w G [.row (.slice Q (abk pre) co) (abk pre) (pre.flatMap iw) 73 11,.blk g7 g.cells 110]) (m:=abk L-0) ⟨0,[],b.start,none,0,abx _,rfl,rfl,abo _,by show 0≤b.based.seq-1∧b.based.seq-1≤_∧0≤b.based.time∧b.based.time≤_;omega,rfl,Z.sub kr,e.pk [0,1]⟩ ?_
 clear Z e;rintro mS a w_ ⟨k,pre,g,Q,co,hk,H,R,hco,ha,rfl,Z,e⟩
 refine Jb Z e ((JP∘Jp 1∘Jj∘JQ) (Ji (λI=>?_) λI=>?_))
 ·
  have C:k<abk L:=by omega
  obtain ⟨x,E⟩:∃x,L[k]?=some x:=⟨_,abt C⟩
  have s:=P x (abF E)
  obtain ⟨y,T⟩:∃y,({x with cpu:=cpu}:Sm)=y:=⟨_,rfl⟩
  have U:y.Ok:=by rw [←T];exact {s with cpu:=D}
  have V:=qyp x.kind
  have W:=q23 x.kind
  have hm1:=adA x.seq V.1
  have hm2:=adA x.time W.1
  obtain ⟨z,hz⟩:∃z,y.ev.moved (g.step x).seq (g.step x).time=z:=⟨_,rfl⟩
  intro a Z e
  have X:=go_step (a:=g) E T hz
  have hxk:=s.kind
  have hxs:=s.seq
  have hxt:=s.time
  refine Jb Z e ((JT∘aD∘JQ∘JB∘JP) ?_)
  obtain ⟨gA,oA,rfl,_⟩:=F.sat k (hk:=C)
  refine (gZ k 11 (hy:=C)∘Jy (v:= .agg x.cells) (h:=by exact Pe rfl rfl uI rfl (λ_ h=>(h.old F).AZ Du (E)))∘JA #[vB 0,vB 0,vW 0,vW 0,vW 0,vW 0,vW 0,vW 0,vW 0,vW 0,vQ 0]) λuz g10=>(JV uI aU (h1:=by exact zev x)) λOU=>(bG∘Jr∘Jp 1∘Jf 1) λa Z e=>?_
  refine fo Z 2 rfl rfl ?_
  refine pX Z e (i:=0) rfl rfl rfl rfl kr rfl rfl (by simp [Sm.cells]) λOV e=>?_
  refine Jb Z e ((mM∘Jr∘Jy (v:= .agg #[vB x.kind,vB cpu,vW x.seq,vW x.time,vW x.task,vW x.group,vW x.to,vW x.weight,vW x.ticks,vW x.got,vQ x.mask]) (h:=by exact Pe rfl rfl uI rfl (λ_ h=>qi (h.blk (i:=0) rfl)))∘Jo (.agg y.cells) (by rw [←T];try rfl)∘JL (h:=by exact λe=>q21 y U _)) ?_)
  rintro e _ KT ⟨rfl,B⟩
  refine ⟨_,rfl,_,e.call B,?_⟩
  refine (JA #[vI 0,vI 0,vB 0,vB 0,vI 0,vI 0,vI 0,vI 0,vI 0,vQ 0,vI 0]) λwW g11=>(JV ⟨kr,kr⟩ aU (h1:=by exact Kh y.ev)) λagc=>(bG∘Jj) λa Z e=>?_
  refine wp_seq ?_
  refine Jb Z e ((Vs .n [16]) λOW=>(Vf 0 0∘Vf 2 2∘Vf 6 0∘Vc 1 O3∘Vc 3 O1∘Vw 4 .i64∘Vc 7 O1∘Vp [8]∘Vo (vB (x.kind/16:Nat)) (by exact tC .u8 x.kind (j:=4) (q:=16) rfl rfl)∘Vp [9]∘Vo (vB ((x.kind/16)%4:Nat)) (by exact q9 .u8 _ 4)) λa Z e o=>?_)
  refine s_on Z 5 rfl (iW Z e zy [(0,vI 1),(1,vI 3),(2,vI 200),(3,vI 4294967296)] #[vI 1,vI 3,vI 200,vI 4294967296] ?_)
  clear Z e;intro a Dv Y Z e
  refine ay (e.pk [1,2,3,4]) (λo=>?_)
  refine Vb Z e o ((Vy 10 (h:=by exact Yl.iH Y (x.kind/2^4%4) 1 rfl rfl rfl)) λa Z e o=>?_)
  refine s_on Z 11 rfl ?_
  refine Yl.wp (S:=λG=>Mem w G _) (v:=vI (rA x.kind)) (Pd rfl rfl kr (λ_ h=>q22 (a:=1) (b:=3) (c:=200) (d:=4294967296) (h.blk (i:=0) rfl) om rfl)) Z e rfl de λa Z=>?_
  refine ay o (λo=>?_)
  refine Vb Z e o ((Vy 12 (v:=vI (x.seq% (rA x.kind):Nat)) (h:=by exact aau (m:=x.seq) (n:=(rA x.kind)) rfl rfl rfl om)∘Vp [13]∘Vo (vI (1+(x.seq% (rA x.kind)):Nat)) (by exact q8 om om)∘Vp [14]∘Vo (vI ((g.step x).seq)) (by exact oH (x:=g.seq+((1+x.seq%rA x.kind:Nat):Int)) ⟨by omega,by omega⟩)∘Vf 15 0) λa Z e o=>?_)
  refine s_on Z 16 rfl ?_
  refine pX Z e (i:=4) rfl rfl rfl rfl kr rfl rfl (by simp [Bs.cells]) λXi e=>?_
  refine dM kr ?_
  refine qd kr ?_
  refine wp_seq ?_
  refine Jb Z e ((Vs .n [14]) λqO=>(Vf 0 1∘Vf 2 3∘Vf 6 0∘Vc 1 O4∘Vc 3 O2∘Vw 4 .i64∘Vc 7 O2∘Vp [8]∘Vo (vB (x.kind/64:Nat)) (by exact tC .u8 x.kind (j:=6) (q:=64) rfl rfl)) λa Z e o=>?_)
  refine s_on Z 5 rfl (iW Z e zy [(0,vI 1),(1,vI 300),(2,vI 100000),(3,vI 4294967296)] #[vI 1,vI 300,vI 100000,vI 4294967296] ?_)
  clear Z e;intro a Wm g53 Z e
  refine ay (e.pk [1,2,3,4,5]) (λo=>?_)
  refine Vb Z e o ((Vy 9 (h:=by exact Yl.iH g53 (x.kind/2^6) 1 rfl rfl rfl)) λa Z e o=>?_)
  refine s_on Z 10 rfl ?_
  refine Yl.wp (S:=λG=>Mem w G _) (v:=vI (stepT x.kind)) (Pd rfl rfl kr (λ_ h=>q22 (a:=1) (b:=300) (c:=100000) (d:=4294967296) (h.blk (i:=0) rfl) om rfl)) Z e rfl de λa Z=>?_
  refine ay o (λo=>?_)
  refine Vb Z e o ((Vy 11 (v:=vI (x.time% (stepT x.kind):Nat)) (h:=by exact aau (m:=x.time) (n:=(stepT x.kind)) rfl rfl rfl om)∘Vp [12]∘Vo (vI ((g.step x).time)) (by exact oH (x:=g.time+((x.time%stepT x.kind:Nat):Int)) ⟨by omega,by omega⟩)∘Vf 13 1) λa Z e o=>?_)
  refine s_on Z 14 rfl ?_
  refine pX Z e (i:=5) rfl rfl rfl rfl kr rfl rfl (by simp [Bs.cells]) λN e=>?_
  refine dM kr ?_
  refine qd kr ?_
  refine wp_seq ?_
  refine Jb Z e ((Vs (.t (.t (.f .n))) [7]) λOl=>(Vf 0 0∘Vf 2 1∘Vc 1 O4∘Vf 4 0∘Vc 3 O4) λa Z e o=>?_)
  refine s_on Z 5 rfl ?_
  refine pX Z e (i:=2) rfl rfl rfl rfl kr rfl rfl (by simp [Ev.cells]) λXj e=>?_
  refine ay (e.pk [0,1,3,4,5]) (λo=>?_)
  refine Vb Z e o ((Vf 6 1) λa Z e o=>?_)
  refine s_on Z 7 rfl ?_
  refine pX Z e (i:=2) rfl rfl rfl rfl kr rfl rfl (by simp [Ev.cells]) λXk e=>?_
  refine dM kr ?_
  refine qd kr ?_
  refine Jb Z e ((JR∘Jp 1∘Jy (v:= .agg #[vI ((g.step x).seq),vI ((g.step x).time),vB y.ev.cpu,vB y.ev.kind,vI y.ev.task,vI y.ev.group,vI y.ev.to,vI y.ev.weight,vI y.ev.ticks,vQ y.ev.mask,vI y.ev.got]) (h:=by exact Pe rfl rfl ⟨kr,kr⟩ rfl (λ_ h=>qi (h.blk (i:=2) rfl)))∘Jo (.agg z.cells) (by rw [←hz];try rfl)∘JU y9 z.cells) λw70 g70=>(JD (iw z) 5 (λ_ _=>uw) y9 (hr:=by exact λe=>e.aW (i:=0) (n:=1) (size:=11) rfl rfl) (h1:=by exact Kh z)) λw71 J K u=>(Jp 1∘aF∘Jq) ?_)
  have p:(abk pre+1)=abk (pre++[z]):=by rw [abm];rfl
  rw [p] at u
  refine (JC (h:=by exact λe=>e.aT (i:=5) (ys:=(pre++[z]).flatMap iw) rfl p (by rw [abO,List.flatMap_singleton]))∘Jk 8 (.slice J (abk (pre++[z])) K) (h:=by exact gF p)∘JG∘JR∘cK 1∘Jp 1∘aK∘Jq) λa Z e=>?_
  exact ⟨_,om,k+1,(pre++[z]),(g.step x),J,K,by omega,by rw [H,X,abz];rfl,by rw [abm,R];rfl,u,by show 0≤g.seq+((1+x.seq%rA x.kind:Nat):Int)∧g.seq+((1+x.seq%rA x.kind:Nat):Int)≤_∧0≤g.time+((x.time%stepT x.kind:Nat):Int)∧g.time+((x.time%stepT x.kind:Nat):Int)≤_;omega,rfl,Z.sub kr,e.pk [5,6]⟩
 have M:uH cpu b.start L=pre:=by rw [H,adq om];exact abN _
 exact (JF∘JX∘JG∘JP∘Jp 2∘aK∘Jj∘JZ∘aZ) λe=>by exact ⟨⟨_,rfl,by unfold lu;rw [r,M];exact e.own (i:=0) rfl⟩,e.below⟩
def Xl (cpu:Nat) (a:cpu<256) (b:Bs) (hb:b.Ok) (A:Option Addr) (n c:Nat) (l:List Sm) (d:∀x∈l,x.Ok) (w:World) (hr:Rd w w.heap.size 11 A n (l.flatMap rC)) (hc:n≤c) (e:n≤9223372036854775807):
  Calls abl 104 #[.int .u8 (cpu:Int),.agg b.cells,.slice A n c] w (oW w (lu cpu b l)):=by
 obtain rfl:abk l=n:=by have:=hr.len;rw [zk rC 11 Du] at this;omega
 exact qyq cpu a b hb A c l d w hr hc e
instance Wo:DecidableEq Ev:=λ⟨c,d,e,f,g,h,i,j,k,l,a⟩ ⟨m,n,p,q,r,s,t,u,v,w,b⟩=>
 decidable_of_iff (c=m∧d=n∧e=p∧f=q∧g=r∧h=s∧i=t∧j=u∧k=v∧l=w∧a=b) (by rw [Ev.mk.injEq])
section
variable {P:Program} {S:World→Prop} {σ:List (Nat×Value)} {o:Oper}
end
def Bk.cells (b:Bk) (A:Option Addr) (c:Nat):Array Value:= #[.int .u8 (b.kind:Int),.int .u8 (b.cpu:Int),.int .i64 b.lost,.int .i64 b.next,.slice A (abk b.evs) c]
theorem tJ (b:Bk) (A:Option Addr) (c:Nat):∀v∈(b.cells A c).toList,v.oneCell'=true:=by intro v a;simp [Bk.cells] at a;rcases a with rfl|rfl|rfl|rfl|rfl<;>rfl
theorem aL:SI abl 85 5:=⟨by kernel_rfl,by kernel_rfl⟩
def E8:EI abl 402 30 (.slice none 0 0) 1 24:=⟨by kernel_rfl,by kernel_rfl,rfl,by omega⟩
theorem zJ:SI abl 287 2:=⟨by kernel_rfl,by kernel_rfl⟩
structure aM (B:Nat) (w:World):Prop where
 laid:Laid B w
 halves:∀k,k<16→w.cell? ⟨1,k,none⟩=some (.int .u32 ((sw.getD k 0:Nat):Int))
 E9:1<B
 qM:w.cell? ⟨0,0,none⟩=some (.int .u8 113)
 qN:w.cell? ⟨0,1,none⟩=some (.int .u8 116)
 Bj:0<B
def aM.pW (h:aM B w) (hk:∀p:Addr,p.block<B→W.cell? p=w.cell? p):aM B W:=
 ⟨h.laid.pW hk,λk a=>(hk _ h.E9).trans (h.halves k a),h.E9,(hk _ h.Bj).trans h.qM,(hk _ h.Bj).trans h.qN,h.Bj⟩
theorem aM.mem (h:aM B W) (a:Mem W w fs) (b:B≤W.heap.size):aM B w:=h.pW λ_ c=>a.below.cell om
theorem aM.below (h:aM B w) (hb:Below c w W) (a:B≤c):aM B W:=h.pW λp b=>hb.cell om
theorem WA (h:aM B W) (a:Mem W w fs) (b:B≤W.heap.size) {k:Nat} (hk:k<16):w.cell? ⟨1,k*1,none⟩=some (.int .u32 ((sw.getD k 0:Nat):Int)):=by
 rw [ac5];exact (h.mem a b).halves k hk
theorem q8r (h:aM B W) (b:Mem W w fs) (c:B≤W.heap.size):w.rangeAt 0 0 (#[abJ .u8 113,.int .u8 116]:Array Value).toList:=λj v a=>by
 have h1:=(h.mem b c).qM
 have h2:=(h.mem b c).qN
 rcases j with _|_|j
 ·simp at a;subst a;exact h1
 ·simp at a;subst a;exact h2
 ·simp at a
theorem WB (h:abk b.evs≠0):b.Dp=decide ((b.evs.getD 0 Ev.zero).cpu=b.cpu):=by grind [Bk.Dp]
theorem WC (h:abk b.evs=0):b.Dp=decide (0<b.lost):=by
 unfold Bk.Dp
 rw [List.length_eq_zero_iff] at h
 rw [h]
theorem q2f (b:Bk):b.base=⟨(b.evs.getD 0 Ev.zero).seq,(b.evs.getD 0 Ev.zero).time⟩:=by
 unfold Bk.base Ev.at
 cases b.evs<;>rfl
def zir (k:Nat):k=1∨k=2∨(k≠1∧k≠2):=by omega
def q8s (a:b.Ok) (h:b.fits=true) (hk:b.kind≠2) (c:abk b.evs≠0):0≤b.base.seq∧b.base.seq≤281474976710656∧0≤b.base.time∧b.base.time≤281474976710656:=by
 obtain ⟨e,r,g⟩:=Wz a (Oo h hk).2 c
 have:=g.right
 rw [←g.base] at this
 have h4:1≤b.base.seq∧b.base.seq≤281474976710656∧0≤b.base.time∧b.base.time≤281474976710656:=by simpa [Bs.right] using this
 omega
def q2g (h:b.fits=true) (hk:b.kind≠2):b.kind=1∧0≤b.lost∧b.lost≤281474976710656∧b.cpu<64∧b.next=0:=by grind [Bk.oV,Oo]
def q2h (h:b.fits=true) (hk:b.kind=2):1≤b.next∧b.next≤281474976710657∧b.cpu=0∧b.lost=0∧abk b.evs=0:=by
 have h2:=q8q h hk
 unfold Bk.uD at h2
 rw [decide_eq_true_eq] at h2
 exact h2
section
open Go.ChangeShapes Go.WideShapes
def q8t {B:List Value} {p:List MemPlace}
  (h:DataW.trod (λ_=>()) abl W 0 (λ_=>true) false m 38 B=some (.slice (l.map λz:Nat=> .lit (.int .i64 (z:Int))) [],p)):
  ∃A c,B=[.slice A (abk l) c]∧Rd W W.heap.size 1 A (abk l) (l.map dG):=by
 obtain ⟨a,cap,g,r,d⟩:=open_row (e:=3) kr kr h
 have b:∀i z,l[i]?=some z→W.cell? (a.add i)=some (dG z):=by
  intro i z hz
  obtain ⟨v,n,q,hc,ht⟩:=d i (.lit (.int .i64 (z:Int))) (by rw [adb,hz];rfl)
  obtain ⟨s,e1,e2,_⟩:=DataW.trod_int (k:= .i64) kr ht
  injection e1 with e1
  injection e2 with e2
  subst e1
  simp only [DataW.lit.injEq,Lit.int.injEq,true_and] at e2
  rw [hc,←e2]
  rfl
 refine ⟨some a,cap,by rw [g,abv],by simp,λo=>⟨a,rfl,?_,?_⟩⟩
 ·cases l with
  |nil=>simp at o
  |cons z l=>
   have:=ad9 W _ (b 0 z rfl)
   simpa [Addr.add] using this
 ·intro j u f
  rw [adb] at f
  cases hz:l[j]? with
  |none=>simp [hz] at f
  |some z=>rw [hz] at f;cases f;exact b j z hz
def qs5 (h:laidMetH abl Rows.archiveOneRow.laid W):Laid W.heap.size W:=by
 rw [MakeChecks.laidMetH_plain _ _ _ kr] at h
 obtain ⟨R, S, m, T, U, o, p, r, t⟩ := Lib.laidMet.reads h (n := "quantum/event.fields") (d := Rows.laid_quantum_event_fields) (acB ..)
 obtain ⟨V, X, u, Y, Z, w, x, y, B⟩ := Lib.laidMet.reads h (n := "quantum/event.uses") (d := Rows.laid_quantum_event_uses) (ab2 _ (acB ..))
 have f : Tryz.prog.globalNamed "quantum/event.fields" = some 3 := by kernel_rfl
 have g : Tryz.prog.globalNamed "quantum/event.uses" = some 2 := by kernel_rfl
 obtain rfl:=Option.some.inj (f.symm.trans o)
 obtain rfl:=Option.some.inj (g.symm.trans w)
 have C:(Tryz.prog.globals[3]?).map (·.type)=some 459:=by kernel_rfl
 have D:(Tryz.prog.globals[2]?).map (·.type)=some 410:=by kernel_rfl
 obtain rfl:=Option.some.inj (C.symm.trans p)
 obtain rfl:=Option.some.inj (D.symm.trans x)
 have j:Tryz.prog.cellsOf 9=1:=by kernel_rfl
 have l:Tryz.prog.cellsOf 38=1:=by kernel_rfl
 have M:∀i v,m.toList[i]?=some v→W.cell? ⟨3,i,none⟩=some v:=λi v E=>by
  rw [agr f r i];simpa using E
 have K:∀i v,u.toList[i]?=some v→W.cell? ⟨2,i,none⟩=some v:=λi v E=>by
  rw [agr g y i];simpa using E
 have b:∀(F:List Value) (i:Nat) (v:Value),(F.drop (i*1)).take 1=[v]→F[i]?=some v:=by
  intro F i v h
  have:=congrArg (·[0]?) h
  simpa [adx,acO] using this
 have str:∀i,i<7→∃s:ByteArray,W.cell? ⟨3,i,none⟩=some (.string s):=by
  intro i hi
  obtain ⟨N,d,q,_,ht⟩:=agL (n:=7) (e:=9) kr t i hi
  rw [j] at ht
  obtain ⟨s,hs,_⟩:=DataW.trod_string kr ht
  exact ⟨s,M i _ (b _ _ _ hs)⟩
 have row:∀k,k<11→∃A c,W.cell? ⟨2,k,none⟩=some (.slice A (aR k).length c)∧Rd W W.heap.size 1 A (aR k).length ((aR k).map dG):=by
  intro k O
  obtain ⟨N,d,q,G,ht⟩:=agL (n:=11) (e:=38) kr B k O
  rw [l] at ht
  by_cases h0:k=0
  ·subst h0
   simp only [List.getElem?_cons_zero,Option.some.injEq] at G
   subst G
   rcases DataW.trod_slice (e:=3) kr ht with ⟨hc,_⟩|⟨a,len,cap,H,L,n,_,_,P,_⟩
   ·exact ⟨none,0,K 0 _ (b _ _ _ hc),Rd.nil⟩
   ·simp at P
  ·have I:d= .slice ((aR k).map λz:Nat=> .lit (.int .i64 (z:Int))) []:=by
    have J:k=1∨k=2∨k=3∨k=4∨k=5∨k=6∨k=7∨k=8∨k=9∨k=10:=by omega
    rcases J with rfl|rfl|rfl|rfl|rfl|rfl|rfl|rfl|rfl|rfl<;>exact (Option.some.inj G).symm
   subst I
   obtain ⟨A,c,hc,Q⟩:=q8t ht
   exact ⟨A,c,K k _ (b _ _ _ hc),Q⟩
 refine ⟨row,?_,str,?_⟩
 ·obtain ⟨A,c,h1,_⟩:=row 0 om
  exact ad9 W _ h1
 ·obtain ⟨s,h1⟩:=str 0 om
  exact ad9 W _ h1
def WE:Tryz.prog.underlying 61=some (.int .u32):=by kernel_rfl
set_option maxRecDepth 100000 in
theorem qqe (h:laidMetH Tryz.prog Rows.archiveOneRow.laid W):aM W.heap.size W:=by
 have I:=qs5 h
 rw [MakeChecks.laidMetH_plain _ _ _ kr] at h
 obtain ⟨M, N, p, O, P, r, s, t, u⟩ := Lib.laidMet.reads h (n := "quantum/crc.halves") (d := Rows.laid_quantum_crc_halves) (List.mem_cons_of_mem _ (List.mem_cons_of_mem _ (List.mem_cons_self ..)))
 obtain ⟨Q, R, w, S, T, x, y, A, B⟩ := Lib.laidMet.reads h (n := "quantum/block.magic") (d := Rows.laid_quantum_block_magic) (List.mem_cons_of_mem _ (List.mem_cons_of_mem _ (List.mem_cons_of_mem _ (List.mem_cons_self ..))))
 have f : Tryz.prog.globalNamed "quantum/crc.halves" = some 1 := by kernel_rfl
 have g : Tryz.prog.globalNamed "quantum/block.magic" = some 0 := by kernel_rfl
 obtain rfl:=Option.some.inj (f.symm.trans r)
 obtain rfl:=Option.some.inj (g.symm.trans x)
 have C:(Tryz.prog.globals[1]?).map (·.type)=some 405:=by kernel_rfl
 have D:(Tryz.prog.globals[0]?).map (·.type)=some 287:=by kernel_rfl
 obtain rfl:=Option.some.inj (C.symm.trans s)
 obtain rfl:=Option.some.inj (D.symm.trans y)
 have j:Tryz.prog.cellsOf 61=1:=by kernel_rfl
 have l:Tryz.prog.cellsOf 5=1:=by kernel_rfl
 have J:∀i v,p.toList[i]?=some v→W.cell? ⟨1,i,none⟩=some v:=λi v E=>by
  rw [World.var?_cell f t i];simpa using E
 have K:∀i v,w.toList[i]?=some v→W.cell? ⟨0,i,none⟩=some v:=λi v E=>by
  rw [World.var?_cell g A i];simpa using E
 have m:∀(F:List Value) (i:Nat) (v:Value),(F.drop (i*1)).take 1=[v]→F[i]?=some v:=by
  intro F i v h
  have:=congrArg (·[0]?) h
  simpa [List.getElem?_take,List.getElem?_drop] using this
 have o:∀k,k<16→W.cell? ⟨1,k,none⟩=some (.int .u32 ((sw.getD k 0:Nat):Int)):=by
  intro k G
  obtain ⟨L,d,q,H,ht⟩:=Lib.array_elem (n:=16) (e:=61) kr u k G
  rw [j] at ht
  have a:d= .lit (.int .u32 ((sw.getD k 0:Nat):Int)):=by
   have b:k=0∨k=1∨k=2∨k=3∨k=4∨k=5∨k=6∨k=7∨k=8∨k=9∨k=10∨k=11∨k=12∨k=13∨k=14∨k=15:=by omega
   rcases b with rfl|rfl|rfl|rfl|rfl|rfl|rfl|rfl|rfl|rfl|rfl|rfl|rfl|rfl|rfl|rfl<;>exact (Option.some.inj H).symm
  subst a
  obtain ⟨z,e1,e2,_⟩:=DataW.trod_int WE ht
  have e2:=congrArg Prod.fst e2
  simp only [DataW.lit.injEq,Lit.int.injEq,true_and] at e2
  exact J k _ (by rw [m _ _ _ e1,←e2])
 have c:∀k,k<2→W.cell? ⟨0,k,none⟩=some (.int .u8 (([113,116].getD k 0:Nat):Int)):=by
  intro k G
  obtain ⟨L,d,q,H,ht⟩:=Lib.array_elem (n:=2) (e:=5) kr B k G
  rw [l] at ht
  have a:d= .lit (.int .u8 (([113,116].getD k 0:Nat):Int)):=by
   have b:k=0∨k=1:=by omega
   rcases b with rfl|rfl<;>exact (Option.some.inj H).symm
  subst a
  obtain ⟨z,e1,e2,_⟩:=DataW.trod_int C8 ht
  have e2:=congrArg Prod.fst e2
  simp only [DataW.lit.injEq,Lit.int.injEq,true_and] at e2
  exact K k _ (by rw [m _ _ _ e1,←e2])
 exact ⟨I,o,World.block_lt_of_cell? W _ (o 0 om),c 0 om,c 1 om,World.block_lt_of_cell? W _ (c 0 om)⟩
end
def q8u (n:Nat) (q:n≤1000000000000) (w:World):
    Calls abl 276 #[vN,vI n] w λr f=>(∃A c,r= .returned (.slice A 0 c)∧f.ownsRow w.heap.size 5 1 (.slice A 0 c) 0 [])∧Below w.heap.size w f:=by
 refine (iX Tryz.func276 27) ?_
 refine (JP∘Jp 1∘Jj∘JQ∘JP∘Jp 2∘aK∘Jj) (Ji (λe=>?_) λe=>?_)
 ·
  intro a Z b
  omega
 refine (JF∘aD∘JQ∘JP∘Jp 2∘Jy (h:=by exact Yl.cap rfl rfl kr)∘Jp 1∘Jl∘Jv 2 [(14,vI (IntKind.i64.wrap ((n:Int)-0)))]∘Jo (vI n) (by exact q8 om om)∘Jp 1∘aF∘Jr∘Jp 2∘aK∘Jj) (Ji (λd=>?_) λd=>?_)
 ·
  refine (JT∘JR∘Jp 2∘Jy (h:=by exact Yl.cap rfl rfl kr)∘Jy (h:=by exact aaf aX (j:=0) rfl rfl rfl om)∘Jp 1) λa Z b=>?_
  refine fo Z 5 rfl rfl ?_
  refine qnw Z b (kn:= .i64) (m:=n) rfl aX kr rfl rfl om om om rfl de ?_
  clear Z b;intro a l o p Z b g
  exact Jb Z b ((Jp 1∘Jl∘Jy (h:=by exact aaf aX (j:=0) rfl rfl rfl om)∘Jp 1∘aF∘Jq∘JC (h:=by exact λb=>(b.shrink (i:=0) (k:=0) rfl (abx _) (λh=>by cases h)).bM (i:=0) (ys:=[]) rfl (by simp))∘JG∘JP∘Jp 2∘aK∘Jj∘JZ∘aZ) λb=>by exact ⟨⟨_,_,rfl,b.own (i:=0) rfl⟩,b.below⟩)
 exact (JF∘aD∘JP∘Jp 2∘aK∘Jj∘JZ∘aZ) λb=>by exact ⟨⟨_,_,rfl,acQ _ _ _ _⟩,b.below⟩
def qyi (A:Option Addr) (n c:Nat) (ps:List Part) (w:World) (hr:Rd w w.heap.size 1 A n (ps.map aaD)) (L:abk ps=n) (T:n≤1000000) (u:∀p∈ps,Rd w w.heap.size 1 p.A (abk p.l) (p.l.map B8)) (H:abk (ps.flatMap (·.l))≤1000000000000):
    Calls abl 229 #[.slice A n c] w (ru w (ps.flatMap (·.l))):=by
 refine (dY Tryz.func229 36) ?_
 refine (JP∘Jp 1∘Jr∘Jp 1∘Jj∘JQ∘JP∘Jp 1∘Jl∘Jp 1∘Jj∘JB) λa Z b=>?_
 refine qg (λg y z=>∃(k:Nat),(k≤n)∧g=n-k∧Fr y 36 [] [(11,vI k),(10,vI n),(9,.slice A n c),(3,vI (abk ((ps.take k).flatMap (·.l)))),(2,vN),(0,.slice A n c)]∧Mem w z []) (m:=n-0) ⟨0,abx _,rfl,Z.sub kr,b.pk []⟩ ?_
 clear Z b;rintro g a M ⟨k,N,rfl,Z,b⟩
 have O:=EM (l:=ps) k
 have I:=EM (l:=ps) (k+1)
 refine Jb Z b ((JP∘Jp 1∘Jj∘JQ) (Ji (λj=>?_) λj=>?_))
 ·
  have J:k<n:=by omega
  refine (JT∘aD∘JQ∘JB∘JP) ?_
  obtain ⟨gA,P,rfl,_⟩:=hr.sat k
  refine (gZ k 1∘Jy (v:= .slice ((ps.getD k (⟨none,0,[]⟩:Part)).A) ((ps.getD k (⟨none,0,[]⟩:Part)).l.length) ((ps.getD k (⟨none,0,[]⟩:Part)).c)) (h:=by exact Pd rfl rfl kr (λ_ h=>(h.old hr).EJ (k:=k) (xI (F:=aaD) (k:=k) (x:=(ps.getD k (⟨none,0,[]⟩:Part))) ((getD_at (⟨none,0,[]⟩:Part) (k:=k) (by first|omega|(simp;omega)))))))∘Jp 1∘bG∘Jr∘Jp 2∘Jl∘Jp 1∘Jo (vI (abk ((ps.take (k+1)).flatMap (·.l)))) (by exact q8 (by rw [EL (d:=(⟨none,0,[]⟩:Part)) om,abm];omega) (by have:=EM (l:=ps) (k+1);omega))∘Jp 1∘gG∘Jr∘Jp 2∘aK∘Jj) (Ji (λo=>?_) λo=>?_)
  ·
   intro a Z b
   omega
  refine (JF∘aD∘JR∘cK 1∘Jp 1∘aK∘Jq) λa Z b=>?_
  exact ⟨_,om,k+1,by omega,rfl,Z.sub kr,b.pk []⟩
 obtain rfl:n=k:=by omega
 refine (JF∘JX∘JG∘JP∘Jp 1∘JL (h:=by exact λb=>q8u _ om _)) ?_
 rintro b _ Q ⟨⟨B,C,rfl,R⟩,D⟩
 refine ⟨_,rfl,_,b.bN D R,?_⟩
 refine (Jp 1∘bG∘Jj∘JQ∘JP∘Jp 1∘Jl∘Jp 1∘Jj∘JB) λa Z b=>?_
 refine qg (λg y z=>∃(k:Nat) (E:Option Addr) (t:Nat),(k≤n)∧(abk ((ps.take k).flatMap (·.l))≤t)∧g=n-k∧Fr y 36 [] [(27,vI k),(26,vI n),(25,.slice A n c),(6,abg E ((ps.take k).flatMap (·.l)) t),(12,.bool false),(11,vI n),(10,vI n),(9,.slice A n c),(3,vI (abk ((ps.take n).flatMap (·.l)))),(2,vN),(0,.slice A n c)]∧Mem w z [abh E ((ps.take k).flatMap (·.l)) t B8 5 1]) (m:=n-0) ⟨0,B,C,abx _,abx _,rfl,Z.sub kr,b.pk [0]⟩ ?_
 clear Z b;rintro g a M ⟨k,E,t,N,G,rfl,Z,b⟩
 refine Jb Z b ((JP∘Jp 1∘Jj∘JQ) (Ji (λq=>?_) λq=>?_))
 ·
  have K:k<n:=by omega
  refine (JT∘aD∘JQ∘JB∘JP) ?_
  obtain ⟨gA,P,rfl,_⟩:=hr.sat k
  refine (gZ k 1∘Jy (v:= .slice ((ps.getD k (⟨none,0,[]⟩:Part)).A) ((ps.getD k (⟨none,0,[]⟩:Part)).l.length) ((ps.getD k (⟨none,0,[]⟩:Part)).c)) (h:=by exact Pd rfl rfl kr (λ_ h=>(h.old hr).EJ (k:=k) (xI (F:=aaD) (k:=k) (x:=(ps.getD k (⟨none,0,[]⟩:Part))) ((getD_at (⟨none,0,[]⟩:Part) (k:=k) (by first|omega|(simp;omega)))))))∘Jp 1∘bG∘Jj∘JR∘Jp 2∘JD ((ps.getD k (⟨none,0,[]⟩:Part)).l.map B8) 0 (λ_ _=>aU) aX (hr:=by exact λb=>b.old (u _ (qe _ om))) (h1:=by exact sj _) (hb:=by have:=EM (l:=ps) (k+1);rw [EL (d:=(⟨none,0,[]⟩:Part)) om,abm] at this;omega) (h63:=by have:=EM (l:=ps) (k+1);rw [EL (d:=(⟨none,0,[]⟩:Part)) om,abm] at this;omega)) λS r s f=>(Jp 1∘dU∘Jq) ?_
  have e:abk ((ps.take k).flatMap (·.l))+(ps.getD k (⟨none,0,[]⟩:Part)).l.length=abk ((ps.take (k+1)).flatMap (·.l)):=by rw [EL (d:=(⟨none,0,[]⟩:Part)) om,abm]
  rw [e] at f
  refine (JC (h:=by exact λb=>b.aT (i:=0) (ys:=((ps.take (k+1)).flatMap (·.l)).map B8) rfl e (by rw [EL (d:=(⟨none,0,[]⟩:Part)) om,abP]))∘Jk 6 (.slice r (abk ((ps.take (k+1)).flatMap (·.l))) s) (h:=by exact gF e)∘JG∘JR∘cK 1∘Jp 1∘aK∘Jq) λa Z b=>?_
  exact ⟨_,om,k+1,r,s,by omega,f,rfl,Z.sub kr,b.pk [0]⟩
 obtain rfl:n=k:=by omega
 exact (JF∘JX∘JG∘JP∘Jp 2∘aK∘Jj∘JZ∘aZ) λb=>qp6 (b.own (i:=0) rfl) G (by rw [abI om]) (by rw [abI om]) b.below
def qyj (c:Nat) (hc:c<4294967296) (A:Option Addr) (n cp:Nat) (l:List Nat) (B:Nat) (w:World) (g:aM B w) (i:B≤w.heap.size) (hr:Rd w w.heap.size 1 A n (l.map B8)) (r:abk l=n) (z:n≤140737488355328) (o:∀b∈l,b<256):
    Calls abl 238 #[vW c,.slice A n cp] w (Is w (vW (zg c l:Int))):=by
 refine (iX Tryz.func238 33) ?_
 refine (JP∘Jp 1∘Jj∘JQ∘JP∘Jp 1∘Jl∘Jp 1∘Jj∘JB) λa Z d=>?_
 refine qg (λp s t=>∃(k:Nat),(k≤n)∧p=n-k∧Fr s 33 [] [(9,vI k),(8,vI n),(7,.slice A n cp),(4,vW 0),(0,vW (zg c (l.take k)))]∧Mem w t []) (m:=n-0) ⟨0,abx _,rfl,Z.sub kr,d.pk []⟩ ?_
 clear Z d;rintro p a C ⟨k,D,rfl,Z,d⟩
 have f:=KC (l.take k) hc (uo o k)
 refine Jb Z d ((JP∘Jp 1∘Jj∘JQ) (Ji (λe=>?_) λe=>?_))
 ·
  refine (JT∘aD∘JQ∘JB∘JP) ?_
  obtain ⟨gA,E,rfl,_⟩:=hr.sat k
  refine (gZ k 1∘JH (getD_lt o (k:=k) (by first|omega|(simp;omega)))) λu=>(Jy (h:=by exact aad hr k 0 (by first|omega|(simp;omega)) rfl rfl)∘Jp 1∘bG∘Jr∘Jp 2∘Jw .u32∘Jp 1∘Jo (vW ((zg c (l.take k))^^^ (l.getD k 0):Nat)) (by exact Kv (m:=zg c (l.take k)) (n:=(l.getD k 0)) om om)∘Jp 1∘gG∘Jq) ?_
  have x:=ER f (show l.getD k 0<4294967296 by omega)
  refine (JG∘JP∘Jp 2∘Jo (vW (((zg c (l.take k))^^^ (l.getD k 0))/16:Nat)) (by exact tC .u32 ((zg c (l.take k))^^^ (l.getD k 0)) (j:=4) (q:=16) rfl rfl)∘Jp 2∘Jo (vW (((zg c (l.take k))^^^ (l.getD k 0))%16:Nat)) (by exact Vh (n:=15) (j:=4) rfl de om)∘Jy (v:=vP 1 ((((zg c (l.take k))^^^ (l.getD k 0))%16)*1)) (h:=by exact (Yl.uh (ad:=⟨1,0,none⟩) (m:=16) (y:=((zg c (l.take k))^^^ (l.getD k 0))%16) (sz:=1) rfl rfl rfl kr om).as (by rw [acT,aco]))∘Jy (v:=vW (sw.getD (((zg c (l.take k))^^^ (l.getD k 0))%16) 0)) (h:=by exact Pd rfl rfl kr (λ_ h=>WA g h i (k:=(((zg c (l.take k))^^^ (l.getD k 0))%16)) om))∘Jp 1∘Jo (vW (qG (zg c (l.take k)^^^l.getD k 0))) (by have h:=Kv (m:=(zg c (l.take k)^^^l.getD k 0)/16) (n:=sw.getD ((zg c (l.take k)^^^l.getD k 0)%16) 0) om (NW _ om);exact h)∘Jp 1∘aF∘Jq) ?_
  have hz:=zim x
  refine (JG∘JR∘Jp 2∘Jo (vW ((qG (zg c (l.take k)^^^l.getD k 0))/16:Nat)) (by exact tC .u32 (qG (zg c (l.take k)^^^l.getD k 0)) (j:=4) (q:=16) rfl rfl)∘Jp 2∘Jo (vW ((qG (zg c (l.take k)^^^l.getD k 0))%16:Nat)) (by exact Vh (n:=15) (j:=4) rfl de om)∘Jy (v:=vP 1 (((qG (zg c (l.take k)^^^l.getD k 0))%16)*1)) (h:=by exact (Yl.uh (ad:=⟨1,0,none⟩) (m:=16) (y:=(qG (zg c (l.take k)^^^l.getD k 0))%16) (sz:=1) rfl rfl rfl kr om).as (by rw [acT,aco]))∘Jy (v:=vW (sw.getD ((qG (zg c (l.take k)^^^l.getD k 0))%16) 0)) (h:=by exact Pd rfl rfl kr (λ_ h=>WA g h i (k:=((qG (zg c (l.take k)^^^l.getD k 0))%16)) om))∘Jp 1∘Jo (vW (zg c (l.take (k+1)))) (by have h:=Kv (m:=qG (zg c (l.take k)^^^l.getD k 0)/16) (n:=sw.getD (qG (zg c (l.take k)^^^l.getD k 0)%16) 0) om (NW _ om);rw [qsu om];exact h)∘Jp 1∘aF∘Jj∘JR∘cK 1∘Jp 1∘aK∘Jq) λa Z d=>?_
  exact ⟨_,om,k+1,by omega,rfl,Z.sub kr,d.pk []⟩
 obtain rfl:n=k:=by omega
 exact (JF∘JX∘JG∘JP∘Jp 2∘aK∘Jj∘JZ∘aZ) λd=>by exact ⟨by rw [abI om],d.below⟩
def qyk (c:Nat) (a:c<4294967296) (A:Option Addr) (n cp:Nat) (l:List Nat) (B:Nat) (w:World) (i:aM B w) (f:B≤w.heap.size) (hr:Rd w w.heap.size 1 A n (l.map B8)) (d:abk l=n) (j:n≤140737488355328) (g:∀b∈l,b<256):
    Calls abl 167 #[vW c,.slice A n cp] w (Is w (vW ((zg (c^^^4294967295) l^^^4294967295:Nat):Int))):=by
 refine (iX Tryz.func167 10) ?_
 refine (JP∘Jp 1∘Jq) ?_
 have hc:=ER a (show 4294967295<4294967296 by decide)
 have k:=KC l hc g
 exact (JG∘JP∘Jp 1∘Jy (v:=vW (c^^^4294967295:Nat)) (h:=by exact aaN (m:=c) rfl rfl om)∘Jp 1∘JI (h:=by exact λe=>qyj _ hc _ _ _ l B _ (i.mem e f) (e.le f) (e.old hr) d j g)) λp o=>(Jy (v:=vW ((zg (c^^^4294967295) l)^^^4294967295:Nat)) (h:=by exact aaN (m:=zg (c^^^4294967295) l) rfl rfl om)∘Jp 1∘lT∘Jj∘JZ) tH
theorem WG (A:Option Addr) (n cp:Nat) (l:List Nat) (B:Nat) (w:World) (g:aM B w) (e:B≤w.heap.size) (hr:Rd w w.heap.size 1 A n (l.map B8)) (c:abk l=n) (i:n≤140737488355328) (f:∀b∈l,b<256):
    Calls abl 108 #[.slice A n cp] w (Is w (vW (zo l:Int))):=by
 refine (dY Tryz.func108 5) ?_
 refine (JP∘Jp 1∘Jr∘Jp 1∘JL (h:=by exact λa=>qyk 0 de _ _ _ l B _ (g.mem a e) (a.le e) (a.old hr) c i f)) ?_
 rintro a _ j ⟨rfl,d⟩
 rw [show (zg (0^^^4294967295) l^^^4294967295:Nat)=zo l from q75 (KC l de f)]
 refine ⟨_,rfl,_,a.call d,?_⟩
 exact (Jp 1∘bG∘Jj∘JZ) tH
def zep (b:abk l=n) (a:W.ownsRow w.heap.size 5 1 (.slice A (0+n+4) c) (0+n+4) ([]++l.map B8++(qH (zo l)).map B8)) (hc:0+n+4≤c) (hb:Below w.heap.size w W):zf w 0 (bA l) (.returned (.tuple #[.slice A (0+n+4) c,vI 0])) W:=by
 have e:0+n+4=abk (bA l):=by rw [uq];omega
 rw [e] at a hc⊢
 refine ⟨⟨A,c,rfl,?_,hc⟩,hb⟩
 have e2:([]++l.map B8++(qH (zo l)).map B8)=(bA l).map B8:=by simp [bA]
 rw [e2] at a
 exact a
def Ot (A:Option Addr) (n cp:Nat) (l:List Nat) (B:Nat) (w:World) (p:aM B w) (k:B≤w.heap.size) (hr:Rd w w.heap.size 1 A n (l.map B8)) (d:abk l=n) (I:n≤16777216) (r:∀b∈l,b<256):
    Calls abl 48 #[.slice A n cp] w (zf w 0 (bA l)):=by
 refine (dY Tryz.func48 31) ?_
 refine (JP∘Jp 2∘Jj∘JQ∘JP∘Jp 1∘Jl∘Jp 1∘bG∘Jj) (Ji (λg=>?_) λg=>?_)
 ·
  intro a Z c
  omega
 refine (JF∘aD∘JP∘Jp 1∘JI (h:=by exact λc=>WG _ _ _ l B _ (p.mem c k) (c.le k) (c.old hr) (d) om (r))) λs t=>(Jp 1∘bG∘Jq) ?_
 have u:=VL l
 refine (JG∘JP∘Jp 1∘Jl∘cK 4) λa Z c=>?_
 refine fo Z 3 rfl rfl ?_
 refine zef Z c (m:=(n+4)) rfl aX rfl rfl om om rfl de ?_
 clear Z c;intro a v x Z c
 exact Jb Z c ((Jp 1∘JD (l.map B8) 0 (λ_ _=>aU) aX (hr:=by exact λc=>c.old hr) (h1:=by exact sj _)) λy z C o=>(Jp 1∘aF∘Jr∘Jp 2∘Jv 1 [(19,vB (IntKind.u8.wrap (zo l:Int)))]∘Jo (vB ((zo l)%256:Nat)) (by exact Dh (zo l))∘Jp 2∘Jo (vW ((zo l)/256:Nat)) (by exact tC .u32 (zo l) (j:=8) (q:=256) rfl rfl)∘Jv 1 [(22,vB (IntKind.u8.wrap (((zo l)/256:Nat):Int)))]∘Jo (vB (((zo l)/256)%256:Nat)) (by exact Dh ((zo l)/256))∘Jp 2∘Jo (vW ((zo l)/65536:Nat)) (by exact tC .u32 (zo l) (j:=16) (q:=65536) rfl rfl)∘Jv 1 [(25,vB (IntKind.u8.wrap (((zo l)/65536:Nat):Int)))]∘Jo (vB (((zo l)/65536)%256:Nat)) (by exact Dh ((zo l)/65536))∘Jp 2∘Jo (vW ((zo l)/16777216:Nat)) (by exact tC .u32 (zo l) (j:=24) (q:=16777216) rfl rfl)∘Jv 1 [(28,vB (IntKind.u8.wrap (((zo l)/16777216:Nat):Int)))]∘Jo (vB (((zo l)/16777216)%256:Nat)) (by exact Dh ((zo l)/16777216))∘JU aX #[vB ((zo l)%256:Nat),vB (((zo l)/256)%256:Nat),vB (((zo l)/65536)%256:Nat),vB (((zo l)/16777216)%256:Nat)]) λD E=>(JD ((qH (zo l)).map B8) 1 (λ_ _=>fO) aX (hr:=by exact λc=>c.aW (i:=0) (n:=4) (size:=1) rfl rfl) (h1:=by exact sj _)) λF G H e=>(Jp 2∘Jj∘JZ∘JM (.f .n)∘bH) λc=>zep d (c.own (i:=0) rfl) e c.below)
theorem qyl (b:abk l=n) (h:4≤n):(((zo (l.take (n-4)):Nat):Int)==((l.getD (n-4) 0+l.getD (n-4+1) 0*256+l.getD (n-4+2) 0*65536+l.getD (n-4+3) 0*16777216:Nat):Int))=zn l:=by
 subst b
 have a:∀i,(l.drop (abk l-4)).getD i 0=l.getD (abk l-4+i) 0:=λi=>by rw [abn,acO,←abn]
 unfold zn jZ
 rw [a,a,a,a,acg,beq_iff_eq,decide_eq_true_eq]
 simp only [Nat.add_zero]
 constructor
 ·intro h1;exact ⟨h,by omega⟩
 ·intro h1;have:=h1.2;omega
theorem qqf (a:abk l=n) (h:n<4):zn l=false:=by unfold zn;rw [decide_eq_false];omega
def jS (l:List Nat):Nat→Nat
 |0=>0
 |k+1=>jS l k*256+l.getD (3-k) 0
theorem WH (l:List Nat):jS l 4=jZ l:=by simp [jS,jZ];omega
def WI (a:∀b∈l,b<256) (c:4≤abk l):∀k,k≤4→jS l k<256^k
 |0,_=>by show 0<1;decide
 |k+1,h=>by
  have h1:=WI a c k om
  have h2:=getD_lt a (k:=3-k) om
  rw [jS,agR]
  omega
def qs6 (a:∀b∈l,b<256) (c:4≤abk l) {k:Nat} (h:k≤4):jS l k<4294967296:=by
 have h1:=WI a c k h
 have h2:(256:Nat)^k≤256^4:=Nat.pow_le_pow_right de h
 omega
def Ou (A:Option Addr) (n cp:Nat) (l:List Nat) (B:Nat) (w:World) (s:aM B w) (g:B≤w.heap.size) (hr:Rd w w.heap.size 1 A n (l.map B8)) (hc:n≤cp) (d:abk l=n) (x:n≤140737488355328) (e:∀b∈l,b<256):
    Calls abl 53 #[.slice A n cp] w (Is w (.bool (zn l))):=by
 refine (dY Tryz.func53 43) ?_
 refine (JP∘Jp 1∘Jr∘Jp 1∘Jl∘Jp 1∘Jo (vI ((n:Int)-4)) (by exact oH ⟨by omega,by omega⟩)∘Jp 1∘dU∘Jj∘JQ∘JP∘Jp 2∘aK∘Jj) (Ji (λf=>?_) λf=>?_)
 ·
  exact (JT∘JP∘Jp 1∘Jj∘JZ∘aZ) λc=>by exact ⟨by rw [qqf d om],c.below⟩
 refine (Jk 3 (vI ((n-4:Nat):Int)) (h:=by congr 1;omega)∘JF∘aD) λa Z c=>?_
 refine wp_seq ?_
 refine Jb Z c ((Vs .n []) λt=>(Vp [0,1,4,5,9,10,17,18,25,26]∘Vy 2 (h:=by exact aaf aX (j:=n-4) rfl rfl rfl om)) ?_)
 obtain ⟨gA,y,rfl,_⟩:=hr.sat (n-4)
 exact (zI 6 (n-4) 1∘VH (getD_lt e (k:=(n-4)) (by first|omega|(simp;omega)))) λi=>(Vy 7 (h:=by exact aad hr (n-4) 0 (by first|omega|(simp;omega)) rfl rfl)∘Vw 8 .u32∘xS 11 1∘zI 12 ((n-4)+1) 1∘VH (getD_lt e (k:=((n-4)+1)) (by first|omega|(simp;omega)))) λo=>(Vy 13 (h:=by exact aad hr ((n-4)+1) 0 (by first|omega|(simp;omega)) rfl rfl)∘Vw 14 .u32∘Vp [15]∘Vo (vW ((l.getD ((n-4)+1) 0)*256:Nat)) (by exact A9 (by rw [show (2:Int)^ (min (8:Int).toNat (afr).bits)=256 from rfl];omega) om)∘Vp [16]∘Vo (vW (l.getD (n-4) 0+l.getD (n-4+1) 0*256:Nat)) (by exact NP (m:=l.getD (n-4) 0) (n:=l.getD (n-4+1) 0) (j:=8) (p:=256) rfl om om)∘xS 19 2∘zI 20 ((n-4)+2) 1∘VH (getD_lt e (k:=((n-4)+2)) (by first|omega|(simp;omega)))) λq=>(Vy 21 (h:=by exact aad hr ((n-4)+2) 0 (by first|omega|(simp;omega)) rfl rfl)∘Vw 22 .u32∘Vp [23]∘Vo (vW ((l.getD ((n-4)+2) 0)*65536:Nat)) (by exact A9 (by rw [show (2:Int)^ (min (16:Int).toNat (afr).bits)=65536 from rfl];omega) om)∘Vp [24]∘Vo (vW (l.getD (n-4) 0+l.getD (n-4+1) 0*256+l.getD (n-4+2) 0*65536:Nat)) (by exact NP (m:=l.getD (n-4) 0+l.getD (n-4+1) 0*256) (n:=l.getD (n-4+2) 0) (j:=16) (p:=65536) rfl om om)∘xS 27 3∘zI 28 ((n-4)+3) 1∘VH (getD_lt e (k:=((n-4)+3)) (by first|omega|(simp;omega)))) λr=>(Vy 29 (h:=by exact aad hr ((n-4)+3) 0 (by first|omega|(simp;omega)) rfl rfl)∘Vw 30 .u32∘Vp [31]∘Vo (vW ((l.getD ((n-4)+3) 0)*16777216:Nat)) (by exact A9 (by rw [show (2:Int)^ (min (24:Int).toNat (afr).bits)=16777216 from rfl];omega) om)∘Vp [32]∘Vo (vW (l.getD (n-4) 0+l.getD (n-4+1) 0*256+l.getD (n-4+2) 0*65536+l.getD (n-4+3) 0*16777216:Nat)) (by exact NP (m:=l.getD (n-4) 0+l.getD (n-4+1) 0*256+l.getD (n-4+2) 0*65536) (n:=l.getD (n-4+3) 0) (j:=24) (p:=16777216) rfl om om)∘VI 3 .n (h:=by exact λc=>WG _ _ _ (l.take (n-4)) B _ (s.mem c g) (c.le g) ((c.old hr).A8 om) (by rw [abu];omega) om (uo e _))) λu v=>(Vp [33,34]∘Vd∘aF∘JZ∘aZ) λc=>by exact ⟨by rw [qyl d om],c.below⟩
def Fa {e:Nat} (h:aV l=(n,e)) (hb:Below w.heap.size w W):Is w (.tuple #[vI ((aV l).1:Int),vI ((aV l).2:Int)]) (.returned (.tuple #[vI n,vI e])) W:=by rw [h];exact ⟨rfl,hb⟩
def qym (A:Option Addr) (n cp:Nat) (l:List Nat) (w:World) (hr:Rd w w.heap.size 1 A n (l.map B8)) (r:abk l=n) (z:n≤9223372036854775807) (o:∀b∈l,b<256):
    Calls abl 181 #[.slice A n cp] w (Is w (.tuple #[vI ((aV l).1:Int),vI ((aV l).2:Int)])):=by
 refine (dY Tryz.func181 34) ?_
 refine (JP∘Jp 2∘Jj∘JQ∘JP∘Jp 1∘Jl∘Jp 1∘bG∘Jj) (Ji (λi=>?_) λi=>?_)
 ·
  exact (JT∘JP∘Jp 2∘Jj∘JZ∘bH) λc=>Fa (by unfold aV;rw [if_pos om]) c.below
 refine (JF∘aD∘JP∘Jp 1∘Jj∘JQ∘JP∘Jp 1∘Jj∘JB) λa Z c=>?_
 refine qg (λq s t=>∃(k:Nat),(k≤4)∧q=4-k∧Fr s 34 [] [(5,vI (3- (k:Int))),(4,vI (jS l k)),(8,.bool false),(3,vI 0),(2,vI 0),(0,.slice A n cp)]∧Mem w t []) (m:=4-0) ⟨0,abx _,rfl,Z.sub kr,c.pk []⟩ ?_
 clear Z c;rintro q a B ⟨k,u,rfl,Z,c⟩
 have v:=qs6 o om u
 refine Jb Z c ((JQ∘JP∘Jp 2∘aK∘Jj) (Ji (λd=>?_) λd=>?_))
 ·
  have x:k≤3:=by omega
  refine (JT∘aD∘JQ∘JB∘JR∘Jp 2∘Jo (vI ((jS l k)*256:Nat)) (by exact q8 (by rw [show (2:Int)^ (min (8:Int).toNat (IntKind.i64).bits)=256 from rfl];omega) om)∘Jp 2∘Jo (vI (3-k:Nat)) (by congr 1;omega)) ?_
  obtain ⟨gA,C,rfl,_⟩:=hr.sat (3-k)
  refine (gZ (3-k) 1∘JH (getD_lt o (k:=(3-k)) (by first|omega|(simp;omega)))) λy=>(Jy (h:=by exact aad hr (3-k) 0 (by first|omega|(simp;omega)) rfl rfl)∘Jw .i64∘Jp 1∘Jo (vI (jS l (k+1))) (by have h:=q72 (m:=jS l k) (n:=l.getD (3-k) 0) (j:=8) (p:=256) rfl om om;exact h)∘Jp 1∘aF∘Jj∘JR∘Jp 2∘Jo (vI (3- ((k+1:Nat):Int))) (by rw [IntWalk.i64_in _ om];congr 1;omega)∘Jp 1∘bG∘Jq) λa Z c=>?_
  exact ⟨_,om,k+1,by omega,rfl,Z.sub kr,c.pk []⟩
 obtain rfl:k=4:=by omega
 refine (Jk 4 (vI (jZ l:Int)) (h:=by rw [WH])) ?_
 rw [WH] at v
 refine (JF∘JX∘JG∘JQ∘JB∘JP∘Jp 3) (Ji (λe=>?_) λe=>?_)
 ·
  exact (Jp 4∘aF∘Jj∘JT∘JP∘Jp 2∘Jj∘JZ∘bH) λc=>Fa (by unfold aV;rw [if_neg om,if_pos om]) c.below
 refine (Jp 4∘aF∘Jj) (Ji (λf=>?_) λf=>?_)
 ·
  exact (JT∘JP∘Jp 2∘Jj∘JZ∘bH) λc=>Fa (by unfold aV;rw [if_neg om,if_pos om]) c.below
 refine (JF∘JP∘Jp 2∘Jl∘Jp 2∘gG∘Jj) (Ji (λg=>?_) λg=>?_)
 ·
  exact (JT∘JP∘Jp 2∘Jj∘JZ∘bH) λc=>Fa (by unfold aV;rw [if_neg om,if_neg om,if_pos om]) c.below
 exact (JF∘aD∘JP∘Jp 3∘Jj∘JZ∘bH) λc=>Fa (by unfold aV;rw [if_neg om,if_neg om,if_neg om]) c.below
def q2j (g:Nat) (b:Bk) (o:b.Ok) (A:Option Addr) (c B:Nat) (w:World) (r:aM B w) (p:B≤w.heap.size) (hr:Rd w w.heap.size 11 A (abk b.evs) (b.evs.flatMap iw)) (u:abk b.evs≤1000000) (hb:w.heap[g]?=some (.cells (b.cells A c) 85 (0,0))):
    Calls abl 225 #[vP g 0] w (Is w (.bool b.oV)):=by
 refine (dY Tryz.func225 47) ?_
 refine (JP∘Jp 1∘Jj∘JQ∘JP∘Jf 4∘Jy (v:= .slice A (abk b.evs) c) (h:=by exact Pd rfl rfl kr (λ_ h=>h.zu hb rfl))∘JI (h:=by exact λd=>ziq A (abk b.evs) c b.evs o.evs B _ (r.mem d p).laid (d.le p) (d.old hr) om (i:=(gI b.evs).1) (er:=(gI b.evs).2) rfl)) λx s=>(Jp 1∘Jx∘Jx∘Jp 2∘aF∘Jr∘Jp 3) (Jh (λe=>?_) λe=>?_)
 ·
  exact (Jv 19 [(31,.bool true)]∘lT∘Jj∘JT∘JP∘Jp 1∘Jj∘JZ∘aZ) λd=>by exact ⟨by rw [show b.oV=false from decide_eq_false om],d.below⟩
 refine (Jf 1∘Jy (v:=vB b.cpu) (h:=by exact Pd rfl rfl kr (λ_ h=>h.zu hb rfl))∘Jp 3) (Ji (λf=>?_) λf=>?_)
 ·
  exact (Jv 14 [(31,.bool true)]∘aF∘Jj∘JT∘JP∘Jp 1∘Jj∘JZ∘aZ) λd=>by exact ⟨by rw [show b.oV=false from decide_eq_false om],d.below⟩
 refine (Jf 2∘Jy (v:=vI b.lost) (h:=by exact Pd rfl rfl kr (λ_ h=>h.zu hb rfl))∘Jp 3) (Ji (λj=>?_) λj=>?_)
 ·
  exact (Jv 9 [(31,.bool true)]∘aF∘Jj∘JT∘JP∘Jp 1∘Jj∘JZ∘aZ) λd=>by exact ⟨by rw [show b.oV=false from decide_eq_false om],d.below⟩
 refine (Jf 2∘Jy (v:=vI b.lost) (h:=by exact Pd rfl rfl kr (λ_ h=>h.zu hb rfl))∘Jp 3) (Ji (λk=>?_) λk=>?_)
 ·
  exact (Jp 4∘aF∘Jj∘JT∘JP∘Jp 1∘Jj∘JZ∘aZ) λd=>by exact ⟨by rw [show b.oV=false from decide_eq_false om],d.below⟩
 refine (Jf 3∘Jy (v:=vI b.next) (h:=by exact Pd rfl rfl kr (λ_ h=>h.zu hb rfl))∘Jp 2∘aF∘Jj) (Jh (λl=>?_) λl=>?_)
 ·
  exact (JT∘JP∘Jp 1∘Jj∘JZ∘aZ) λd=>by exact ⟨by rw [show b.oV=false from decide_eq_false om],d.below⟩
 refine (JF∘aD∘JQ∘JP∘Jf 4∘Jy (v:= .slice A (abk b.evs) c) (h:=by exact Pd rfl rfl kr (λ_ h=>h.zu hb rfl))∘Jl∘Jp 1∘dU∘Jj) (Je (λm=>?_) λm=>?_)
 ·
  exact (JT∘JP∘Jf 2∘Jy (v:=vI b.lost) (h:=by exact Pd rfl rfl kr (λ_ h=>h.zu hb rfl))∘Jp 2∘dU∘Jj∘JZ∘aZ) λd=>by exact ⟨by rw [acg.2 (show (decide ((b.lost:Int)>(0:Int)))=true↔b.oV=true by unfold Bk.oV;rw [WC om];simp only [decide_eq_true_eq,beq_iff_eq];omega)],d.below⟩
 refine (JF∘aD) λa Z d=>?_
 refine wp_seq ?_
 refine Jb Z d ((Vs .n []) λt=>(Vf 0 4∘Vf 5 1∘Vy 1 (v:= .slice A (abk b.evs) c) (h:=by exact Pd rfl rfl kr (λ_ h=>h.zu hb rfl))) ?_)
 obtain ⟨gA,q,rfl,_⟩:=hr.sat 0
 exact (Vy 2 (v:=vP gA q) (h:=by exact Yl.indexAddr (ad:=⟨gA,q,none⟩) (y:=0) (sz:=11) rfl rfl rfl om kr)∘Vf 3 2∘EU 4 wI hr 2 0 Ev.zero (hk:=by first|omega|(simp;omega))∘Vy 6 (v:=vB b.cpu) (h:=by exact Pd rfl rfl kr (λ_ h=>h.zu hb rfl))∘Vp [7,8]∘Vd∘aF∘JZ∘aZ) λd=>by exact ⟨by rw [acg.2 (show (((b.evs.getD 0 Ev.zero).cpu:Int)==(b.cpu:Int))=true↔b.oV=true by unfold Bk.oV;rw [WB om];simp only [decide_eq_true_eq,beq_iff_eq];omega)],d.below⟩
def q2k (g:Nat) (b:Bk) (A:Option Addr) (c:Nat) (w:World) (hb:w.heap[g]?=some (.cells (b.cells A c) 85 (0,0))):
    Calls abl 226 #[vP g 0] w (Is w (.bool b.uD)):=by
 refine (dY Tryz.func226 26) ?_
 refine (JP∘Jp 1∘Jr∘Jf 3∘Jy (v:=vI b.next) (h:=by exact Pd rfl rfl kr (λ_ h=>h.zu hb rfl))∘Jp 2) (Ji (λi=>?_) λi=>?_)
 ·
  refine (Jf 3∘Jy (v:=vI b.next) (h:=by exact Pd rfl rfl kr (λ_ h=>h.zu hb rfl))∘Jp 3) (Ji (λd=>?_) λd=>?_)
  ·
   refine (Jf 1∘Jy (v:=vB b.cpu) (h:=by exact Pd rfl rfl kr (λ_ h=>h.zu hb rfl))∘Jp 3) (Je (λe=>?_) λe=>?_)
   ·
    refine (Jf 2∘Jy (v:=vI b.lost) (h:=by exact Pd rfl rfl kr (λ_ h=>h.zu hb rfl))∘Jp 3) (Je (λf=>?_) λf=>?_)
    ·
     exact (Jf 4∘Jy (v:= .slice A (abk b.evs) c) (h:=by exact Pd rfl rfl kr (λ_ h=>h.zu hb rfl))∘Jl∘Jp 3∘aF∘Jj∘JZ∘aZ) λa=>by exact ⟨by rw [acg.2 (show ((abk b.evs:Int)==(0:Int))=true↔b.uD=true by unfold Bk.uD;simp only [decide_eq_true_eq,beq_iff_eq];omega)],a.below⟩
    exact (Jp 6∘aF∘Jj∘JZ∘aZ) λa=>by exact ⟨by rw [show b.uD=false from decide_eq_false om],a.below⟩
   exact (Jv 11 [(1,.bool false)]∘aF∘Jj∘JZ∘aZ) λa=>by exact ⟨by rw [show b.uD=false from decide_eq_false om],a.below⟩
  exact (Jv 16 [(1,.bool false)]∘aF∘Jj∘JZ∘aZ) λa=>by exact ⟨by rw [show b.uD=false from decide_eq_false om],a.below⟩
 exact (Jv 21 [(1,.bool false)]∘gG∘Jj∘JZ∘aZ) λa=>by exact ⟨by rw [show b.uD=false from decide_eq_false om],a.below⟩
def WJ (b:Bk) (l:b.Ok) (A:Option Addr) (c B:Nat) (w:World) (s:aM B w) (p:B≤w.heap.size) (hr:Rd w w.heap.size 11 A (abk b.evs) (b.evs.flatMap iw)) (t:abk b.evs≤1000000):
    Calls abl 164 #[.agg (b.cells A c)] w (Is w (.bool b.fits)):=by
 refine (dY Tryz.func164 19) ?_
 refine (JP∘JE) λu e=>(Jp 1∘Jr) λa Z d=>?_
 refine fo Z 0 rfl rfl ?_
 refine q1p Z d rfl rfl de ?_
 clear Z d;intro a x y Z d
 refine Jb Z d ((Jy (h:=by exact Yl.makeFunc (fst:=[]) (caps:=[vP e 0]) rfl rfl rfl)) λa Z d=>?_)
 refine fo Z 2 rfl rfl ?_
 refine U8 Z d (i:=0) (kt:=5) (et:=23) (kd:= .int .u8) (Or.inr rfl) rfl kr kr rfl rfl rfl rfl (by first|trivial|rfl) (rfl) λq d=>?_
 refine Jb Z d ((Jy (h:=by exact Yl.makeFunc (fst:=[]) (caps:=[vP e 0]) rfl rfl rfl)) λa Z d=>?_)
 refine fo Z 4 rfl rfl ?_
 refine U8 Z d (i:=0) (kt:=5) (et:=23) (kd:= .int .u8) (Or.inr rfl) rfl kr kr rfl rfl rfl rfl (by first|trivial|rfl) (rfl) λr d=>?_
 refine Jb Z d ((Jp 2∘gG∘Jq) λa Z d=>?_)
 rcases zir b.kind with g|g|⟨g,m⟩
 ·
  refine Jb Z d ((JG∘JP∘Jp 1∘Jg 0 O1∘Jy (v:= .func (.func 225) #[] #[vP e 0]) (h:=by exact aaE (kt:=5) (et:=23) (kd:= .int .u8) (j:=0) (es:=(#[].push {key:=vB 1,val:= .func (.func 225) #[] #[vP e 0],born:=0}).push {key:=vB 2,val:= .func (.func 226) #[] #[vP e 0],born:=0+1}) (clock:=0+1+1) rfl kr kr rfl rfl (λ_ h=>h.iZ (i:=0) rfl) (by first|trivial|rfl) (by rw [g];rfl))∘Jp 1∘gG∘Jr∘Jp 1∘Jy (v:= .bool true) (h:=by exact aaJ rfl rfl rfl kr)∘Jp 2) λa Z d=>?_)
  refine fo Z 4 rfl rfl ?_
  refine mY Z (f:=225) (vs:=[]) (fst:=[]) (caps:=[vP e 0]) rfl rfl rfl kr rfl de (q2j _ b l A c B _ (s.mem d p) (d.le p) (d.old hr) t (d.blk (i:=1) rfl)) ?_
  rintro _ o ⟨rfl,k⟩
  refine ⟨_,rfl,?_⟩
  replace d:=d.call k
  clear Z;intro a Z
  exact Jb Z d ((Jp 2∘aF∘Jj∘JZ∘JM (.f .n)∘aZ) λd=>by exact ⟨by unfold Bk.fits;rw [if_pos g],d.below⟩)
 ·
  refine Jb Z d ((JG∘JP∘Jp 1∘Jg 0 O1∘Jy (v:= .func (.func 226) #[] #[vP e 0]) (h:=by exact aaE (kt:=5) (et:=23) (kd:= .int .u8) (j:=1) (es:=(#[].push {key:=vB 1,val:= .func (.func 225) #[] #[vP e 0],born:=0}).push {key:=vB 2,val:= .func (.func 226) #[] #[vP e 0],born:=0+1}) (clock:=0+1+1) rfl kr kr rfl rfl (λ_ h=>h.iZ (i:=0) rfl) (by first|trivial|rfl) (by rw [g];rfl))∘Jp 1∘gG∘Jr∘Jp 1∘Jy (v:= .bool true) (h:=by exact aaJ rfl rfl rfl kr)∘Jp 2) λa Z d=>?_)
  refine fo Z 4 rfl rfl ?_
  refine mY Z (f:=226) (vs:=[]) (fst:=[]) (caps:=[vP e 0]) rfl rfl rfl kr rfl de (q2k _ b A c _ (d.blk (i:=1) rfl)) ?_
  rintro _ o ⟨rfl,k⟩
  refine ⟨_,rfl,?_⟩
  replace d:=d.call k
  clear Z;intro a Z
  exact Jb Z d ((Jp 2∘aF∘Jj∘JZ∘JM (.f .n)∘aZ) λd=>by exact ⟨by unfold Bk.fits;rw [if_neg om,if_pos g],d.below⟩)
 ·
  exact Jb Z d ((JG∘JP∘Jp 1∘Jg 0 O1∘Jy (v:= .nilFunc) (h:=by exact aa2 (kt:=5) (et:=23) (kd:= .int .u8) (es:=(#[].push {key:=vB 1,val:= .func (.func 225) #[] #[vP e 0],born:=0}).push {key:=vB 2,val:= .func (.func 226) #[] #[vP e 0],born:=0+1}) (clock:=0+1+1) rfl kr kr rfl rfl (λ_ h=>h.iZ (i:=0) rfl) (by first|trivial|rfl) (by have e1:((b.kind:Int)==1)=false:=(by rw [beq_eq_false_iff_ne];omega);have e2:((b.kind:Int)==2)=false:=(by rw [beq_eq_false_iff_ne];omega);simp [Instr.findNow,Instr.sameNow,e1,e2]) kr)∘Jp 1∘gG∘Jr∘Jp 1∘Jy (v:= .bool false) (h:=by exact aa0 rfl rfl rfl kr)∘Jp 5∘aF∘Jj∘JZ∘JM (.f .n)∘aZ) λd=>by exact ⟨by unfold Bk.fits;rw [if_neg g,if_neg m],d.below⟩)
def q8v (b:Bk) (A:Option Addr) (c:Nat) (w:World) (hr:Rd w w.heap.size 11 A (abk b.evs) (b.evs.flatMap iw)) (h0:abk b.evs≠0):
    Calls abl 172 #[.agg (b.cells A c)] w (Is w (.agg b.base.cells)):=by
 refine (dY Tryz.func172 14) ?_
 refine (JP∘JE) λk l=>(JA #[vI 0,vI 0]) λm o=>(Jj) λa Z d=>?_
 refine wp_seq ?_
 refine Jb Z d ((Vs .n [11]) λj=>(Vf 0 4∘Vf 5 4∘Vc 1 O1) ?_)
 obtain ⟨gA,e,rfl,_⟩:=hr.sat 0
 refine (Vy 2 (v:=vP gA e) (h:=by exact Yl.indexAddr (ad:=⟨gA,e,none⟩) (y:=0) (sz:=11) rfl rfl rfl om kr)∘Vf 3 0∘V3 4 wI hr 0 Ev.zero (hk:=by first|omega|(simp;omega))∘Vc 6 O1∘Vy 7 (v:=vP gA e) (h:=by exact Yl.indexAddr (ad:=⟨gA,e,none⟩) (y:=0) (sz:=11) rfl rfl rfl om kr)∘Vf 8 1∘EU 9 wI hr 1 0 Ev.zero (hk:=by first|omega|(simp;omega))∘Vy 10 (v:= .agg #[vI ((b.evs.getD 0 Ev.zero).seq),vI ((b.evs.getD 0 Ev.zero).time)]) (h:=by exact Yl.build (vs:=[(0,vI ((b.evs.getD 0 Ev.zero).seq)),(1,vI ((b.evs.getD 0 Ev.zero).time))]) rfl kr kr)) λa Z d p=>?_
 refine s_on Z 11 rfl (cZ Z d 0 rfl rfl rfl rfl rfl ⟨kr,kr⟩ rfl rfl (by simp [acf]) λg d=>?_)
 refine dM kr ?_
 refine qd kr ?_
 refine Jb Z d ((JM (.t (.f .n))∘JZ) λa Z d=>?_)
 exact iy rfl Z (.cellS (i:=0) Z d rfl rfl ⟨kr,kr⟩ rfl) (⟨by rw [q2f];rfl,d.below⟩)
def Ov (x:Nat) (c:x<18446744073709551616) (w:World):
    Calls abl 227 #[vQ x] w (ru w (au x)):=by
 refine (dY Tryz.func227 5) ?_
 exact (JP∘Jp 1∘Jr∘Jp 1∘JK (h:=by exact λa=>qyc c)) λd e f b=>(Jp 1∘bG∘Jj∘JZ∘aZ) λa=>by exact ⟨⟨_,_,rfl,a.own (i:=0) rfl,b⟩,a.below⟩
def Ow {a b c d:Part} (f:Rd w w.heap.size 1 a.A (abk a.l) (a.l.map B8)) (hb:Rd w w.heap.size 1 b.A (abk b.l) (b.l.map B8)) (hc:Rd w w.heap.size 1 c.A (abk c.l) (c.l.map B8)) (g:Rd w w.heap.size 1 d.A (abk d.l) (d.l.map B8)):∀p∈[a,b,c,d],Rd w w.heap.size 1 p.A (abk p.l) (p.l.map B8):=by
 intro p e
 simp only [abQ,acy,or_false] at e
 rcases e with rfl|rfl|rfl|rfl
 ·exact f
 ·exact hb
 ·exact hc
 ·exact g
def q8w (b:Bk) (g:b.Ok) (A:Option Addr) (c B:Nat) (w:World) (N:aM B w) (F:B≤w.heap.size) (hr:Rd w w.heap.size 11 A (abk b.evs) (b.evs.flatMap iw)) (hn:abk b.evs≤1000000) (C:b.fits=true):
    Calls abl 165 #[.agg (b.cells A c)] w (ru w b.body):=by
 have G:=g.cpu
 refine (dY Tryz.func165 52) ?_
 refine (JP∘JE) λw1 g1=>(Jp 1∘Jj∘JQ∘JP∘Jg 0 O0∘Jp 1∘aK∘Jj) (Je (λD=>?_) λD=>?_)
 ·
  have s:b.kind=2:=by omega
  obtain ⟨n1,n2,n3,n4,n5⟩:=q2h C s
  exact (JT∘JP∘Jg 3 O0∘Jv 1 [(12,vQ (IntKind.u64.wrap b.next))]∘Jo (vQ b.next.toNat) (by exact wO om om)∘JK (h:=by exact λe=>Ov b.next.toNat om _)) λO P Q u=>(Jp 1∘dU∘Jj∘JZ∘aZ) λe=>by exact ru.as ⟨⟨_,_,rfl,e.own (i:=0) rfl,u⟩,e.below⟩ (by unfold Bk.body;rw [if_pos s])
 have s:b.kind≠2:=by omega
 obtain ⟨m0,m1,m2,m3,m4⟩:=q2g C s
 refine (JF∘aD∘JP∘Jg 1 O0∘Jw .u64∘Jg 2 O0∘Jv 1 [(19,vQ (IntKind.u64.wrap b.lost))]∘Jo (vQ b.lost.toNat) (by exact wO om om)∘Jg 4 O0∘Jl∘Jw .u64∘JU kP #[vQ b.cpu,vQ b.lost.toNat,vQ (abk b.evs)]) λR S=>(JK (h:=by exact λe=>KF _ 3 _ [b.cpu,b.lost.toNat,abk b.evs] _ (e.aW (i:=0) (n:=3) (size:=1) rfl rfl) (by intro x T;simp only [abQ,acy,or_false] at T;omega) om)) λj k U v=>(Jp 1∘aF∘Jj∘JQ∘JP∘Jg 4 O2∘Jl∘Jp 1∘bG∘Jj) (Je (λy=>?_) λy=>?_)
 ·
  exact (JT∘JP∘Jp 2∘aK∘Jj∘JZ∘JM (.t (.f .n))∘aZ) λe=>by exact ru.as ⟨⟨_,_,rfl,e.own (i:=0) rfl,v⟩,e.below⟩ (by unfold Bk.body;rw [if_neg s,if_pos om];simp)
 have H:=qyh g (Oo C s).2 om
 obtain ⟨q1,q2,q3,q4⟩:=q8s g C s om
 refine (JF∘aD∘JP∘eF aL O2∘JI (h:=by exact λe=>q8v b A c _ (e.old hr) om)) λV W=>(JA #[vI 0,vI 0]) λw4 g4=>(JV ⟨kr,kr⟩ aU (h1:=by exact Np b.base)) λI=>(bG∘Jr∘eF ⟨kr,kr⟩ O0∘Jg 4 O3∘JK (h:=by exact λe=>q8m b.base A (abk b.evs) c b.evs g.evs B _ (N.mem e F).laid (e.le F) (e.old hr) om H.1 H.2)) λl m X J=>(Jp 1∘Jx∘Jx∘Jp 2∘mZ∘Jj) λa Z e=>?_
 refine wp_seq ?_
 refine Jb Z e ((Vs .n []) λY=>(Vp [0]∘Vf 1 0∘Vf 5 1∘Vp [9]∘Vc 2 O1∘Vq [3] [(43,vQ (IntKind.u64.wrap b.base.seq))]∘Vo (vQ b.base.seq.toNat) (by exact wO om om)∘Vc 6 O1∘Vq [7] [(47,vQ (IntKind.u64.wrap b.base.time))]∘Vo (vQ b.base.time.toNat) (by exact wO om om)∘VK 4 .n (h:=by exact λe=>Ov b.base.seq.toNat om _)) λo p Ox K=>(VK 8 (.f .n) (h:=by exact λe=>Ov b.base.time.toNat om _)) λq r Dr L=>λa Z e M=>?_)
 refine s_on Z 10 rfl (iW Z e E8 [(0,abg j ([b.cpu,b.lost.toNat,abk b.evs].flatMap au) k),(1,abg o (au b.base.seq.toNat) p),(2,abg q (au b.base.time.toNat) r),(3,abg l (recs b.base b.evs) m)] #[abg j ([b.cpu,b.lost.toNat,abk b.evs].flatMap au) k,abg o (au b.base.seq.toNat) p,abg q (au b.base.time.toNat) r,abg l (recs b.base b.evs) m] ?_)
 clear Z e;intro a WK g50 Z e
 refine ay (e.pk [3,4,5,6,7]) (λM=>?_)
 have E:=Ow (a:=⟨j,k,[b.cpu,b.lost.toNat,abk b.evs].flatMap au⟩) (b:=⟨o,p,au b.base.seq.toNat⟩) (c:=⟨q,r,au b.base.time.toNat⟩) (d:=⟨l,m,recs b.base b.evs⟩) (e.rd (i:=5) rfl) (e.rd (i:=2) rfl) (e.rd (i:=1) rfl) (e.rd (i:=3) rfl)
 exact Vb Z e M ((VK 11 (.f (.f (.f .n))) (h:=by exact λe=>(qyi _ 4 _ [⟨j,k,[b.cpu,b.lost.toNat,abk b.evs].flatMap au⟩,⟨o,p,au b.base.seq.toNat⟩,⟨q,r,au b.base.time.toNat⟩,⟨l,m,recs b.base b.evs⟩] _ (e.aW (i:=0) (n:=4) (size:=1) rfl rfl) rfl om E (by have h1:=zm [b.cpu,b.lost.toNat,abk b.evs];have h2:=AO b.base.seq.toNat;have h3:=AO b.base.time.toNat;have h4:=Ww b.evs b.base;simp only [abL,List.flatMap_nil,abm,abN,abX,adT] at h1⊢;omega)).mono (λ_ _ h=>h.as (R':=au b.cpu++au b.lost.toNat++au (abk b.evs)++(au b.base.seq.toNat++au b.base.time.toNat++recs b.base b.evs)) (by simp)))) λA51 c51 w51 z=>(Vp [12]∘Vd∘aF∘JM (.t (.f (.f (.f (.f (.t (.t (.f .n))))))))∘JZ∘aZ) λe=>by exact ru.as ⟨⟨_,_,rfl,e.own (i:=0) rfl,z⟩,e.below⟩ (by unfold Bk.body;rw [if_neg s,if_neg om]))
instance WL:DecidableEq Bk:=λ⟨a,b,c,d,e⟩ ⟨f,g,h,i,j⟩=>
 decidable_of_iff (a=f∧b=g∧c=h∧d=i∧e=j) (by simp)
theorem q2l (h:8+abk b.body+4≤4096):(#[abJ .u8 (((8+abk b.body+4)%256:Nat):Int),.int .u8 (((8+abk b.body+4)/256%256:Nat):Int),.int .u8 0,.int .u8 0,.int .u8 113,.int .u8 116,.int .u8 1,.int .u8 (b.kind:Int)]:Array Value).toList++b.body.map B8=b.raw.map B8:=by
 have a:8+abk b.body+4=12+abk b.body:=by omega
 have e1:(12+abk b.body)/65536%256=0:=by omega
 have e2:(12+abk b.body)/16777216%256=0:=by omega
 unfold Bk.raw qH
 rw [a,e1,e2]
 simp [B8]
def qs7 {b:Bs} (h:e.kind<256):∀x∈oF b e,x<256:=by
 intro x a
 unfold oF at a
 rcases abQ.1 a with rfl|a
 ·exact h
 ·obtain ⟨y,_,c⟩:=acK.1 a
  exact xK y x c
def WM:∀(l:List Ev) (b:Bs),(∀e∈l,e.Ok)→∀x∈recs b l,x<256
 |[],_,_,x,c=>by simp [recs] at c
 |e::r,b,a,x,c=>by
  rw [recs] at c
  rcases abV.1 c with h|h
  ·exact qs7 (a e (by simp)).kind x h
  ·exact WM r e.at (λy d=>a y (by simp [d])) x h
def zeq (c:b.Ok):∀x∈b.body,x<256:=by
 intro x a
 unfold Bk.body at a
 split at a
 ·exact xK _ x a
 ·rcases abV.1 a with h|h
  ·rcases abV.1 h with h|h
   ·rcases abV.1 h with h|h
    ·exact xK _ x h
    ·exact xK _ x h
   ·exact xK _ x h
  ·split at h
   ·cases h
   ·rcases abV.1 h with h|h
    ·rcases abV.1 h with h|h
     ·exact xK _ x h
     ·exact xK _ x h
    ·exact WM _ _ c.evs x h
def WO (a:b.Ok):∀x∈b.raw,x<256:=by
 intro x c
 unfold Bk.raw at c
 rcases abV.1 c with h|h
 ·rcases abV.1 h with h|h
  ·exact VN _ x h
  ·simp only [abQ,acy,or_false] at h
   have:=a.kind
   omega
 ·exact zeq a x h
theorem WQ (b:Bk):abk b.raw=8+abk b.body:=by unfold Bk.raw qH;simp;omega
def Oy (b:Bk):abk b.body≤50+61*abk b.evs:=by grind [Bk.body,Ww,AO]
def WR (h:b.err=er) (a:er≠0) (hb:Below w.heap.size w W):zf w b.err b.out (.returned (.tuple #[.slice none 0 0,.int .i64 (er:Int)])) W:=by
 have h2:b.out=[]:=by unfold Bk.out;rw [if_neg om]
 rw [h,h2]
 exact ⟨⟨none,0,rfl,acQ _ _ _ _,abo _⟩,hb⟩
theorem zis (h:b.err=0):b.out=bA b.raw:=by unfold Bk.out;rw [if_pos h]
theorem Oz (b:Bk):abk b.out≤4096:=by grind [Bk.err,Bk.out,WQ,uq]
def zit (a:b.Ok):∀x∈b.out,x<256:=by
 unfold Bk.out
 split
 ·exact NZ (WO a)
 ·intro x c;cases c
def zK (most:Nat) (l:List Nat):bK most l≤most:=by unfold bK;split<;>omega
theorem Dt (most:Nat) (l:List Nat):(if ((most:Nat):Int)<(((aB l).1:Nat):Int) then ((most:Nat):Int) else (((aB l).1:Nat):Int))=((bK most l:Nat):Int):=by unfold bK;split<;>split<;>omega
theorem KN (l:List Nat):abk (q6 l)=abk l- (aB l).2.1:=by unfold q6;rw [abH]
def q2n (l:List Nat):abk (q6 l)≤abk l:=by rw [KN];omega
theorem WS {most:Nat} (h:(aB l).2.2≠0):ji most l=false:=by unfold ji;rw [decide_eq_false];omega
def WT (W:World) (d e:Nat) (l:List Nat) (a:Bool) (most:Nat) (fr:List Fact) (r:Ending) (f:World):Prop:=
 r= .returned (.int .i64 ((bK most l:Nat):Int))∧∃b c,Rd W W.heap.size 1 b (abk (q6 l)) ((q6 l).map B8)∧abk (q6 l)≤c∧
  Mem W f (.blk d #[.slice b (abk (q6 l)) c] 30:: .blk e #[.bool (a&&ji most l)] 4::fr)
theorem OA {most:Nat} {a b:Bool} (hr:Rd W W.heap.size 1 A (abk l) (l.map B8)) (hc:abk l≤c) (h2:(a&&ji most l)=b) (d:n=abk l)
  (e:Mem W w (.blk m #[.slice (if c=(aB l).2.1 then A else A.map (·.add ((aB l).2.1*1))) (n- (aB l).2.1) (c- (aB l).2.1)] 30:: .blk g #[.bool b] 4::fr)):
  WT W m g l a most fr (.returned (.int .i64 ((bK most l:Nat):Int))) w:=by
 subst h2;subst d
 refine ⟨rfl,(if c=(aB l).2.1 then A else A.map (·.add ((aB l).2.1*1))),c- (aB l).2.1,?_,?_,?_⟩
 ·rw [KN]
  exact hr.NK (y8 l) hc
 ·rw [KN];omega
 ·rw [KN];exact e
def Bl (w:World) (q:Option Bk) (r:Ending) (d:World):Prop:=
 (∃ a : Array Value, r = .returned (.tuple #[.agg a, .bool q.isSome]) ∧ a.size = 5 ∧ (∀ v ∈ a.toList, v.oneCell' = true) ∧
  (∀b,q=some b→∃A c,a=b.cells A c∧d.ownsRow w.heap.size 73 11 (.slice A (abk b.evs) c) (abk b.evs) (b.evs.flatMap iw)∧abk b.evs≤c))∧Below w.heap.size w d
variable {q:Option Bk}
def qqi {C:Array Value} (h:q=none) (hs:C.size=5) (h1:∀v∈C.toList,v.oneCell'=true) (hb:Below w.heap.size w W):Bl w q (.returned (.tuple #[.agg C,.bool false])) W:=by
 subst h
 exact ⟨⟨C,rfl,hs,h1,λb h=>by cases h⟩,hb⟩
def qqj (h:q=some b) (a:W.ownsRow w.heap.size 73 11 (.slice A (abk b.evs) c) (abk b.evs) (b.evs.flatMap iw)) (hc:abk b.evs≤c) (hb:Below w.heap.size w W):Bl w q (.returned (.tuple #[.agg (b.cells A c),.bool true])) W:=by
 subst h
 exact ⟨⟨_,rfl,rfl,tJ _ _ _,λd h=>by injection h with h;subst h;exact ⟨A,c,rfl,a,hc⟩⟩,hb⟩
theorem OB (l:List Nat):Dq 2 l=uE l:=by unfold Dq;rw [if_pos rfl]
def zL (h:x≤281474976710657):Bk.Ok ⟨2,0,0,(x:Int),[]⟩:=⟨by show 2<256;decide,by show 0<256;decide,by unfold aQ;simp,q2e h,by simp⟩
theorem OC (l:List Nat):(uE l).isSome=(ji 281474976710657 l&& (decide (abk (q6 l)=0)&&Bk.fits ⟨2,0,0,(bK 281474976710657 l:Int),[]⟩)):=by grind [uE]
theorem WU (h:(uE l).isSome=true):uE l=some ⟨2,0,0,(bK 281474976710657 l:Int),[]⟩:=by grind [uE]
theorem Bl.none {r:Ending} (h:Bl w q r W) (b:q=none):(∃a:Array Value,r= .returned (.tuple #[.agg a,.bool false])∧a.size=5∧(∀v∈a.toList,v.oneCell'=true))∧Below w.heap.size w W:=by
 subst b
 obtain ⟨⟨a,h1,h2,h3,_⟩,h4⟩:=h
 exact ⟨⟨a,h1,h2,h3⟩,h4⟩
theorem Bl.some {r:Ending} (h:Bl w q r W) (a:q=some b):(∃A c,r= .returned (.tuple #[.agg (b.cells A c),.bool true])∧W.ownsRow w.heap.size 73 11 (.slice A (abk b.evs) c) (abk b.evs) (b.evs.flatMap iw)∧abk b.evs≤c)∧Below w.heap.size w W:=by
 subst a
 obtain ⟨⟨d,h1,h2,h3,h5⟩,h4⟩:=h
 grind
def OD (T:TypeId) (w:World) (q:Bk×Nat×Nat) (r:Ending) (a:World):Prop:=
 (∃A c,r= .returned (.tuple #[.agg (q.1.cells A c),.int .i64 (q.2.1:Int),.int .i64 (q.2.2:Int)])∧a.ownsRow w.heap.size T 11 (.slice A (abk q.1.evs) c) (abk q.1.evs) (q.1.evs.flatMap iw)∧abk q.1.evs≤c)∧Below w.heap.size w a
def zM {T:TypeId} {q:Bk×Nat×Nat} (h:q=(Bk.zero,0,er)) (hb:Below w.heap.size w W):OD T w q (.returned (.tuple #[.agg #[.int .u8 0,.int .u8 0,.int .i64 0,.int .i64 0,.slice none 0 0],.int .i64 0,.int .i64 (er:Int)])) W:=by
 subst h
 exact ⟨⟨none,0,rfl,acQ _ _ _ _,abo _⟩,hb⟩
def WV {T:TypeId} {q:Bk×Nat×Nat} (h:q=(b,m,0)) (a:W.ownsRow w.heap.size T 11 (.slice A (abk b.evs) c) (abk b.evs) (b.evs.flatMap iw)) (hc:abk b.evs≤c) (hb:Below w.heap.size w W):OD T w q (.returned (.tuple #[.agg (b.cells A c),.int .i64 (m:Int),.int .i64 0])) W:=by
 subst h
 exact ⟨⟨A,c,rfl,a,hc⟩,hb⟩
def q2o (h:(aV l).2≠0):dz l=(Bk.zero,0,(aV l).2):=by unfold dz;rw [if_pos h]
def Bn {e:Nat} (h:(aV l).2=0) (a:L=l.take (aV l).1) (hb:fP L=(none,e)):dz l=(Bk.zero,0,e):=by unfold dz;rw [if_neg om,←a,hb]
def WW {e:Nat} (h:(aV l).2=0) (a:L=l.take (aV l).1) (hb:fP L=(some b,e)):dz l=(b,(aV l).1,0):=by unfold dz;rw [if_neg om,←a,hb]
def q2t (h:(fP l).1=none):(fP l).2≠0:=by grind [fP]
theorem KO (h:dz l=(b,m,0)):13≤m∧m≤abk l∧(fP (l.take m)).1=some b:=by
 unfold dz at h
 split at h
 ·rename_i h0;simp only [Prod.mk.injEq] at h;exact absurd h.2.2 h0
 ·rename_i h0
  obtain ⟨_,h2,_,h4⟩:=WZ (show (aV l).2=0 by omega)
  split at h
  ·rename_i c a
   simp only [Prod.mk.injEq] at h
   obtain ⟨rfl,rfl,_⟩:=h
   exact ⟨h2,h4,a⟩
  ·rename_i a
   simp only [Prod.mk.injEq] at h
   exact absurd h.2.2 (q2t a)
def q2u (hk:iI l) (h:dz l=(b,m,0)):b.Ok∧b.evs=[]:=by
 obtain ⟨_,_,h⟩:=KO h
 have h7:=hk.take m 7 (abo 7)
 generalize l.take m=L at h h7
 unfold fP at h
 split at h
 ·cases h
 ·split at h
  ·cases h
  ·split at h
   ·cases h
   ·split at h
    ·cases h
    ·rename_i h2
     have h2:L.getD 7 0=2:=by omega
     rw [h2,OB] at h
     split at h
     ·cases h
     ·rename_i c hc
      injection h with h
      rw [WU (by rw [hc];rfl)] at hc
      injection hc with hc
      subst h hc
      exact ⟨zL (zK _ _),rfl⟩
structure KP (l:List Nat) (b:Bk) (m:Nat):Prop where
 ok:b.Ok
 fits:b.fits=true
 err:b.err=0
 out:b.out=l.take m
 len:m≤abk l
 evs:abk b.evs≤4096
 least:13≤m
 most:m≤4096
theorem Fh (x:Nat):1≤abk (au x):=by grind [CZ,CY,au]
def W9 (h:b.fits=true) (h2:12+abk b.body≤4096):b.err=0:=by
 unfold Bk.err
 rw [if_neg (by simp [h]),if_neg om]
def zY {x:aC} (h:ShAt x):∀i,i<abk x.ts→(i:Int)+1≤(x.ts.getD i Tk.zero).id
 |0,hi=>(pq (h.tk 0 hi)).1
 |i+1,hi=>by
  have h1:=zY h i om
  have h2:=(Dx (h.tk (i+1) hi)).1
  rw [aej] at h2
  omega
def zjc {x:aC} (h:ShAt x):abk x.ts≤65535:=by
 rcases acj 65535 (abk x.ts) with h1|h1
 ·have h2:=zY h 65535 h1
  have h3:=(pq (h.tk 65535 h1)).2
  omega
 ·exact h1
def zfi (g:Nat) (z:Sp):abk (mO g z)≤3:=by unfold mO;split<;>simp
def zfj (g:Nat) (l:List Sp):abk (nA g l)≤3*abk l:=FM (λc=>zfi g (l.getD c Sp.zero)) _
variable {a s:cO}
theorem Yk (h:ShAt s.st):abk (aG s 0)=1∧abk (aG s 1)=3∧abk (aG s 2)≤512∧abk (aG s 3)≤64∧abk (aG s 4)≤64∧abk (aG s 5)≤524281∧abk (aG s 6)≤49152:=by
 obtain ⟨b,c,_,a⟩:=lW h.cfg
 obtain ⟨d,e,_,_⟩:=qp a
 have j:=h.cl
 have k:=h.cu
 have n:=h.rs
 have ht:=zjc h
 refine ⟨rfl,rfl,?_,?_,?_,?_,?_⟩
 ·have:=FM (f:=tK s.st.gs) (m:=2) (λi=>abo 2) (abk s.st.gs-1)
  show abk (dW (abk s.st.gs-1) (tK s.st.gs))≤512
  omega
 ·show abk (s.st.cl.map aH)≤64
  rw [abv];omega
 ·show abk (s.st.cu.map aH)≤64
  rw [abv];omega
 ·have:=FM (f:=λi=>l8 (qo s.st.ts i) (s.st.ts.getD i Tk.zero)) (m:=8) (λi=>abo 8) (abk s.st.ts)
  show abk (dW (abk s.st.ts) λi=>l8 (qo s.st.ts i) (s.st.ts.getD i Tk.zero))+1≤524281
  omega
 ·have:=X6 (f:=λg=>nA g (s.st.rs.getD g Rw.zero).l) (m:=192) (abk s.st.rs) (λg a=>by
   have h1:=zfj g (s.st.rs.getD g Rw.zero).l
   have h2:=(BF a (h.row g a)).1
   omega)
  show abk (dW (abk s.st.rs) λg=>nA g (s.st.rs.getD g Rw.zero).l)≤49152
  omega
theorem DC (s:cO):dX s=aG s 0++aG s 1++aG s 2++aG s 3++aG s 4++aG s 5++aG s 6:=by simp_all [dX,q5,BH]
def PZ {f:Nat→List α} (h:i≤k):abk (dW i f)≤abk (dW k f):=by induction k<;>grind [q5]
theorem P5 (h:ShAt s.st):abk (dX s)≤600000:=by grind [DC,Yk]
theorem Ym (h:ShAt s.st) {i:Nat} (hi:i≤7):abk (dW i (aG s))≤600000:=Nat.le_trans (PZ hi) (P5 h)
def q9k (h:ShAt s.st) {i:Nat} (hi:i<7):abk (aG s i)≤600000:=by
 have:=Ym h (show i+1≤7 by omega)
 rw [q5,abm] at this
 omega
def zjd {p:Int} (ht:t.Ok):∀x∈l8 p t,x<18446744073709551616:=by
 intro x a
 have h1:=ht.mask
 have h2:=ht.v
 have h3:=ht.r
 simp only [l8,abQ,acy,or_false] at a
 grind [BI]
def zje (hz:z.Ok):∀x∈mO g z,x<18446744073709551616:=by
 intro x a
 have h1:=hz.v
 have h2:=hz.r
 have h3:=hz.floor
 grind [mO]
def zfk (b:s.st.av.Ok) (e:bP s.st):∀i,∀x∈aG s i,x<18446744073709551616:=by
 have h:=e.g
 have j:=e.t
 have d:=b.aj
 intro i
 match i with
 |0=>intro x a;simp only [aG,abQ,acy,or_false] at a;subst a;exact BI _
 |1=>
  intro x a
  simp only [aG,abQ,acy,or_false] at a
  rcases a with rfl|rfl|rfl
  ·exact BI _
  ·exact d
  ·omega
 |2=>
  refine Dy _ λi _ x a=>?_
  grind [tK,BI]
 |3=>intro x a;obtain ⟨y,_,rfl⟩:=acd.1 a;exact BI _
 |4=>intro x a;obtain ⟨y,_,rfl⟩:=acd.1 a;exact BI _
 |5=>
  intro x a
  rcases abQ.1 a with rfl|a
  ·omega
  ·exact Dy (p:=λx=>x<18446744073709551616) _ (λi hi=>zjd (b.ts _ (qe Tk.zero hi))) x a
 |6=>
  refine Dy _ λg f=>Dy _ λc hc=>zje ?_
  refine b.sp _ (qe [] (show g<abk s.st.av.sp from by rw [kU];exact f)) _ ?_
  rw [jT f]
  exact qe Sp.zero hc
 |k+7=>intro x a;cases a
theorem Ld (a:s.st.av.Ok) (b:bP s.st):∀x∈dX s,x<18446744073709551616:=Dy 7 λi _=>zfk a b i
def Yn:∀b∈l.flatMap au,b<256:=by
 intro b a
 obtain ⟨x,_,c⟩:=acK.1 a
 exact xK x b c
def Yo (s:cO):∀b∈dA s,b<256:=by
 intro b a
 rcases abV.1 a with a|a
 ·grind
 ·exact Yn b a
theorem Le (s:cO):abk (dA s)=3+abk ((dX s).flatMap au):=by unfold dA;rw [abm];rfl
theorem P6 (h:s.next<1∨281474976710657<s.next):bJ s=330:=if_pos h
theorem q3y (h:¬(s.next<1∨281474976710657<s.next)) (hr:kD s.st.av=false):bJ s=331:=by unfold bJ;rw [if_neg h,if_pos hr]
theorem Yp (h:¬(s.next<1∨281474976710657<s.next)) (hr:kD s.st.av=true):bJ s=0:=by unfold bJ;rw [if_neg h,if_neg (by rw [hr];decide)]
def xg (h:bJ s=0):(1≤s.next∧s.next≤281474976710657)∧kD s.st.av=true:=by grind [bJ,kD]
theorem BP (h:bJ s=0):ShAt s.st:=by
 have:=(xg h).2
 unfold kD at this
 rw [abC] at this
 exact uQ this.1
def q3z (s:cO):bJ s=330∨bJ s=331∨bJ s=0:=by grind [bJ]
def iR (s:cO):List Nat:=if bJ s=0 then dX s else []
theorem zZ (h:bJ s=0):iR s=dX s:=if_pos h
def q9l (h:bJ s≠0):iR s=[]:=if_neg h
theorem DF (h:bJ s=0):dh s=bA (dA s):=if_pos h
theorem Yq (h:bJ s≠0):dh s=[]:=if_neg h
theorem P7 (h:ShAt s.st):abk (bA (dA s))≤6000007:=by grind [Le,zm,dX,P5,uq]
def P8 (w:World) (er:Nat) (R:List Nat) (r:Ending) (a:World):Prop:=
 (∃A c,r= .returned (.tuple #[.slice A (abk R) c,.int .i64 (er:Int)])∧a.ownsRow w.heap.size 41 1 (.slice A (abk R) c) (abk R) (R.map bq)∧abk R≤c)∧Below w.heap.size w a
def qy7 {q:List Nat} (a:sH=er) (h:q=R) (b:W.ownsRow w.heap.size 41 1 (.slice A (abk q) c) (abk q) (q.map bq)) (hc:abk q≤c) (hb:Below w.heap.size w W):P8 w er R (.returned (.tuple #[.slice A (abk q) c,.int .i64 (sH:Int)])) W:=by
 subst h;subst a
 exact ⟨⟨A,c,rfl,b,hc⟩,hb⟩
def qy8 (e:Int) (a:e=er) (h:R=[]) (hb:Below w.heap.size w W):P8 w er R (.returned (.tuple #[.slice none 0 0,.int .i64 e])) W:=by
 subst h;subst a
 exact ⟨⟨none,0,rfl,acQ _ _ _ _,abo _⟩,hb⟩
def qy9 (e:Int) (a:e=er) (h:R=[]) (hb:Below w.heap.size w W):zf w er R (.returned (.tuple #[.slice none 0 0,.int .i64 e])) W:=by
 subst h;subst a
 exact ⟨⟨none,0,rfl,acQ _ _ _ _,abo _⟩,hb⟩
def q9m (s:cO):0<abk ((dX s).flatMap au):=by grind [DC,aG,aH,Fh]
def qza (h:bJ s=0):([113,115,1]:List Nat).map B8++((iR s).flatMap au).map B8=(dA s).map B8:=by
 rw [zZ h];exact List.map_append.symm
def zjf (h:bJ s=0):3+abk ((iR s).flatMap au)=abk (dA s):=by rw [Le,zZ h]
def q9n (h:ShAt s.st):abk (dA s)≤6000003:=by
 have h1:=P7 h
 rw [uq] at h1
 omega
def qzb {q:List Nat} (a:sH=er) (h:q=R) (b:W.ownsRow w.heap.size 5 1 (.slice A (abk q) c) (abk q) (q.map B8)) (hc:abk q≤c) (hb:Below w.heap.size w W):zf w er R (.returned (.tuple #[.slice A (abk q) c,.int .i64 (sH:Int)])) W:=by
 subst h;subst a
 exact ⟨⟨A,c,rfl,b,hc⟩,hb⟩
def Yr (l:List jo):∀u∈l.flatMap gK,u.oneCell'=true:=by
 intro u b
 obtain ⟨x,_,a⟩:=acK.1 b
 simp only [gK,abQ,acy,or_false] at a
 rcases a with rfl|rfl|rfl<;>rfl
def qf:jo:=⟨⟨#[104,101,97,100]⟩,0,3⟩
theorem F5 {f:Nat→List α} (h:∀i,abk (f i)=m):∀k,abk (dW k f)=m*k
 |0=>rfl
 |k+1=>by rw [q5,abm,aeC,F5 h k,h k]
structure Hb where
 b:Bk
 A:Option Addr
 c:Nat
def Hb.zero:Hb:=⟨Bk.zero,none,0⟩
def hbL (h:Hb):List Value:=(h.b.cells h.A h.c).toList
theorem OE (h:Hb):abk (hbL h)=5:=rfl
def Hb.own (h:Hb):Own:=⟨h.A,abk h.b.evs,h.c,h.b.evs.flatMap iw⟩
def gJ (t:TypeId) (q:List Hb):List Fact:=jc t 11 (q.map Hb.own)
def nW (w:World) (q:List Hb):Prop:=∀h∈q,Rd w w.heap.size 11 h.A (abk h.b.evs) (h.b.evs.flatMap iw)
section
variable {W w w':World} {fs gs a b:List Fact} {t bt:TypeId} {q:List Hb}
theorem q8x (h:Hb):gJ t (q++[h])=gJ t q++[.row (.slice h.A (abk h.b.evs) h.c) (abk h.b.evs) (h.b.evs.flatMap iw) t 11]:=by
 unfold gJ jc
 rw [abP,abP]
 rfl
def zer {h:Hb} (d:h∈q):ae9 (.slice h.A (abk h.b.evs) h.c) (abk h.b.evs) (h.b.evs.flatMap iw) t 11∈gJ t q:=ac8 (ac8 d)
theorem Mem.Fb (h:Mem W w fs) (hs:∀f∈gJ t q,f∈fs):nW w q:=λ_ c=>h.jQ (hs _ (zer c))
theorem nW.old (h:nW W q) (c:Mem W w fs):nW w q:=λx d=>c.old (h x d)
theorem nW.at (h:nW w q) (hk:k<abk q):Rd w w.heap.size 11 (q.getD k Hb.zero).A (q.getD k Hb.zero).b.evs.length ((q.getD k Hb.zero).b.evs.flatMap iw):=by
 refine h _ ?_
 rw [abn,abt hk]
 exact aei hk
def aaK {x:Bk} (h:Mem W w (.row (.slice A (abk x.evs) c) (abk x.evs) (x.evs.flatMap iw) t 11::(a++(gJ t q++b)))):Mem W w (a++(gJ t (q++[⟨x,A,c⟩])++b)):=by
 refine h.perm ?_
 rw [q8x]
 have h1:(ae9 (.slice A (abk x.evs) c) (abk x.evs) (x.evs.flatMap iw) t 11::(a++(gJ t q++b))).Perm (a++ae9 (.slice A (abk x.evs) c) (abk x.evs) (x.evs.flatMap iw) t 11::(gJ t q++b)):=(adj).symm
 refine h1.trans (List.Perm.append_left a ?_)
 rw [abz]
 exact (adj (l₁:=gJ t q) (l₂:=b)).symm
def aaF {f:Fact} (h:Mem W w (a++b)) (k:Mem w w' (f::gJ t q)):Mem W w' (f::(a++(gJ t q++b))):=by
 refine (h.join k).perm (List.Perm.cons f ?_)
 show (gJ t q++(a++b)).Perm _
 rw [←abz,←abz]
 exact List.Perm.append_right b adh
end
def Bo (t bt:TypeId) (w:World) (er:Nat) (bs:List Bk):Ending→World→Prop:=λr w'=>∃A c q,r= .returned (.tuple #[.slice A (abk bs) c,.int .i64 (er:Int)])∧q.map Hb.b=bs∧abk bs≤c∧Mem w w' (.row (.slice A (abk bs) c) (abk bs) (q.flatMap hbL) bt 5::gJ t q)
section
variable {W w:World} {fs a:List Fact} {t bt:TypeId} {q:List Hb}
theorem Mem.only (h:Mem W w fs) {f:Fact} (d:f∈fs):Mem W w [f]:=⟨h.below,λk c=>by rw [adf] at c;subst c;exact h.holds k d,List.pairwise_singleton _ _⟩
def q8y {n:Int} (h:Mem W w fs) (c:n=er):Bo t bt W er [] (.returned (.tuple #[.slice none 0 0,.int .i64 n])) w:=by
 subst c
 exact ⟨none,0,[],rfl,rfl,abo _,Mem.nil ⟨h.below,λf d=>absurd d acy,.nil⟩ _ _⟩
theorem zes (h:Mem W w (.row (.slice A (abk q) c) (abk q) (q.flatMap hbL) bt 5::gJ t q)) (hc:abk q≤c):Bo t bt W 0 (q.map Hb.b) (.returned (.tuple #[.slice A (abk q) c,.int .i64 0])) w:=
 ⟨A,c,q,by rw [abv];rfl,rfl,by rwa [abv],by rwa [abv]⟩
end
def jf (x:aC):List (List Sp):=x.rs.map aeI
theorem yt {x:aC} (h:g<abk x.rs):(jf x).getD g []=(x.rs.getD g Rw.zero).l:=jT h
theorem uX (x:aC):abk (jf x)=abk x.rs:=abv ..
def uY (a b:aC):Prop:=a.ak=b.ak∧a.aj=b.aj∧a.gs=b.gs
instance F6 (a b:aC):Decidable (uY a b):=by unfold uY;infer_instance
def kH (a b:aC):Prop:=uY a b∧a.cl=b.cl∧a.cu=b.cu∧a.ts=b.ts∧jf a=jf b
instance F7 (a b:aC):Decidable (kH a b):=by unfold kH;infer_instance
def eU (a b:cO):Prop:=a.next=b.next∧a.st.ak=b.st.ak∧a.st.aj=b.st.aj∧a.st.gs=b.st.gs∧a.st.cl=b.st.cl∧a.st.cu=b.st.cu∧a.st.ts=b.st.ts∧jf a.st=jf b.st
instance Lf (a b:cO):Decidable (eU a b):=by unfold eU;infer_instance
theorem Yt {l:List Rw} (h:i<abk l):(l.map aeI).getD i []=(l.getD i Rw.zero).l:=by
 rw [abn,abn,adb,abt h]
 rfl
section
variable {P:Program} {Q:Exit→Act→World→Prop} {a:Act} {W w:World} {n d:Nat} {D:List Deferred} {σ:List (Nat×Value)} {o:Oper} {K:Act→World→Prop} {fs:List Fact}
end
def kM (t:TypeId) (q:List Rw):List Fact:=jc t 3 (q.map Rw.own)
section
variable {W w w':World} {fs gs a T:List Fact} {t:TypeId} {q:List Rw}
theorem q32 {x:Rw} (b:x∈q):ae9 (.slice x.A (abk x.l) x.c) (abk x.l) (x.l.flatMap iT) t 3∈kM t q:=ac8 (ac8 b)
theorem aaB {l:List Sp} (h:Mem W w (.row (.slice A (abk l) c) (abk l) (l.flatMap iT) t 3::(fs++kM t q))):Mem W w (fs++kM t (q++[⟨A,c,l⟩])):=by
 have h1:=Mem.zkx h
 unfold kM
 rw [abP]
 exact h1
theorem Mem.pE (h:Mem W w fs) (k:Mem w w' gs):Mem W w' (fs++gs):=(h.join k).perm adh
end
def iU (x:aC):List Fact:=[.row (.slice x.gA (abk x.gs) x.gc) (abk x.gs) (x.gs.flatMap eZ) 198 2,.row (.slice x.lA (abk x.cl) x.lc) (abk x.cl) (x.cl.map aP) 3 1,.row (.slice x.uA (abk x.cu) x.uc) (abk x.cu) (x.cu.map aP) 3 1,.row (.slice x.tA (abk x.ts) x.tc) (abk x.ts) (x.ts.flatMap bI) 232 8,.row (.slice x.sA (abk x.rs) x.sc) (abk x.rs) (x.rs.map aac) 176 1]++kM 200 x.rs
section
variable {W w w':World} {fs T:List Fact} {x:aC}
theorem Mem.yu (h:Mem W w fs) (hs:∀f∈iU x,f∈fs):eD w x:=
 ⟨h.jQ (hs _ (abF (i:=0) (l:=iU x) rfl)),h.jQ (hs _ (abF (i:=1) (l:=iU x) rfl)),h.jQ (hs _ (abF (i:=2) (l:=iU x) rfl)),h.jQ (hs _ (abF (i:=3) (l:=iU x) rfl)),h.jQ (hs _ (abF (i:=4) (l:=iU x) rfl)),λy b=>h.jQ (hs _ (acA _ (q32 b)))⟩
theorem Mem.stL (n:Nat) (h:Mem W w fs) (b:fs.drop n=iU x++T):eD w x:=h.yu λf c=>abU (b▸List.mem_append_left _ c)
theorem Mem.stX (n:Nat) (h:Mem W w fs) (b:fs.drop n=iU x):eD w x:=h.yu λf c=>abU (b▸c)
end
def Yu (w:World) (x:aC) (r:Ending) (w':World):Prop:=∃y:aC,r= .returned (.agg y.cells)∧kH x y∧fq y∧Mem w w' (iU y)
def F8 (l:List Gr):∀u∈l.flatMap eZ,u.oneCell'=true:=by
 intro u c
 obtain ⟨x,_,b⟩:=acK.1 c
 simp only [eZ,abQ,acy,or_false] at b
 rcases b with rfl|rfl<;>rfl
theorem P9 (l:List Sp):∀u∈l.flatMap iT,u.oneCell'=true:=by
 intro u c
 obtain ⟨x,_,b⟩:=acK.1 c
 simp only [iT,abQ,acy,or_false] at b
 rcases b with rfl|rfl|rfl<;>rfl
theorem F9 (l:List Tk):∀u∈l.flatMap bI,u.oneCell'=true:=by
 intro u c
 obtain ⟨x,_,b⟩:=acK.1 c
 simp only [bI,abQ,acy,or_false] at b
 rcases b with rfl|rfl|rfl|rfl|rfl|rfl|rfl|rfl<;>rfl
def Qa (l:List Int):∀u∈l.map aP,u.oneCell'=true:=by
 intro u b
 obtain ⟨x,_,rfl⟩:=acd.1 b
 rfl
def Yv (l:List Rw):∀u∈l.map aac,u.oneCell'=true:=by
 intro u b
 obtain ⟨x,_,rfl⟩:=acd.1 b
 rfl
theorem q9o {l:List Rw} (h:k<abk l):(l.take (k+1)).map aeI=(l.take k).map aeI++[(l.getD k Rw.zero).l]:=by rw [xV Rw.zero h,abP];rfl
theorem Lg {a b:aC} (h:kH a b):b.av=a.av:=by
 obtain ⟨⟨h1,h2,h3⟩,h4,h5,h6,h7⟩:=h
 unfold aC.av
 rw [h1,h2,h3,h4,h5,h6,show a.rs.map aeI=b.rs.map aeI from h7]
theorem Lh {b:cO} (h:eU a b):kH a.st b.st:=⟨⟨h.2.1,h.2.2.1,h.2.2.2.1⟩,h.2.2.2.2.1,h.2.2.2.2.2.1,h.2.2.2.2.2.2.1,h.2.2.2.2.2.2.2⟩
def uZ {b:cO} (h0:a.next=b.next) (h:kH a.st b.st):eU a b:=⟨h0,h.1.1,h.1.2.1,h.1.2.2,h.2.1,h.2.2.1,h.2.2.2.1,h.2.2.2.2⟩
theorem Yw {a b:aC} (h:jf a=jf b):abk a.rs=abk b.rs:=by rw [←uX a,h,uX]
theorem Li {f g:Nat→List α}:∀k,(∀i,i<k→f i=g i)→dW k f=dW k g
 |0,_=>rfl
 |k+1,h=>by rw [q5,q5,Li k (λi hi=>h i om),h k om]
def zjg {b:cO} (h:eU a b):∀i,aG b i=aG a i:=by
 obtain ⟨h0,h1,h2,h3,h4,h5,h6,h7⟩:=h
 intro i
 match i with
 |0=>show [aH b.next]=[aH a.next];rw [h0]
 |1=>show [aH b.st.ak,b.st.aj,abk b.st.gs]=[aH a.st.ak,a.st.aj,abk a.st.gs];rw [h1,h2,h3]
 |2=>show dW (abk b.st.gs-1) (tK b.st.gs)=dW (abk a.st.gs-1) (tK a.st.gs);rw [h3]
 |3=>show b.st.cl.map aH=a.st.cl.map aH;rw [h4]
 |4=>show b.st.cu.map aH=a.st.cu.map aH;rw [h5]
 |5=>show (abk b.st.ts::dW (abk b.st.ts) λi=>l8 (qo b.st.ts i) (b.st.ts.getD i Tk.zero))=abk a.st.ts::dW (abk a.st.ts) λi=>l8 (qo a.st.ts i) (a.st.ts.getD i Tk.zero);rw [h6]
 |6=>
  have c:=Yw h7
  show (dW (abk b.st.rs) λg=>nA g (b.st.rs.getD g Rw.zero).l)=dW (abk a.st.rs) λg=>nA g (a.st.rs.getD g Rw.zero).l
  rw [c]
  exact Li _ λg e=>by rw [←yt e,←h7,yt om]
 |k+7=>rfl
theorem Ga {b:cO} (h:eU a b):bJ b=bJ a:=by unfold bJ;rw [Lg (Lh h),h.1]
theorem Yx {b:cO} (h:eU a b):dX b=dX a:=Li 7 λi _=>zjg h i
def q9p {b:cO} (h:eU a b):iR b=iR a:=by unfold iR;rw [Ga h,Yx h]
theorem zfl {b:cO} (h:eU a b):dA b=dA a:=by unfold dA;rw [Yx h]
theorem Yy {b:cO} (h:eU a b):dh b=dh a:=by unfold dh;rw [Ga h,zfl h]
def qzc (a:aC):kH a a:=⟨⟨rfl,rfl,rfl⟩,rfl,rfl,rfl,rfl⟩
theorem Yz {a b:aC} (h:kH a b) (c:bP a):bP b:=by
 obtain ⟨⟨h1,h2,h3⟩,h4,h5,h6,h7⟩:=h
 refine ⟨h3▸c.g,h4▸c.l,h5▸c.u,h6▸c.t,by rw [←Yw h7];exact c.s,λy f=>?_⟩
 have h8:y.l∈jf a:=by rw [h7];exact ac8 f
 obtain ⟨z,hz,e⟩:=acd.1 h8
 rw [←e]
 exact c.r z hz
def Gb (x:aC):Prop:=abk x.ts≤60∧abk x.gs≤12∧abk x.rs≤12∧abk x.cl≤8∧abk x.cu≤8∧∀k,k<abk x.rs→(x.rs.getD k Rw.zero).l.length≤8
instance Qb (x:aC):Decidable (Gb x):=by unfold Gb;infer_instance
def jo.zero:jo:=⟨⟨#[]⟩,0,0⟩
def jo.cells (x:jo):Array Value:= #[.string x.nm,.int .i64 (x.fr:Int),.int .i64 (x.to:Int)]
def MX (a b c d e:Nat):cO:=⟨1,⟨1,0,some ⟨a,0,none⟩,1,[⟨0,1⟩],some ⟨b,0,none⟩,1,[0],some ⟨c,0,none⟩,1,[0],none,0,[],some ⟨e,0,none⟩,1,[⟨some ⟨d,0,none⟩,1,[⟨0,0,0⟩]⟩]⟩⟩
section
variable {w:World} {a b c d e f:Nat}
theorem xD {p:α→Prop} {x:α} (h:p x):∀y∈[x],p y:=λy g=>by rw [adf] at g;subst g;exact h
theorem zho {p:α→Prop}:∀y∈([]:List α),p y:=λy g=>by cases g
theorem zhp:Gr.Ok ⟨0,1⟩:=⟨by unfold aQ;decide,by unfold aQ;decide⟩
def zkn:(MX a b c d e).st.av.Ok:=⟨show aQ 1 by unfold aQ;decide,show 0<18446744073709551616 by decide,xD zhp,xD (by unfold aQ;decide),xD (by unfold aQ;decide),zho,xD (xD ⟨by decide,by decide,by decide⟩)⟩
def zhq:bP (MX a b c d e).st:=⟨by show 1≤1000000;decide,by show 1≤1000000;decide,by show 1≤1000000;decide,by show 0≤1000000;decide,by show 1≤1000000;decide,xD (by show 1≤1000000;decide)⟩
def zhr:fq (MX a b c d e).st:=⟨abo 1,abo 1,abo 1,abo 0,abo 1,xD (abo 1)⟩
end
def fG (A:Option Addr) (n c:Nat) (l:List Gr):Fact:= .row (.slice A n c) n (l.flatMap eZ) 198 2
def fI (A:Option Addr) (n c:Nat) (l:List Int):Fact:= .row (.slice A n c) n (l.map aP) 3 1
def fT (A:Option Addr) (n c:Nat) (l:List Tk):Fact:= .row (.slice A n c) n (l.flatMap bI) 232 8
def fS (A:Option Addr) (n c:Nat) (l:List Rw):Fact:= .row (.slice A n c) n (l.map aac) 176 1
def fR (q:List Rw):List Fact:=kM 200 q
def fM (gm:Nat) (cp:Int) (cr:Nat) (gA:Option Addr) (ng gc:Nat) (lA:Option Addr) (nl lc:Nat) (uA:Option Addr) (nu uc:Nat) (tA:Option Addr) (nt tc:Nat) (sA:Option Addr) (ns sc:Nat):Fact:=
 .blk gm #[.int .i64 cp,.int .u64 (cr:Int),.slice gA ng gc,.slice lA nl lc,.slice uA nu uc,.slice tA nt tc,.slice sA ns sc,.bool true] 273
def jq (gm:Nat) (x:aC) (ng nl nu nt ns:Nat):List Fact:=fM gm x.ak x.aj x.gA ng x.gc x.lA nl x.lc x.uA nu x.uc x.tA nt x.tc x.sA ns x.sc::fG x.gA ng x.gc x.gs::fI x.lA nl x.lc x.cl::fI x.uA nu x.uc x.cu::fT x.tA nt x.tc x.ts::fS x.sA ns x.sc x.rs::fR x.rs
structure rF (x:aC) (ng nl nu nt ns:Nat):Prop where
 g:abk x.gs=ng
 l:abk x.cl=nl
 u:abk x.cu=nu
 t:abk x.ts=nt
 s:abk x.rs=ns
structure dB (x:aC) (ng nl nu nt ns:Nat):Prop where
 ok:x.av.Ok
 few:bP x
 sh:ShAt x
 ln:rF x ng nl nu nt ns
section
variable {W w w':World} {F A T fs:List Fact} {x:aC} {ng nl nu nt ns gm g c n:Nat}
theorem YC:jq gm x (abk x.gs) (abk x.cl) (abk x.cu) (abk x.ts) (abk x.rs)=fM gm x.ak x.aj x.gA (abk x.gs) x.gc x.lA (abk x.cl) x.lc x.uA (abk x.cu) x.uc x.tA (abk x.ts) x.tc x.sA (abk x.rs) x.sc::iU x:=rfl
theorem Mem.sN (n:Nat) (h:Mem W w F) (b:F.drop n=jq gm x ng nl nu nt ns++T) (e:rF x ng nl nu nt ns):eD w x:=by
 obtain ⟨rfl,rfl,rfl,rfl,rfl⟩:=e
 exact h.stL (T:=T) (n+1) (by rw [←ac3,b,YC];rfl)
theorem Mem.nO (n:Nat) (h:Mem W w F) (b:F.drop n=jq gm x ng nl nu nt ns++T) (e:rF x ng nl nu nt ns):w.heap[gm]?=some (.cells #[.int .i64 x.ak,.int .u64 (x.aj:Int),.slice x.gA (abk x.gs) x.gc,.slice x.lA (abk x.cl) x.lc,.slice x.uA (abk x.cu) x.uc,.slice x.tA (abk x.ts) x.tc,.slice x.sA (abk x.rs) x.sc,.bool true] 273 (0,0)):=by
 obtain ⟨rfl,rfl,rfl,rfl,rfl⟩:=e
 have h1:fM gm x.ak x.aj x.gA (abk x.gs) x.gc x.lA (abk x.cl) x.lc x.uA (abk x.cu) x.uc x.tA (abk x.ts) x.tc x.sA (abk x.rs) x.sc∈F:=abU (by rw [b,YC];exact acB ..)
 exact (h.holds _ h1).2
theorem Mem.front (n:Nat) (h:Mem W w F) (b:F.drop n=A++T):Mem W w (A++(F.take n++T)):=by
 have h2:Mem W w (F.take n++(A++T)):=by rw [←b,ab5];exact h
 exact h2.perm (ad6 ..)
theorem Mem.back (h:Mem W w (A++(F++T))):Mem W w (F++(A++T)):=h.perm (ad6 ..)
end
def aN (rs:List Rw) (g c:Nat) (z:Sp):List Rw:=rs.set g {rs.getD g Rw.zero with l:=(rs.getD g Rw.zero).l.set c z}
theorem zi (rs:List Rw) (g c:Nat) (z:Sp):abk (aN rs g c z)=abk rs:=abG ..
theorem q7 {l:List α} (d x:α) (h:k<abk l):(l.set k x).getD k d=x:=by
 rw [abn,List.getElem?_set_self h];rfl
theorem getD_set_ne {l:List α} {j:Nat} (d x:α) (h:k≠j):(l.set k x).getD j d=l.getD j d:=by grind
theorem YD {l:List α} (d:α) (h:k<abk l):l.set k (l.getD k d)=l:=by simp_all
theorem q36 (b:g<abk rs):(aN rs g c z).map aac=rs.map aac:=by grind [aac,Rw.zero,aN,YD,abt,abv,abG,afy]
theorem zfm (b:g<abk rs):(aN rs g c z).map aeI=(rs.map aeI).set g (((rs.map aeI).getD g []).set c z):=by simp_all [Rw.zero,Yt,aN]
theorem DI (b:g<abk rs):(aN rs g c z).getD g Rw.zero={rs.getD g Rw.zero with l:=(rs.getD g Rw.zero).l.set c z}:=q7 _ _ b
theorem Gd {h:Nat} (b:g≠h):(aN rs g c z).getD h Rw.zero=rs.getD h Rw.zero:=getD_set_ne _ _ b
theorem Qe {y:Sp} (b:g<abk rs):aN (aN rs g c z) g c y=aN rs g c y:=by simp_all [q7,aN]
section
variable {W w w':World} {F A T fs:List Fact} {rs:List Rw} {n g c:Nat}
def aax (n:Nat) (e:F.drop n=fR rs++T) (b:g<abk rs):F[n+g]?=some (.row (.slice (rs.getD g Rw.zero).A (rs.getD g Rw.zero).l.length (rs.getD g Rw.zero).c) (rs.getD g Rw.zero).l.length ((rs.getD g Rw.zero).l.flatMap iT) 200 3):=by
 have h1:F[n+g]?=(F.drop n)[g]?:=by rw [acO]
 have h:abk (fR rs)=abk rs:=by unfold fR kM jc;rw [abv,abv]
 rw [h1,e,List.getElem?_append_left om]
 unfold fR kM jc
 rw [adb,adb,abt b,abn,abt b]
 rfl
theorem Mem.jw (n:Nat) (h:Mem W w F) (b:F.drop n=fR rs++T) (e:g<abk rs) (hy:rs.getD g Rw.zero=⟨E,m,yl⟩) (h0:0<abk yl):∃i,E=some ⟨i,0,none⟩:=by
 have h1:=aax n b e
 rw [hy] at h1
 exact zl (h.own h1) h0
theorem Mem.tL {m b c j:Nat} {v:Value} (n:Nat) (h:Mem W w F) (e:F.drop n=fR rs++T) (i:g<abk rs) (hy:rs.getD g Rw.zero=⟨some ⟨b,0,none⟩,m,yl⟩) (hz:yl[c]?=some z) (k:(iT z)[j]?=some v):w.cell? ⟨b,c*3+j,none⟩=some v:=by
 have h1:=aax n e i
 rw [hy] at h1
 exact h.qu Bz h1 hz k
theorem Mem.YE {A:Option Addr} {size:Nat} {xs:List Value} {e:TypeId} (n:Nat) (h:Mem W w F) (b:F.drop n=fR rs++T) (j: .row (.slice A m k) m xs e size∈T):Rd w w.heap.size size A m xs:=
 h.jQ (abU (i:=n) (by rw [b];exact acA _ j))
def zjh {r:Rw}:(fR rs).set g (.row (.slice r.A (abk r.l) r.c) (abk r.l) (r.l.flatMap iT) 200 3)=fR (rs.set g r):=by
 unfold fR kM jc
 rw [afy,afy]
 rfl
variable {P:Program} {Q:Exit→Act→World→Prop} {a:Act} {N d:Nat} {D:List Deferred} {σ:List (Nat×Value)} {o:Oper} {v:Value} {K:Act→World→Prop}
def qc2 (Z:Fr a N D σ) (h:Mem W w F) (n:Nat) {sA:Option Addr} {ns sc m e off:Nat} {yl:List Sp} {t:TypeId} {x y:Operand} (j:Nat) {z:Sp} (b:Sp) (i:o.op= .store t x y) (u:o.dst=none) (B:look σ x=some (.pointer (some ⟨e,off,none⟩))) (C:look σ y=some v) (hs:(P.info? t).map (·.size)=some 1) (h1:v.oneCell'=true)
  (p:F.drop n=fS sA ns sc rs::(fR rs++T)) (q:g<abk rs) (hy:rs.getD g Rw.zero=⟨some ⟨e,0,none⟩,m,yl⟩) (hz:yl[c]?=some z) (E:off=c*3+j) (G:j<3) (l:iT b=(iT z).set j v)
  (k:∀w',Mem W w' (F.take n++(fS sA ns sc (aN rs g c b)::(fR (aN rs g c b)++T)))→K a w'):o.wp P a w K Q:=by
 subst E
 have hi:=aax (F:=F) (T:=T) (g:=g) (n+1) (by rw [←ac3,p];rfl) q
 rw [hy] at hi
 have H:c<abk yl:=(aby.1 hz).1
 refine qw Z h i u B C hs h1 hi (by rw [zk iT 3 Bz];show c*3+j<abk yl*3;omega) λw' h=>k w' ?_
 rw [ze iT 3 Bz yl c z b hz j G v l] at h
 have h2:F=F.take n++(fS sA ns sc rs::(fR rs++T)):=by rw [←p,ab5]
 have s:abk (F.take n)=n:=by
  grind
 have h4:F.set (n+1+g) (.row (.slice (some ⟨e,0,none⟩) (abk yl) m) (abk yl) ((yl.set c b).flatMap iT) 200 3)=F.take n++(fS sA ns sc rs::((fR rs).set g (.row (.slice (some ⟨e,0,none⟩) (abk yl) m) (abk yl) ((yl.set c b).flatMap iT) 200 3)++T)):=by
  conv=>lhs;rw [h2]
  rw [afs,if_neg (by rw [s];omega),s,show n+1+g-n=g+1 by omega,List.set_cons_succ,afs,if_pos (by unfold fR kM jc;rw [abv,abv];exact q)]
 have h5:aN rs g c b=rs.set g ⟨some ⟨e,0,none⟩,m,yl.set c b⟩:=by unfold aN;rw [hy]
 have h6:=zjh (rs:=rs) (g:=g) (r:=⟨some ⟨e,0,none⟩,m,yl.set c b⟩)
 grind [fS,q36]
end
section
variable {P:Program} {W w:World} {fs:List Fact} {f:Nat} {fn:Func} {c:Code} {R:Ending→World→Prop} {u1 u2 u3 u4:Value}
def Qg (b:Mem W w fs) (e:P.funcs[f]?=some fn) (N:Nat) (h:fn.ntmps=N:=by exact rfl) (hb:fn.body=some c:=by exact rfl) (i:decide (1≤N)=true:=by kernel_rfl) (k:JJ W w N [] [(0,u1)] fs (Code.wp P c (bodyPost P fn R))):Calls P f #[u1] w R:=
 xH (vs:=[u1]) e hb h i rfl λa Z=>k a Z b
def lX (b:Mem W w fs) (e:P.funcs[f]?=some fn) (N:Nat) (h:fn.ntmps=N:=by exact rfl) (hb:fn.body=some c:=by exact rfl) (i:decide (2≤N)=true:=by kernel_rfl) (k:JJ W w N [] [(0,u1),(1,u2)] fs (Code.wp P c (bodyPost P fn R))):Calls P f #[u1,u2] w R:=
 xH (vs:=[u1,u2]) e hb h i rfl λa Z=>k a Z b
def yw (b:Mem W w fs) (e:P.funcs[f]?=some fn) (N:Nat) (h:fn.ntmps=N:=by exact rfl) (hb:fn.body=some c:=by exact rfl) (i:decide (3≤N)=true:=by kernel_rfl) (k:JJ W w N [] [(0,u1),(1,u2),(2,u3)] fs (Code.wp P c (bodyPost P fn R))):Calls P f #[u1,u2,u3] w R:=
 xH (vs:=[u1,u2,u3]) e hb h i rfl λa Z=>k a Z b
end
def En.cells (x:En):Array Value:= #[.int .u64 (x.v:Int),.int .u32 (x.r:Int),.int .u32 (x.w:Int)]
def lY (x:En):∀v∈x.cells.toList,v.oneCell'=true:=by simp [En.cells,acf]
def En.Ok (x:En):Prop:=bL x.v x.r x.w=true∧x.v<18446744073709551616
def bC.cells (x:bC):Array Value:= #[.int .u8 (x.kind:Int),.int .i64 x.cpu,.int .i64 x.task,.int .i64 x.group,.int .i64 x.weight,.int .i64 x.to,.int .i64 x.ticks,.int .u64 (x.mask:Int)]
theorem YF (x:bC):∀v∈x.cells.toList,v.oneCell'=true:=by simp [bC.cells,acf]
theorem mD:SI abl 214 8:=⟨by kernel_rfl,by kernel_rfl⟩
theorem rG:EI abl 211 214 (.agg #[.int .u8 0,.int .i64 0,.int .i64 0,.int .i64 0,.int .i64 0,.int .i64 0,.int .i64 0,.int .u64 0]) 8 64:=⟨by kernel_rfl,by kernel_rfl,rfl,by omega⟩
section
variable {W w:World} {F T:List Fact} {x:aC} {ng nl nu nt ns gm g c n:Nat}
theorem dB.sort (h:dB x ng nl nu nt ns):d9 x.ts:=X0 h.sh
def Gf (n:Nat) (e:Mem W w F) (h:F.drop n=jq gm x ng nl nu nt ns++T) (b:dB x ng nl nu nt ns) (id:Int):Calls abl 161 #[.pointer (some ⟨gm,0,none⟩),.int .i64 id] w (Is w (.int .i64 (fidx x.ts id))):=
 Yf x gm id b.sort w (e.nO n h b.ln) (e.sN n h b.ln).t b.few.t
def q9q (n:Nat) (e:Mem W w F) (h:F.drop n=jq gm x ng nl nu nt ns++T) (b:dB x ng nl nu nt ns) (hc:(c:Int)<x.ak) (i:g<ns):Calls abl 162 #[.pointer (some ⟨gm,0,none⟩),.int .i64 (g:Int),.int .i64 (c:Int)] w (Is w (.tuple #[.agg (aJ bB (aO x.av g c)).cells,.bool (!(aO x.av g c).isEmpty)])):=
 Lc x b.ok b.few b.sh gm c hc _ g (abo _) (by rw [b.ln.s];exact i) w (e.sN n h b.ln) (e.nO n h b.ln)
end
def Qh {a b:List α} (h:abk b=n):abk a+n=abk (a++b):=by rw [abm,h]
section
variable {s:aY} {c g:Nat}
theorem qtz (b:∀i,0<i→i≤g→dS s.gs i) (h:g≤f):qQ s c f g=qQ s c g g:=by
 have key:∀(g f a:Nat),(∀i,0<i→i≤g→dS s.gs i)→g≤f→g≤a→qQ s c f g=qQ s c a g:=by
  intro g
  induction g using ae6 with
  | _ g j =>
   intro f a b h1 h2
   by_cases h0:g=0
   ·subst h0
    cases f<;>cases a<;>simp [qQ]
   ·obtain ⟨f,rfl⟩:∃k,f=k+1:=⟨f-1,by omega⟩
    obtain ⟨a,rfl⟩:∃k,a=k+1:=⟨a-1,by omega⟩
    have d:=b g om (abo _)
    unfold dS at d
    simp only [qQ,if_neg h0]
    have e:(s.par g).toNat<g:=by show (s.gs.getD g Gr.zero).parent.toNat<g;omega
    grind
 exact key g f g b h (abo _)
theorem YG (a:∀i,0<i→i≤g→dS s.gs i) (h0:0<g) (hm:aO s g c=[]):kL s g c=g::kL s (s.gs.getD g Gr.zero).parent.toNat c:=by
 obtain ⟨k,rfl⟩:∃k,g=k+1:=⟨g-1,by omega⟩
 have b:=a (k+1) h0 (abo _)
 unfold dS at b
 show qQ s c (k+1) (k+1)=_
 rw [qQ,if_neg om,if_pos (by rw [hm];rfl)]
 show (k+1)::qQ s c k (s.gs.getD (k+1) Gr.zero).parent.toNat=_
 rw [qtz (λi hi d=>a i hi om) om]
 rfl
theorem qt0:kL s 0 c=[]:=rfl
theorem YH (hm:aO s g c≠[]):kL s g c=[]:=by
 cases g with
 |zero=>rfl
 |succ k=>
  show qQ s c (k+1) (k+1)=_
  grind [qQ]
def YI (b:∀i,0<i→i≤g→dS s.gs i):∀h∈kL s g c,0<h∧h≤g∧aO s h c=[]:=by
 induction g using ae6 with
 | _ g d =>
  intro h a
  rcases Nat.eq_zero_or_pos g with h0|h0
  ·subst h0;cases a
  ·by_cases hm:aO s g c=[]
   ·rw [YG b h0 hm] at a
    have e:=b g h0 (abo _)
    unfold dS at e
    rcases abQ.1 a with rfl|a
    ·exact ⟨h0,abo _,hm⟩
    ·have:=d (s.gs.getD g Gr.zero).parent.toNat om (λi hi f=>b i hi om) h a
     exact ⟨this.1,by omega,this.2.2⟩
   ·rw [YH hm] at a;cases a
theorem YJ:∀(l:List Mb) (b:Mb),aJ b l=b∨aJ b l∈l
 |[],b=> .inl rfl
 |m::r,b=>by
  show aJ (if m.lt b then m else b) r=b∨aJ (if m.lt b then m else b) r∈m::r
  rcases YJ r (if m.lt b then m else b) with h|h
  ·grind
  ·exact .inr (ab2 _ h)
def q9r {l:List Mb} (a:l≠[]) (ht:∀m∈l,m.lt bB=true):aJ bB l∈l:=by
 cases l with
 |nil=>exact absurd rfl a
 |cons m r=>
  show aJ (if m.lt bB then m else bB) r∈m::r
  grind [YJ]
theorem Lj {m:Mb} (hm:m∈aO s g c):(∃t∈s.ts,t.here g c=true∧m=⟨t.v,0,t.id.toNat⟩)∨(∃h,g<h∧h<abk s.sp∧s.par h=g∧aO s h c≠[]∧m=⟨(s.spot h c).v,1,h⟩):=by grind [kS,K3,uN,acz]
theorem yx (a:s.Ok) (g c:Nat):(s.spot g c).Ok:=by
 unfold aY.spot
 rcases acj g (abk s.sp) with h|h
 ·rcases acj c (abk (s.sp.getD g [])) with h2|h2
  ·exact a.sp _ (qe [] h) _ (qe Sp.zero h2)
  ·rw [abn (l:=s.sp.getD g []),adg h2]
   exact ⟨by decide,by decide,by decide⟩
 ·rw [abn (l:=s.sp),adg h]
  have e:(Option.none.getD ([]:List Sp)).getD c Sp.zero=Sp.zero:=rfl
  rw [e]
  exact ⟨by decide,by decide,by decide⟩
def q9s (a:s.Ok):∀m∈aO s g c,m.lt bB=true:=by
 intro m hm
 unfold Mb.lt
 rw [decide_eq_true_eq]
 show m.v<18446744073709551615∨m.v=18446744073709551615∧(m.k<18446744073709551615∨_)
 rcases Lj hm with ⟨t,ht,_,rfl⟩|⟨h,_,_,_,_,rfl⟩
 ·have:=(a.ts t ht).v
  show t.v<_∨t.v=_∧(0<_∨_)
  omega
 ·have:=(yx a h c).v
  grind
theorem Qi (a:s.Ok) (b:aO s g c≠[]):aJ bB (aO s g c)∈aO s g c:=q9r b (q9s a)
theorem Ll (a:s.Ok) (b:aO s g c≠[]):((aJ bB (aO s g c)).k=0∧∃t∈s.ts,t.here g c=true∧aJ bB (aO s g c)=⟨t.v,0,t.id.toNat⟩)∨((aJ bB (aO s g c)).k=1∧∃h,(aJ bB (aO s g c)).id=h∧g<h∧h<abk s.sp∧s.par h=g∧aO s h c≠[]∧(aJ bB (aO s g c)).v=(s.spot h c).v):=by grind [Qi,Lj]
def qt2 (b:s.Ok):∀(n f a g:Nat),g<abk s.sp→abk s.sp-g≤n→n≤f→n≤a→wY s c f g=wY s c a g:=by
 intro n
 induction n with
 |zero=>intro f a g d e;omega
 |succ n h=>
  intro f a g d e h1 h2
  obtain ⟨f,rfl⟩:∃k,f=k+1:=⟨f-1,by omega⟩
  obtain ⟨a,rfl⟩:∃k,a=k+1:=⟨a-1,by omega⟩
  rw [wY,wY]
  by_cases hm:aO s g c=[]
  ·grind
  ·grind [Ll,aO]
def vg (s:aY) (c g:Nat):Nat:=wY s c (abk s.sp-g) g
theorem q37:oK s c=vg s c 0:=rfl
theorem YK (b:g<abk s.sp) (hm:aO s g c=[]):vg s c g=0:=by
 unfold vg
 obtain ⟨k,a⟩:∃k,abk s.sp-g=k+1:=⟨abk s.sp-g-1,by omega⟩
 rw [a,wY,if_pos (by rw [hm];rfl)]
theorem YL (a:g<abk s.sp) (hm:aO s g c≠[]) (h0:(aJ bB (aO s g c)).k=0):vg s c g=(aJ bB (aO s g c)).id:=by
 unfold vg
 obtain ⟨k,b⟩:∃k,abk s.sp-g=k+1:=⟨abk s.sp-g-1,by omega⟩
 grind [wY]
theorem YM (a:s.Ok) (d:g<abk s.sp) (hm:aO s g c≠[]) (h0:(aJ bB (aO s g c)).k≠0):vg s c g=vg s c (aJ bB (aO s g c)).id∧g<(aJ bB (aO s g c)).id∧(aJ bB (aO s g c)).id<abk s.sp:=by
 rcases Ll a hm with ⟨h,_⟩|⟨h,j,h3,h4,h5,_⟩
 ·exact absurd h h0
 ·rw [h3]
  refine ⟨?_,h4,h5⟩
  unfold vg
  obtain ⟨k,b⟩:∃k,abk s.sp-g=k+1:=⟨abk s.sp-g-1,by omega⟩
  rw [b,wY,if_neg (by simpa using hm),if_neg h0,h3]
  exact qt2 a (abk s.sp-j) _ _ j h5 (abo _) om (abo _)
def gL (l:List Tk) (c:Nat):Int:=(l.map λt=>if t.ready&&decide (t.cpu=(c:Int)) then t.weight else (0:Int)).sum
def qzd {l:List Tk} (h:k<abk l):gL (l.take (k+1)) c=gL (l.take k) c+(if (l.getD k Tk.zero).ready&&decide ((l.getD k Tk.zero).cpu=(c:Int)) then (l.getD k Tk.zero).weight else (0:Int)):=by grind [Tk.zero,gL,xV]
def YN {l:List Tk} (a:∀t∈l,1≤t.weight∧t.weight≤65536):0≤gL l c∧gL l c≤65536*abk l:=by
 induction l with
 |nil=>exact ⟨afd _,afd _⟩
 |cons t r b=>
  have h1:=b λx d=>a x (ab2 _ d)
  grind [gL]
def YO {l:List Tk} (a:∀t∈l,1≤t.weight∧t.weight≤65536) (k:Nat):0≤gL (l.take k) c∧gL (l.take k) c≤65536*abk l:=by
 have h1:=YN (c:=c) (l:=l.take k) λt ht=>a t (ach ht)
 grind
theorem qze (h:k<abk l):gD s (l.take (k+1)) c=lG c (gD s (l.take k) c) (l.getD k 0):=by
 unfold gD
 rw [xV 0 h,List.foldl_append]
 rfl
end
def eu (gs:List Gr) (cp:Int) (rs:List Rw):Prop:=∀g,g<abk rs→((rs.getD g Rw.zero).l.length:Int)=cp∧∀z∈(rs.getD g Rw.zero).l,z.Ok∧bL z.v z.r (gs.getD g Gr.zero).weight=true
section
variable {x:aC} {ng nl nu nt ns g c:Nat}
theorem dB.spots (h:dB x ng nl nu nt ns):eu x.gs x.ak x.rs:=λg a=>by
 have h1:=BF a (h.sh.row g a)
 refine ⟨h1.1,λz hz=>?_⟩
 obtain ⟨c,hc,rfl⟩:=acz hz
 have e:(x.rs.getD g Rw.zero).l.getD c Sp.zero=(x.rs.getD g Rw.zero).l[c]:=by rw [abn,abt hc];rfl
 refine ⟨h.ok.sp _ (by rw [←jT a];exact qe [] (by rw [kU];exact a)) _ (aei hc),?_⟩
 have h2:=h1.2 c hc
 rw [e] at h2
 unfold dK at h2
 rw [abC] at h2
 exact h2.1
theorem eu.put {gs:List Gr} {cp:Int} (h:eu gs cp rs) (z:Sp) (hz:z.Ok) (d:bL z.v z.r (gs.getD g Gr.zero).weight=true):eu gs cp (aN rs g c z):=λk a=>by
 rw [zi] at a
 by_cases b:g=k
 ·subst b
  rw [DI a]
  refine ⟨by show (abk ((rs.getD g Rw.zero).l.set c z):Int)=cp;rw [abG];exact (h g a).1,λy e=>?_⟩
  rcases abW e with h1|rfl
  ·exact (h g a).2 y h1
  ·exact ⟨hz,d⟩
 ·rw [Gd b];exact h k a
theorem Qj (a:g<abk x.rs):({x with rs:=aN x.rs g c z}:aC).av=x.av.uS g c z:=by
 unfold aC.av aY.uS
 simp only [zfm a]
theorem xk (a:g<abk x.rs) (hy:x.rs.getD g Rw.zero=⟨A,m,yl⟩) (hz:yl[c]?=some z):x.av.spot g c=z:=by
 rw [Px a,hy,abn,hz]
 rfl
theorem Lm (a:g<abk rs) (hy:rs.getD g Rw.zero=⟨A,m,yl⟩):(aN rs g c z).getD g Rw.zero=⟨A,m,yl.set c z⟩:=by rw [DI a,hy]
theorem q38 {p:Nat} {h:Sp} {pc:Nat} {pl:List Sp} {e:En} (a:g<abk x.rs) (hy:x.rs.getD g Rw.zero=⟨A,n,yl⟩) (hz:yl[c]?=some z) (i:(x.gs.getD g Gr.zero).parent=(p:Int)) (b:p<abk x.rs) (d:x.rs.getD p Rw.zero=⟨E,pc,pl⟩) (f:pl[c]?=some h) (j:(x.gs.getD g Gr.zero).weight=(m:Int)) (k:(⟨z.v,z.r,m⟩:En).woken h.floor x.aj=e):
  ({x with rs:=aN x.rs g c {z with v:=e.v,r:=e.r}}:aC).av=lG c x.av g:=by
 rw [Qj a]
 unfold lG aY.uT
 have e1:x.av.j4 g c=⟨z.v,z.r,m⟩:=by
  unfold aY.j4
  rw [xk a hy hz,show (x.av.gs.getD g Gr.zero).weight=(m:Int) from j]
  rfl
 have e2:(x.av.par g).toNat=p:=by rw [show x.av.par g=(p:Int) from i];rfl
 rw [e1,e2,xk a hy hz,xk b d f,show x.av.aj=x.aj from rfl,k]
theorem qt4 {d:Nat} {e:En} (a:g<abk x.rs) (hy:x.rs.getD g Rw.zero=⟨A,n,yl⟩) (hz:yl[c]?=some z) (b:(x.gs.getD g Gr.zero).weight=(m:Int)) (f:(⟨z.v,z.r,m⟩:En).add d=e):
  ({x with rs:=aN x.rs g c {z with v:=e.v,r:=e.r}}:aC).av=x.av.uT g c ((x.av.j4 g c).add d):=by
 rw [Qj a]
 unfold aY.uT
 have e1:x.av.j4 g c=⟨z.v,z.r,m⟩:=by
  unfold aY.j4
  rw [xk a hy hz,show (x.av.gs.getD g Gr.zero).weight=(m:Int) from b]
  rfl
 rw [e1,xk a hy hz,f]
theorem aas {e:En} (h:e.Ok) (d:Nat):(e.add d).Ok∧(e.add d).w=e.w:=by
 have h1:1≤e.w∧e.w≤65536∧e.r<e.w∧(e.v<18446744073709551615∨e.r=0):=by
  have:=h.1
  grind [bL]
 have a:=h.2
 have hm:=adA (d*1048576+e.r) (show e.w>0 by omega)
 unfold En.add
 have b:ny=18446744073709551615:=rfl
 split
 ·refine ⟨⟨?_,by show ny<_;omega⟩,rfl⟩
  grind [bL]
 ·refine ⟨⟨?_,by show e.v+_<_;omega⟩,rfl⟩
  grind [bL]
theorem aaw {e:En} (h:e.Ok) (a cr:Nat) (b:a<18446744073709551616):(e.woken a cr).Ok∧(e.woken a cr).w=e.w:=by
 unfold En.woken
 split
 ·refine ⟨⟨?_,by show a-cr<_;omega⟩,rfl⟩
  have h1:=h.1
  grind [bL]
 ·exact ⟨h,rfl⟩
theorem aaO {e:En} (h:e.Ok) (fr to:Nat) (a:to<18446744073709551616):(e.moved fr to).Ok∧(e.moved fr to).w=e.w:=by
 have h1:=h.1
 unfold bL at h1
 rw [decide_eq_true_eq] at h1
 have b:=h.2
 have d:ny=18446744073709551615:=rfl
 have hm:sJ e.v fr to<18446744073709551616:=by
  grind [sJ]
 refine ⟨⟨?_,hm⟩,rfl⟩
 unfold bL
 rw [decide_eq_true_eq]
 show (1:Int)≤(e.w:Int)∧(e.w:Int)≤65536∧(((if sJ e.v fr to=ny then 0 else e.r:Nat):Int))<(e.w:Int)∧(sJ e.v fr to<18446744073709551615∨(if sJ e.v fr to=ny then 0 else e.r)=0)
 grind
def DJ {l:List Gr} (h:bV l=true) (a:g<abk l):∃w:Nat,(l.getD g Gr.zero).weight=(w:Int)∧1≤w∧w≤65536:=by
 have:=o8 h a
 exact ⟨(l.getD g Gr.zero).weight.toNat,by omega,by omega,by omega⟩
end
theorem YQ {s s':aY} (ht:s.ts=s'.ts) (b:s.gs=s'.gs) (a:abk s.sp=abk s'.sp) (e:∀h,(s.spot h c).v=(s'.spot h c).v) (g:Nat):aO s g c=aO s' g c:=by
 have key:∀f g,kT s c f g=kT s' c f g:=by
  intro f
  induction f with
  |zero=>intro g;show s.ts.filterMap _=s'.ts.filterMap _;rw [ht]
  |succ f i=>
   grind [aY.par,O9,kS,kT]
 unfold aO
 rw [a]
 exact key _ g
section
variable {x:aC} {ng nl nu nt ns g c h d:Nat} {jG:List Rw}
def jg (x:aC) (jG:List Rw) (g c:Nat):Prop:=abk jG=abk x.rs∧(∀h,(jG.getD h Rw.zero).l.length=(x.rs.getD h Rw.zero).l.length)∧∀h d,h<abk x.rs→d<(x.rs.getD h Rw.zero).l.length→(jG.getD h Rw.zero).l.getD d Sp.zero=if h<g∨h=g∧d<c then gV x.av h d ((x.rs.getD h Rw.zero).l.getD d Sp.zero) else (x.rs.getD h Rw.zero).l.getD d Sp.zero
def qzf:jg x x.rs 0 0:=⟨rfl,λ_=>rfl,λh d _ _=>by rw [if_neg om]⟩
theorem YR (s:aY) (g c:Nat) (z:Sp):(gV s g c z).v=z.v∧(gV s g c z).r=z.r:=by
 unfold gV
 split<;>exact ⟨rfl,rfl⟩
theorem YS (y:aC) (h d:Nat):y.av.spot h d=(y.rs.getD h Rw.zero).l.getD d Sp.zero:=by grind [Rw.zero,aY.spot,kU,Px]
theorem zfn (a:jg x jG g c) (h d:Nat):(({x with rs:=jG}:aC).av.spot h d).v=(x.av.spot h d).v:=by
 rw [YS,YS]
 show ((jG.getD h Rw.zero).l.getD d Sp.zero).v=_
 rcases acj h (abk x.rs) with h1|h1
 ·rcases acj d (x.rs.getD h Rw.zero).l.length with h2|h2
  ·rw [a.2.2 h d h1 h2]
   split
   ·exact (YR ..).1
   ·rfl
  ·have h3:=a.2.1 h
   grind
 ·have e1:jG.getD h Rw.zero=Rw.zero:=by rw [abn,adg (by rw [a.1];exact h1)];rfl
  grind
theorem q4a (a:jg x jG g c) (h d:Nat):aO ({x with rs:=jG}:aC).av h d=aO x.av h d:=
 YQ (s:=({x with rs:=jG}:aC).av) (s':=x.av) rfl rfl (by rw [kU,kU];exact a.1) (λk=>zfn a k d) h
theorem tN {l:List α} {u:α} (d:α) (h:l[k]?=some u):l.getD k d=u:=by rw [abn,h];rfl
theorem qzg (a:jg x jG g c) (f:g<abk x.rs) (hc:c<(x.rs.getD g Rw.zero).l.length) {z b:Sp} (hz:(jG.getD g Rw.zero).l[c]?=some z) (k:gV x.av g c z=b):jg x (aN jG g c b) g (c+1):=by
 have h0:=a.2.2 g c f hc
 rw [if_neg om,tN Sp.zero hz] at h0
 refine ⟨by rw [zi];exact a.1,λh=>?_,λh d i j=>?_⟩
 ·by_cases e:g=h
  ·subst e
   rw [DI (by rw [a.1];exact f)]
   show abk ((jG.getD g Rw.zero).l.set c b)=_
   rw [abG];exact a.2.1 g
  ·rw [Gd e];exact a.2.1 h
 ·by_cases e:g=h
  ·subst e
   rw [DI (by rw [a.1];exact f)]
   show ((jG.getD g Rw.zero).l.set c b).getD d Sp.zero=_
   by_cases e2:c=d
   ·grind
   ·rw [getD_set_ne _ _ e2,a.2.2 g d i j]
    grind
  ·rw [Gd e,a.2.2 h d i j]
   grind
def qzh (a:jg x jG g c) (hm:aO x.av g c=[]):jg x jG g (c+1):=by
 refine ⟨a.1,a.2.1,λh d b e=>?_⟩
 rw [a.2.2 h d b e]
 grind [gV]
theorem q4b (a:jg x jG g c) (hc:(x.rs.getD g Rw.zero).l.length≤c):jg x jG (g+1) 0:=by
 refine ⟨a.1,a.2.1,λh d b e=>?_⟩
 rw [a.2.2 h d b e]
 grind
def q4c (a:jg x jG g 0) (i:abk x.rs≤g):({x with rs:=jG}:aC).av=fA x.av:=by
 have h1:jG.map aeI=(x.rs.map aeI).mapIdx λg l=>l.mapIdx λc z=>gV x.av g c z:=by
  apply aew
  ·rw [abv,af6,abv,a.1]
  ·intro h h2 h3
   rw [abv] at h2
   have e:h<abk x.rs:=by rw [←a.1];exact h2
   rw [afi,af2,afi]
   have e1:jG.getD h Rw.zero=jG[h]:=by rw [abn,abt h2];rfl
   have e2:x.rs.getD h Rw.zero=x.rs[h]:=by rw [abn,abt e];rfl
   have b:=a.2.1 h
   rw [e1,e2] at b
   apply aew
   ·rw [af6,b]
   ·intro d h4 h5
    have f:d<x.rs[h].l.length:=by rw [←b];exact h4
    rw [af2]
    have h6:=a.2.2 h d e (by rw [e2];exact f)
    grind
 show (⟨x.ak,x.aj,x.gs,x.cl,x.cu,x.ts,jG.map aeI⟩:aY)=_
 rw [h1]
 rfl
def zfo (a:bP x) (z:Sp):bP ({x with rs:=aN x.rs g c z}:aC):=by
 refine ⟨a.g,a.l,a.u,a.t,by show abk (aN x.rs g c z)≤_;rw [zi];exact a.s,λy i=>?_⟩
 rcases acj g (abk x.rs) with f|f
 ·rcases abW i with h1|rfl
  ·exact a.r y h1
  ·show abk ((x.rs.getD g Rw.zero).l.set c z)≤_
   rw [abG]
   exact a.r _ (qe Rw.zero f)
 ·have e:aN x.rs g c z=x.rs:=by unfold aN;exact List.set_eq_of_length_le f
  have b:y∈aN x.rs g c z:=i
  rw [e] at b
  exact a.r y b
theorem dB.put (h:dB x ng nl nu nt ns) (f:g<abk x.rs) (z:Sp) (hz:z.Ok) (hs:dK x.av g z=true):dB ({x with rs:=aN x.rs g c z}:aC) ng nl nu nt ns:=by
 have e:=Qj (x:=x) (c:=c) (z:=z) f
 have a:({x with rs:=aN x.rs g c z}:aC).av.sp.length=abk x.av.sp:=by rw [kU,kU];exact zi ..
 refine ⟨⟨h.ok.ak,h.ok.aj,h.ok.gs,h.ok.cl,h.ok.cu,h.ok.ts,λl j y m=>?_⟩,zfo h.few z,⟨h.sh.cfg,h.sh.cl,h.sh.cu,by show abk (aN x.rs g c z)=_;rw [zi];exact h.sh.rs,h.sh.cls,λk n=>?_,λi hi=>?_⟩,⟨h.ln.g,h.ln.l,h.ln.u,h.ln.t,by show abk (aN x.rs g c z)=_;rw [zi];exact h.ln.s⟩⟩
 ·rw [e] at j
  rcases abW (show l∈x.av.sp.set g ((x.av.sp.getD g []).set c z) from j) with h1|rfl
  ·exact h.ok.sp l h1 y m
  ·rcases abW m with h2|rfl
   ·exact h.ok.sp _ (qe [] (by rw [kU];exact f)) y h2
   ·exact hz
 ·have b:k<abk x.rs:=by have h1:k<abk (aN x.rs g c z):=n;rwa [zi] at h1
  have h1:=BF b (h.sh.row k b)
  refine XR n ?_ λd o=>?_
  ·grind [Rw.zero,aN,DI,Gd]
  ·have p:d<((aN x.rs g c z).getD k Rw.zero).l.length:=o
   show dK x.av k (((aN x.rs g c z).getD k Rw.zero).l.getD d Sp.zero)=true
   grind [Rw.zero,Sp.zero,getD_set_ne,q7,DI,Gd,dK]
 ·have h1:=h.sh.tk i hi
  unfold iP dJ at h1⊢
  rw [a]
  exact h1
end
def WY (b:Bk) (l:b.Ok) (A:Option Addr) (c B:Nat) (w:World) (p:aM B w) (g:B≤w.heap.size) (hr:Rd w w.heap.size 11 A (abk b.evs) (b.evs.flatMap iw)) (u:abk b.evs≤1000000):
    Calls abl 106 #[.agg (b.cells A c)] w (zf w b.err b.out):=by
 refine (dY Tryz.func106 36) ?_
 refine (JP∘JE) λP Q=>(Jp 2∘Jj∘JQ∘JP∘eF aL O0∘JI (h:=by exact λd=>WJ b l A c B _ (p.mem d g) (d.le g) (d.old hr) u)) λR C=>(Jp 1∘bG∘Jj) (Ju (λo=>?_) λo=>?_)
 ·
  have e:b.fits=false:=by simpa using o
  exact (JT∘JP∘Jp 2∘Jj∘JZ∘bH) λd=>WR (by unfold Bk.err;rw [if_pos e]) de d.below
 have e:b.fits=true:=by simpa using o
 have D:=Oy b
 refine (JF∘aD∘JP∘eF aL O0∘JK (h:=by exact λd=>q8w b l A c B _ (p.mem d g) (d.le g) (d.old hr) u e)) λE F G x=>(Jp 1∘bG∘Jr∘Jp 1∘Jl∘Jp 1∘Jo (vI (8+(abk (b.body)):Nat)) (by exact q8 om om)∘cK 4∘Jp 1∘gG∘Jj∘JQ∘JP∘Jp 2∘aK∘Jj) (Ji (λr=>?_) λr=>?_)
 ·
  exact (JT∘JP∘Jp 2∘Jj∘JZ∘bH) λd=>WR (by unfold Bk.err;rw [if_neg (by simp [e]),if_pos om]) de d.below
 refine (JF∘aD∘JP∘Jp 1∘Jv 1 [(19,vB (IntKind.u8.wrap ((8+(abk (b.body))+4:Nat):Int)))]∘Jo (vB ((8+(abk (b.body))+4)%256:Nat)) (by exact Dh (8+(abk (b.body))+4))∘Jp 2∘Jo (vI ((8+(abk (b.body))+4)/256:Nat)) (by exact tC .i64 (8+(abk (b.body))+4) (j:=8) (q:=256) rfl rfl)∘Jv 1 [(22,vB (IntKind.u8.wrap (((8+(abk (b.body))+4)/256:Nat):Int)))]∘Jo (vB (((8+(abk (b.body))+4)/256)%256:Nat)) (by exact Dh ((8+(abk (b.body))+4)/256))∘Jy (v:=vP 0 0) (h:=by exact Yl.uh (ad:=⟨0,0,none⟩) (m:=2) (y:=0) (sz:=1) rfl rfl rfl kr de)∘Jy (v:=vB 113) (h:=by exact Pd rfl rfl kr (λ_ h=>(p.mem h g).qM))∘Jy (v:=vP 0 1) (h:=by exact Yl.uh (ad:=⟨0,0,none⟩) (m:=2) (y:=1) (sz:=1) rfl rfl rfl kr de)∘Jy (v:=vB 116) (h:=by exact Pd rfl rfl kr (λ_ h=>(p.mem h g).qN))∘Jg 0 O1∘JU aX #[vB ((8+(abk (b.body))+4)%256:Nat),vB (((8+(abk (b.body))+4)/256)%256:Nat),vB 0,vB 0,vB 113,vB 116,vB 1,vB b.kind]) λH I=>(Jp 1∘aF∘Jr∘Jp 2∘JC (h:=by exact λd=>d.eB (i:=0) (n:=8) (size:=1) rfl rfl de)∘JD (b.body.map B8) 0 (λ_ _=>aU) aX (hr:=by exact λd=>d.rd (i:=1) rfl) (h1:=by exact sj _)) λJ K L z=>λa Z d=>?_
 rw [show ((#[vB ((8+(abk (b.body))+4)%256:Nat),vB (((8+(abk (b.body))+4)/256)%256:Nat),vB 0,vB 0,vB 113,vB 116,vB 1,vB b.kind]).toList)++(b.body.map B8)=b.raw.map B8 from q2l om] at d
 refine Jb Z d ((JK (h:=by exact λd=>Ot _ _ _ b.raw B _ (p.mem d g) (d.le g) (d.rd (i:=0) rfl) (WQ b) om (WO l))) λM N O s=>(Jx∘Jx∘Jp 2∘Jj∘JZ∘JM (.t (.f .n))) ?_)
 have k:b.err=0:=by unfold Bk.err;rw [if_neg (by simp [e]),if_neg om]
 exact (bH) λd=>by exact (by rw [k,zis k];exact ⟨⟨_,_,rfl,d.own (i:=0) rfl,s⟩,d.below⟩)
theorem qyn (b:Bk) (a:b.Ok) (A:Option Addr) (c B:Nat) (w:World) (f:aM B w) (e:B≤w.heap.size) (hr:Rd w w.heap.size 11 A (abk b.evs) (b.evs.flatMap iw)) (g:abk b.evs≤1000000):
    Calls abl 45 #[.agg (b.cells A c)] w (Is w (vI (b.err:Int))):=by
 refine (dY Tryz.func45 11) ?_
 exact (JP∘JE) λj k=>(Jp 1∘Jr∘eF aL O0∘JK (h:=by exact λd=>WY b a A c B _ (f.mem d e) (d.le e) (d.old hr) g)) λl m n i=>(Jp 1∘Jx∘Jx∘Jp 2∘aF∘Jr∘Jp 2∘bG∘Jj∘JZ) tH
def q2p (W w:World) (i k:Nat) (A:Option Addr) (n c:Nat) (l:List Nat) (o:Bool) (most:Nat) (fr:List Fact) (x:∀b∈l,b<256) (e:n=abk l) (D:n≤1000000000) (r:Rd W W.heap.size 1 A n (l.map B8)) (s:n≤c) (t:most≤281474976710657)
    (d:Mem W w (.blk i #[.slice A n c] 30:: .blk k #[.bool o] 4::fr)):
    Calls abl 249 #[vI most,vP i 0,vP k 0] w (WT W i k l o most fr):=by
 have q:Rd W W.heap.size 1 A (abk l) (l.map B8):=e▸r
 have hc:abk l≤c:=e▸s
 refine qI Tryz.func249 [vI most,vP i 0,vP k 0] [(0,vI most),(1,vP i 0),(2,vP k 0)] λa Z=>?_
 refine Jb Z d ((JP∘Jp 1∘Jq) ?_)
 have y:=y8 l
 have z:=qed l x
 have B:=zK most l
 refine (JG∘JP∘Jc O0∘JL (h:=by exact λd=>Nk A n c l _ (e▸d.old q) x om)) ?_
 rintro d _ C ⟨rfl,u⟩
 refine ⟨_,rfl,_,d.call u,?_⟩
 refine (Jp 1∘Jx∘Jx∘Jx∘Jp 3∘Jr∘Jc O1∘Jp 1) (Ju (λf=>?_) λf=>?_)
 ·
  refine (Jp 4) (Je (λp=>?_) λp=>?_)
  ·
   exact (Jp 2∘Jw .u64∘Jp 2∘JW fO aU) λg=>(iA∘Jr∘Jc O0∘Jp 1∘Jy (h:=by exact aag aX (j:=((aB l).2.1)) rfl rfl rfl om)∘JW aU aU) λm=>(iA∘Jr∘Jp 2∘Jw .u64∘Jy (v:=vQ (if (most:Int)<((aB l).1:Int) then (most:Int) else ((aB l).1:Int))) (h:=by exact Yl.min rfl rfl rfl)∘Jo (vQ (bK most l)) (by rw [Dt])∘Jw .i64∘Jp 1∘aF∘Jj∘JZ∘JC (h:=by exact λd=>d.pt (fs':=(.blk i #[.slice (if c=((aB l).2.1) then A else A.map (·.add (((aB l).2.1)*1))) (n- ((aB l).2.1)) (c- ((aB l).2.1))] 30:: .blk k #[.bool (decide (((aB l).1:Int)≤(most:Int)))] 4::fr)) 2 [0,1])∘aZ) λd=>OA q hc (by rw [f,acF];unfold ji;rw [acg];simp only [decide_eq_true_eq];omega) e d
  exact (Jp 5∘JW fO aU) λg=>(iA∘Jr∘Jc O0∘Jp 1∘Jy (h:=by exact aag aX (j:=((aB l).2.1)) rfl rfl rfl om)∘JW aU aU) λm=>(iA∘Jr∘Jp 2∘Jw .u64∘Jy (v:=vQ (if (most:Int)<((aB l).1:Int) then (most:Int) else ((aB l).1:Int))) (h:=by exact Yl.min rfl rfl rfl)∘Jo (vQ (bK most l)) (by rw [Dt])∘Jw .i64∘Jp 1∘aF∘Jj∘JZ∘JC (h:=by exact λd=>d.pt (fs':=(.blk i #[.slice (if c=((aB l).2.1) then A else A.map (·.add (((aB l).2.1)*1))) (n- ((aB l).2.1)) (c- ((aB l).2.1))] 30:: .blk k #[.bool false] 4::fr)) 2 [0,1])∘aZ) λd=>OA q hc (by rw [WS om,adQ]) e d
 exact (Jv 9 [(24,.bool false)]∘JW fO aU) λg=>(wT∘Jr∘Jc O0∘Jp 1∘Jy (h:=by exact aag aX (j:=((aB l).2.1)) rfl rfl rfl om)∘JW aU aU) λm=>(wT∘Jr∘Jp 2∘Jw .u64∘Jy (v:=vQ (if (most:Int)<((aB l).1:Int) then (most:Int) else ((aB l).1:Int))) (h:=by exact Yl.min rfl rfl rfl)∘Jo (vQ (bK most l)) (by rw [Dt])∘Jw .i64∘Jp 1∘lT∘Jj∘JZ∘JC (h:=by exact λd=>d.pt (fs':=(.blk i #[.slice (if c=((aB l).2.1) then A else A.map (·.add (((aB l).2.1)*1))) (n- ((aB l).2.1)) (c- ((aB l).2.1))] 30:: .blk k #[.bool false] 4::fr)) 2 [0,1])∘aZ) λd=>OA q hc (by rw [f,afO]) e d
def zN (k:Nat) (hk:k=2) (A:Option Addr) (n c:Nat) (l:List Nat) (B:Nat) (w:World) (J:aM B w) (E:B≤w.heap.size) (hr:Rd w w.heap.size 1 A n (l.map B8)) (hc:n≤c) (y:n=abk l) (V:n≤100000000) (F:∀b∈l,b<256):
    Calls abl 182 #[vB k,.slice A n c] w (Bl w (Dq k l)):=by
 refine (iX Tryz.func182 99) ?_
 refine (JP∘Bf) λW p=>(JA #[vB 0,vB 0,vI 0,vI 0,vN]) λX v=>(Jp 1∘Jr∘JA #[.bool false]) λK q=>(JW aU aU) λG=>(Jr∘Jy (h:=by exact Yl.makeFunc (fst:=[]) (caps:=[vP p 0,vP q 0]) rfl rfl rfl)∘Jp 1∘aK∘Jr∘Jp 1∘eH #[vB k,vB 0,vI 0,vI 0,vN]∘JA #[vB 0,vB 0,vI 0,vI 0,vN]) λY x=>(JV aL aU) λH=>(bG∘Jj∘JQ∘JP∘Jp 2∘aK∘Jj) (Je (λs=>?_) λs=>?_)
 ·
  obtain rfl:k=2:=by omega
  refine (JT∘JP∘Jp 1) λa Z d=>?_
  refine fo Z 1 rfl rfl ?_
  replace d:=d.pk (fs':=[.blk p #[.slice A n c] 30,.blk q #[.bool true] 4,.blk x #[vB (2:Nat),vB 0,vI 0,vI 0,vN] 85,.blk v #[vB 0,vB 0,vI 0,vI 0,vN] 85]) [3,1,0,2]
  have L:=qyg F
  refine mY Z (f:=249) (vs:=[vI 281474976710657]) (fst:=[]) (caps:=[vP p 0,vP q 0]) rfl rfl rfl kr rfl de (q2p w _ p q A n c l true 281474976710657 [.blk x #[vB (2:Nat),vB 0,vI 0,vI 0,vN] 85,.blk v #[vB 0,vB 0,vI 0,vI 0,vN] 85] F y om hr hc om d) ?_
  rintro _ M ⟨rfl,z,C,N,O,hm⟩
  refine ⟨_,rfl,?_⟩
  replace d:=hm
  clear Z;intro a Z
  have D:=zK 281474976710657 l
  have P:=q2n l
  refine Jb Z d ((Jf 3∘JW iO qJ) λI=>(oI∘Jj) λa Z d=>?_)
  refine zb (λQ R=>Fr Q 99 [] [(5,.bool ((uE l).isSome)),(18,.bool true),(8,vP x 0),(7,.func (.func 249) #[] #[vP p 0,vP q 0]),(6,vP q 0),(4,vP v 0),(3,vP p 0),(0,vB (2:Nat))]∧Mem w R [.blk p #[abg z (q6 l) C] 30,.blk q #[.bool (true&&ji 281474976710657 l)] 4,.blk x #[vB (2:Nat),vB 0,vI 0,vI (bK 281474976710657 l),vN] 85,.blk v #[vB (2:Nat),vB 0,vI 0,vI (bK 281474976710657 l),vN] 85]) ?_ ?_
  ·
   refine Jb Z d ((Vs (.t (.t (.t (.f .n)))) []) λS=>(qL 0 aL O2∘Vc 1 O1∘Vp [2]) λa Z d e=>?_)
   rcases Z.tf 24 rfl with ⟨g,Z⟩|⟨g,Z⟩
   ·
    refine Vb Z d e ((Vc 3 O0∘Vl 4∘Vp [5,6,7]) λa Z d e=>?_)
    rcases Z.tf 29 rfl with ⟨j,Z⟩|⟨j,Z⟩
    ·
     have u:=eq_of_beq j
     refine Vb Z d e ((qL 8 aL O2∘VI 9 (.t (.t (.t (.f .n)))) (h:=by exact λd=>WJ ⟨2,0,0,(bK 281474976710657 l:Int),[]⟩ (zL D) none 0 B _ (J.mem d E) (d.le E) Rd.nil (by show 0≤_;omega))) λT U=>(Vp [10]) λa Z d e=>?_)
     refine s_on Z 11 rfl (cZ Z d 3 rfl rfl rfl rfl rfl aL rfl rfl (by simp [acf]) λm d=>?_)
     refine ay (d.pk [0,1,2]) (λe=>?_)
     refine Vb Z d e ((Vp [12]∘Vd∘aF) λa Z d=>?_)
     have Z:=Z.sp 5 (.bool ((uE l).isSome)) rfl (congrArg abS (by rw [OC,show ji 281474976710657 l=true by simpa using g,decide_eq_true om,acF,acF]))
     exact ⟨Z.sub kr,d.pk [0,1,2,3]⟩
    have u:=ne_of_beq_false j
    refine ap Z (λ_=>e) [8,9,10] (bt 13 [11,12]) [(32,.bool false)] λa Z=>?_
    refine s_on Z 11 rfl (cZ Z d 3 rfl rfl rfl rfl rfl aL rfl rfl (by simp [acf]) λm d=>?_)
    refine ay (d.pk [0,1,2]) (λe=>?_)
    refine ap Z (λ_=>e) [12] (bt 13 []) [(5,.bool false)] λa Z=>?_
    refine qd kr ?_
    have Z:=Z.sp 5 (.bool ((uE l).isSome)) rfl (congrArg abS (by rw [OC,decide_eq_false om,afO,adQ]))
    exact ⟨Z.sub kr,d.pk [0,1,2,3]⟩
   refine ap Z (λ_=>e) [3,4,5,6,7,8,9,10] (bt 13 [11,12]) [(32,.bool false)] λa Z=>?_
   refine s_on Z 11 rfl (cZ Z d 3 rfl rfl rfl rfl rfl aL rfl rfl (by simp [acf]) λm d=>?_)
   refine ay (d.pk [0,1,2]) (λe=>?_)
   refine ap Z (λ_=>e) [12] (bt 13 []) [(5,.bool false)] λa Z=>?_
   refine qd kr ?_
   have Z:=Z.sp 5 (.bool ((uE l).isSome)) rfl (congrArg abS (by rw [OC,show ji 281474976710657 l=false by simpa using g];rfl))
   exact ⟨Z.sub kr,d.pk [0,1,2,3]⟩
  clear Z d;rintro a K ⟨Z,d⟩
  refine Jb Z d ((JZ) (Ju (λr=>?_) λr=>?_))
  ·
   have o:=r
   intro a Z d
   exact eG rfl Z (.cellS (i:=3) Z d rfl rfl aL rfl) (.tmp Z rfl) (qqj (b:=⟨2,0,0,(bK 281474976710657 l:Int),[]⟩) (A:=none) (c:=0) (by rw [OB];exact WU o) (acQ _ _ _ _) (abo _) d.below)
  have o:=r
  intro a Z d
  exact eG rfl Z (.cellS (i:=3) Z d rfl rfl aL rfl) (.tmp Z rfl) (qqi (by rw [OB];exact Option.not_isSome_iff_eq_none.1 (by rw [o];decide)) rfl (by simp [acf]) d.below)
 intro a Z d
 exfalso;omega
end Go.Proofs.YtekiimhdnigmcaaGreatDoor
