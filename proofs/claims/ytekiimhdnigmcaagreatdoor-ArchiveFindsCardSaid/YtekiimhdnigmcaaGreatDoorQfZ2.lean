/- Parts. -/
import Derived.Test.YtekiimhdnigmcaaGreatDoorQfVarint
import Derived.Test.YtekiimhdnigmcaaGreatDoorQfOneWay
import Derived.Test.YtekiimhdnigmcaaGreatDoorQfBack
import Derived.Test.YtekiimhdnigmcaaGreatDoorQfCodV
import Derived.Test.YtekiimhdnigmcaaGreatDoorQfCrcP
import Derived.Laws.StructEq
import Derived.Test.YtekiimhdnigmcaaGreatDoorQfDoor
import Derived.Test.YtekiimhdnigmcaaGreatDoorRows
import Derived.Test.YtekiimhdnigmcaaGreatDoorQfZ1
set_option linter.all false
set_option maxRecDepth 100000
set_option maxHeartbeats 1000000
namespace Go.Proofs.YtekiimhdnigmcaaGreatDoor
open Go.RowKit
open List renaming length→abl
open _root_.Go.Proofs.Tryz renaming prog→abm
open _root_.List renaming length_append→abn,getD_eq_getElem?_getD→abo,getElem?_eq_getElem→abp,length_take→abr,length_map→abu,getElem?_eq_some_iff→abv,append_assoc→aby,replicate→abD,mem_of_getElem?→abM,length_drop→abN,length_set→abO,take_of_length_le→abP,flatMap_cons→abT,append_nil→abU,map_append→abV,mem_of_mem_drop→abZ,mem_cons→ab0,length_cons→ab1,flatMap_append→ab2,mem_or_eq_of_mem_set→ab3,mem_append→ab5,mem_map→ab6,take_append_drop→ab9,mem_of_mem_take→acg,mem_cons_of_mem→aci,drop_eq_getElem_cons→acn,not_mem_nil→acr,mem_cons_self→acs,getElem_of_mem→acB,mem_flatMap→acE,getElem?_drop→acI,drop_drop→acV,range→acW,mem_map_of_mem→ac1,getElem?_map→ac3,nil_append→ac4,mem_append_right→ac5,getElem?_eq_none→ac6,perm_append_comm→ac7,map_nil→ade,drop_eq_nil_of_le→adf,perm_middle→adh,getElem?_take→ado,length_nil→adL,take_add_one→adP,getElem_mem→aeb,mem_singleton→aek,ext_getElem→aen,cons_append→aeN,perm_append_comm_assoc→ae3,getElem_map→afc,set_append→afp,map_set→afv,getElem_mapIdx→afW,length_mapIdx→af0
open Nat renaming le_refl→abq,zero_le→abw,lt_or_ge→ab7,zero_add→acj,mul_one→acX,succ_mul→adj,mod_lt→adr,add_sub_cancel→aec,add_comm→aeu,mul_succ→aev,strongRecOn→ae0,pow_succ→agL
open _root_.ByteArray renaming mk→abt
open Bool renaming and_eq_true→abF,eq_iff_iff→ace,true_and→acz,and_false→adH,false_and→afK,not_eq_true→agi
open Value renaming int→abQ,bool→abX,oneCell'→acd
open Fence renaming wide→ab8
open World renaming ownsRow_nil→acK,block_lt_of_cell?→ad1,var?_cell→agj
open Addr renaming add_mid→acN
open Rw renaming l→aeB
open IntKind renaming wrap_u64→aeE,u32→afo
open Int renaming le_refl→ae7
open Fact renaming row→afG
open Lib renaming array_elem→agF
variable {l R L:List Nat} {m i x k c n g f y er rY B:Nat} {w W w':World} {α:Type} {A E:Option Addr} {z:Sp} {t:Tk} {fr fs:List Fact} {e:Ev} {rs:List Rw} {yl:List Sp}
theorem zio {l:List Tk} {id:Int} (hs:dW l) (hm:m<abl l) (h:(l.getD m Tk.zero).id<id):∀k,k<m+1→(l.getD k Tk.zero).id<id:=λk a=>by
 rcases ab7 k m with h1|h1
 ·have:=hs k m h1 hm;omega
 ·obtain rfl:k=m:=by omega
  exact h
theorem ze1 {l:List Tk} {id:Int} (hs:dW l) (hm:m<abl l) (h:id≤(l.getD m Tk.zero).id):∀k,m≤k→k<abl l→id≤(l.getD k Tk.zero).id:=λk b a=>by
 rcases ab7 m k with h1|h1
 ·have:=hs m k h1 a;omega
 ·obtain rfl:k=m:=by omega
  exact h
def qtn {l:List Tk} {id:Int} (hi:i=abl l) (h1:∀k,k<i→(l.getD k Tk.zero).id<id) (hb:Below w.heap.size w W):KN w l id (.returned (.tuple #[vI i,.bool false])) W:=by
 subst hi
 exact search_end h1 hb
theorem su:SI abm 283 3:=⟨by kernel_rfl,by kernel_rfl⟩
def zI (p:Int) (w:World):Calls abm 271 #[vI p] w (Is w (.bool false)):=by
 refine (dV Tryz.func271 6) ?_
 exact (JP∘Jp 1∘Jr∘Jp 3∘Jo (.bool false) (by simp)∘Jp 1∘dQ∘Jj∘JZ) sP
def FH (p q:Int) (w:World):Calls abm 222 #[vI p,vI q] w (Is w (vI (jH p q))):=by
 refine (iX Tryz.func222 20) ?_
 refine (JP∘Jp 1∘Jr∘Jp 1∘JL (h:=by exact λa=>zI _ _)) ?_
 rintro a _ f ⟨rfl,b⟩
 refine ⟨_,rfl,_,a.call b,?_⟩
 refine (Jp 1∘bH∘Jr∘Jp 1∘JL (h:=by exact λa=>zI _ _)) ?_
 rintro a _ e ⟨rfl,b⟩
 refine ⟨_,rfl,_,a.call b,?_⟩
 refine (Jp 1∘bH∘Jj∘JQ∘JP∘Jp 1∘Jj∘JF∘aD∘JQ∘JP∘Jp 1∘Jj∘JF∘aD∘JQ∘JP∘Jp 3∘bH∘Jj) (Ji (λc=>?_) λc=>?_)
 ·
  exact (JT∘JP∘Jp 1∘Jj∘JZ∘aZ) λa=>by exact ⟨by rw [show jH p q= -1 from if_pos om],a.below⟩
 refine (JF∘aD∘JQ∘JP∘Jp 3∘bH∘Jj) (Ji (λd=>?_) λd=>?_)
 ·
  exact (JT∘JP∘Jp 1∘Jj∘JZ∘aZ) λa=>by exact ⟨by rw [show jH p q=1 from (if_neg om).trans (if_pos om)],a.below⟩
 exact (JF∘aD∘JP∘Jp 1∘Jj∘JZ∘aZ) λa=>by exact ⟨by rw [show jH p q=0 from (if_neg om).trans (if_neg om)],a.below⟩
def zJ (p:Nat) (w:World):Calls abm 305 #[vQ p] w (Is w (.bool false)):=by
 refine (dV Tryz.func305 6) ?_
 exact (JP∘Jp 1∘Jr∘Jp 3∘Jo (.bool false) (by simp)∘Jp 1∘dQ∘Jj∘JZ) sP
theorem FI (p q:Nat) (w:World):Calls abm 272 #[vQ p,vQ q] w (Is w (vI (jH (p:Int) (q:Int)))):=by
 refine (iX Tryz.func272 20) ?_
 refine (JP∘Jp 1∘Jr∘Jp 1∘JL (h:=by exact λa=>zJ _ _)) ?_
 rintro a _ f ⟨rfl,b⟩
 refine ⟨_,rfl,_,a.call b,?_⟩
 refine (Jp 1∘bH∘Jr∘Jp 1∘JL (h:=by exact λa=>zJ _ _)) ?_
 rintro a _ e ⟨rfl,b⟩
 refine ⟨_,rfl,_,a.call b,?_⟩
 refine (Jp 1∘bH∘Jj∘JQ∘JP∘Jp 1∘Jj∘JF∘aD∘JQ∘JP∘Jp 1∘Jj∘JF∘aD∘JQ∘JP∘Jp 3∘bH∘Jj) (Ji (λc=>?_) λc=>?_)
 ·
  exact (JT∘JP∘Jp 1∘Jj∘JZ∘aZ) λa=>by exact ⟨by rw [show jH (p:Int) (q:Int)= -1 from if_pos om],a.below⟩
 refine (JF∘aD∘JQ∘JP∘Jp 3∘bH∘Jj) (Ji (λd=>?_) λd=>?_)
 ·
  exact (JT∘JP∘Jp 1∘Jj∘JZ∘aZ) λa=>by exact ⟨by rw [show jH (p:Int) (q:Int)=1 from (if_neg om).trans (if_pos om)],a.below⟩
 exact (JF∘aD∘JP∘Jp 1∘Jj∘JZ∘aZ) λa=>by exact ⟨by rw [show jH (p:Int) (q:Int)=0 from (if_neg om).trans (if_neg om)],a.below⟩
def XB (t:Tk) (id:Int) (w:World):Calls abm 221 #[.agg t.cells,vI id] w (Is w (vI (jH t.id id))):=by
 refine (iX Tryz.func221 9) ?_
 refine (JP∘JE) λc d=>(Jp 1∘Jr∘Jg 0 O0∘Jp 1∘JL (h:=by exact λb=>FH t.id id _)) ?_
 rintro b _ e ⟨rfl,a⟩
 refine ⟨_,rfl,_,b.call a,?_⟩
 exact (Jp 1∘dQ∘Jj∘JZ) sP
def qyr (A:Option Addr) (c:Nat) (l:List Tk) (id:Int) (hs:dW l) (w:World) (hr:Rd w w.heap.size 8 A (abl l) (l.flatMap bI)) (D:abl l≤1000000):
    Calls abm 220 #[abh A l c,vI id,.func (.func 221) #[] #[]] w (KN w l id):=by
 refine (xD Tryz.func220 49) ?_
 refine (JP∘Jp 2∘Jr∘Jp 1∘Jl∘Jp 1∘bH∘Jr∘Jp 3∘Jj∘JQ∘JB) λa Z b=>?_
 refine qg (λr t u=>∃(i:Nat) (j:Nat),(i≤j)∧(j≤abl l)∧(∀k,k<i→(l.getD k Tk.zero).id<id)∧(∀k,j≤k→k<abl l→id≤(l.getD k Tk.zero).id)∧r=j-i∧Fr t 49 [] [(10,vI j),(9,vI i),(8,vI (abl l)),(7,.bool false),(6,vI 0),(0,abh A l c),(1,vI id),(2,.func (.func 221) #[] #[])]∧Mem w u []) (m:=abl l-0) ⟨0,abl l,abw _,abq _,λk h=>by omega,λk h1 h2=>by omega,rfl,Z.sub kr,b.pk []⟩ ?_
 clear Z b;rintro r a E ⟨i,j,v,x,h1,h2,rfl,Z,b⟩
 refine Jb Z b ((JQ∘JP∘Jp 3∘bH∘Jj) (Ji (λg=>?_) λg=>?_))
 ·
  have s:i≤((i+j)/2)∧((i+j)/2)<j:=by omega
  refine (JT∘aD∘JB∘JP∘Jp 2∘Ja∘Jw .u64∘Jp 1∘Jo (vQ ((i+j)/2:Nat)) (by exact sN .u64 (i+j) (j:=1) (q:=2) rfl rfl)∘Jw .i64∘Jp 1∘aG∘Jr∘Jp 3) ?_
  obtain ⟨gA,y,rfl,_⟩:=hr.sat ((i+j)/2)
  refine (gV ((i+j)/2) 8∘oK Tk.cells qk hr eU ((i+j)/2) Tk.zero∘Jp 1) λa Z b=>?_
  refine fo Z 6 rfl rfl ?_
  refine mU Z (f:=221) (vs:=[.agg ((l.getD ((i+j)/2) Tk.zero).cells),vI id]) (fst:=[]) (caps:=[]) rfl rfl rfl kr rfl de (XB (l.getD ((i+j)/2) Tk.zero) id _) ?_
  rintro _ z ⟨rfl,e⟩
  refine ⟨_,rfl,?_⟩
  replace b:=b.call e
  clear Z;intro a Z
  refine Jb Z b ((Jp 1∘Jo (.bool (decide ((l.getD ((i+j)/2) Tk.zero).id<id))) (by exact congrArg abX Xl)∘aG∘Jj) (Ju (λd=>?_) λd=>?_))
  ·
   have n:=of_decide_eq_true d
   have p:(l.getD ((i+j)/2) Tk.zero).id<id:=by simpa using d
   refine (JT∘JR∘Jp 1∘bT 1∘Jp 1∘bH∘Jq) λa Z b=>?_
   exact ⟨_,om,(((i+j)/2)+1),j,by omega,x,zio hs om p,h2,rfl,Z.sub kr,b.pk []⟩
  have n:=of_decide_eq_false d
  have B:¬(l.getD ((i+j)/2) Tk.zero).id<id:=by simpa using d
  refine (JF∘JR∘Jp 2∘aK∘Jq) λa Z b=>?_
  exact ⟨_,om,i,((i+j)/2),by omega,by omega,h1,ze1 hs om om,rfl,Z.sub kr,b.pk []⟩
 obtain rfl:i=j:=by omega
 refine (JF∘JX∘JG∘JP∘Jp 5) (Ji (λo=>?_) λo=>?_)
 ·
  refine (Jp 3) ?_
  obtain ⟨gA,y,rfl,_⟩:=hr.sat i
  refine (gV i 8∘oK Tk.cells qk hr eU i Tk.zero∘Jp 1) λa Z b=>?_
  refine fo Z 11 rfl rfl ?_
  refine mU Z (f:=221) (vs:=[.agg ((l.getD i Tk.zero).cells),vI id]) (fst:=[]) (caps:=[]) rfl rfl rfl kr rfl de (XB (l.getD i Tk.zero) id _) ?_
  rintro _ C ⟨rfl,e⟩
  refine ⟨_,rfl,?_⟩
  replace b:=b.call e
  clear Z;intro a Z
  exact Jb Z b ((Jp 1∘Jo (.bool (decide ((l.getD i Tk.zero).id=id))) (by exact congrArg abX Xm)∘Jp 3∘Jj∘JZ∘bG) λb=>q3b hs om h1 h2 b.below)
 exact (Jv 11 [(7,.bool false),(6,vI i)]∘Jj∘JZ∘bG) λb=>qtn om h1 b.below
theorem XC (x:aC) (f:Nat) (id:Int) (hs:dW x.ts) (w:World) (hm:w.heap[f]?=some (.cells #[vI x.ak,vQ x.aj,abh x.gA x.gs x.gc,abh x.lA x.cl x.lc,abh x.uA x.cu x.uc,abh x.tA x.ts x.tc,abh x.sA x.rs x.sc,.bool true] 273 (0,0))) (ht:Rd w w.heap.size 8 x.tA (abl x.ts) (x.ts.flatMap bI)) (g:abl x.ts≤1000000):
    Calls abm 161 #[vP f 0,vI id] w (Is w (vI (fidx x.ts id))):=by
 refine (iX Tryz.func161 20) ?_
 refine (JP∘Jp 1∘Jr∘Jp 1∘Jn∘Jf 0∘Jf 5∘Jy (v:= .slice x.tA (abl x.ts) x.tc) (h:=by exact Pd rfl rfl kr (λ_ h=>h.zr hm rfl))∘Jp 1∘JL (h:=by exact λc=>qyr x.tA x.tc x.ts id hs _ (c.old ht) g)) ?_
 rintro c _ j ⟨⟨i,b,rfl,k,d⟩,e⟩
 refine ⟨_,rfl,_,c.call e,?_⟩
 refine (Jp 1∘Jx∘Jx∘Jp 2∘Jj∘JQ∘JP∘Jp 2∘bH∘Jj) (Ju (λa=>?_) λa=>?_)
 ·
  exact (JT∘JP∘Jp 1∘Jj∘JZ∘aZ) λc=>by exact ⟨by rw [←d,if_neg (by simpa using a)],c.below⟩
 exact (JF∘aD∘JP∘Jp 2∘aK∘Jj∘JZ∘aZ) λc=>by exact ⟨by rw [←d,if_pos (by simpa using a)],c.below⟩
def OV (x:aC) (a c g:Nat):Prop:=∀w:World,dZ w x→w.heap[a]?=some (.cells #[vI x.ak,vQ x.aj,.slice x.gA (abl x.gs) x.gc,.slice x.lA (abl x.cl) x.lc,.slice x.uA (abl x.cu) x.uc,.slice x.tA (abl x.ts) x.tc,.slice x.sA (abl x.rs) x.sc,.bool true] 273 (0,0))→Calls abm 162 #[vP a 0,vI g,vI c] w (Is w (.tuple #[.agg (aJ bB (aO x.av g c)).cells,.bool (!(aO x.av g c).isEmpty)]))
def oW {x:aC} (h:iN x.av i=true):1≤(x.ts.getD i Tk.zero).id∧(x.ts.getD i Tk.zero).id≤65535:=by
 have h1:=(Dg h).2
 unfold dH at h1
 rw [abF,decide_eq_true_eq] at h1
 exact ⟨h1.1.1,h1.1.2.1⟩
theorem qys {p:Nat→Prop} (h:∀i,i<k→p i) (hk:p k):∀i,i<k+1→p i:=λi hi=>by
 rcases ab7 i k with h1|h1
 ·exact h i h1
 ·obtain rfl:i=k:=by omega
  exact hk
def qqx (m n:Mb) (A j:Option Addr) (c p:Nat) (w:World) (hr:Rd w w.heap.size 1 A 3 (m.nums.map bq)) (d:Rd w w.heap.size 1 j 3 (n.nums.map bq)):
    Calls abm 224 #[.slice A 3 c,.slice j 3 p] w (uH w m n):=by
 refine (iX Tryz.func224 36) ?_
 refine (JP∘Jp 1∘Jj∘JQ∘JP∘Jp 1∘Jl∘Jp 1∘Jj∘JB) λa Z b=>?_
 refine qg (λq r s=>∃(k:Nat),(k≤3)∧(∀i,i<k→m.nums.getD i 0=n.nums.getD i 0)∧q=3-k∧Fr r 36 [] [(11,vI k),(10,vI 3),(9,.slice A 3 c),(4,vI 0),(0,.slice A 3 c),(1,.slice j 3 p)]∧Mem w s []) (m:=3-0) ⟨0,by decide,λi h=>by omega,rfl,Z.sub kr,b.pk []⟩ ?_
 clear Z b;rintro q a x ⟨k,y,l,rfl,Z,b⟩
 refine Jb Z b ((JP∘Jp 1∘Jj∘JQ) (Ji (λe=>?_) λe=>?_))
 ·
  have f:k<3:=by omega
  refine (JT∘aD∘JQ∘JB∘JP∘Jp 1) ?_
  obtain ⟨gA,z,rfl,_⟩:=hr.sat k
  refine (gV k 1∘Jy (h:=by exact aad hr k 0 (show k<3 by omega) rfl rfl)∘Jp 2∘Jj∘JQ∘JP∘Jp 2∘Jl∘Jp 1∘Jo (.bool false) (by exact congrArg abX (decide_eq_false om))∘dQ∘Jj∘JF∘aD∘JP∘Jp 2) ?_
  obtain ⟨t,u,rfl,_⟩:=d.sat k
  refine (gV k 1∘Jy (h:=by exact aad d k 0 (show k<3 by omega) rfl rfl)∘Jp 1∘gu∘Jr∘Jp 2∘JL (h:=by exact λb=>FI (m.nums.getD k 0) (n.nums.getD k 0) _)) ?_
  rintro b _ v ⟨rfl,o⟩
  refine ⟨_,rfl,_,b.call o,?_⟩
  refine (Jp 1∘dQ∘Jr∘Jp 2∘Jo (.bool (decide (((m.nums.getD k 0):Int)≠((n.nums.getD k 0):Int)))) (by exact congrArg abX zev)∘aK∘Jj) (Ji (λg=>?_) λg=>?_)
  ·
   exact (JT∘JP∘Jp 2∘aK∘Jj∘JZ∘aZ) λb=>q82 f l om b.below
  refine (JF∘aD∘JR∘bT 1∘Jp 1∘aK∘Jq) λa Z b=>?_
  exact ⟨_,om,k+1,by omega,qys l om,rfl,Z.sub kr,b.pk []⟩
 exact (JF∘JX∘JG∘JQ∘JP∘Jp 1∘Jl∘Jp 1∘Jl∘Jv 1 [(35,.bool false)]∘gu∘Jj∘JF∘aD∘JP∘Jp 1∘Jj∘JZ∘aZ) λb=>q83 (λi hi=>l i om) b.below
def XD (m:Mb) (w:World):Calls abm 163 #[.agg m.cells] w (Is w (vQ (m.v:Int))):=by
 refine (dV Tryz.func163 5) ?_
 exact (JP∘JE) λb a=>(Jp 1∘Jr∘Jy (v:=vP a 0) (h:=by exact Yl.tN (ad:=⟨a,0,none⟩) (m:=3) (y:=0) (sz:=1) rfl rfl rfl kr de)∘Jc O0∘Jp 1∘bH∘Jj∘JZ) sP
def ze2 (W w:World) (gs c:Nat) (o:Bool) (m n:Mb) (fs:List Fact) (b:Mem W w (.blk gs #[.bool o] 4:: .blk c n.cells 283::fs)):
    Calls abm 223 ([.agg m.cells,vP gs 0,vP c 0]:List Value).toArray w λr p=>r= .returned (.tuple #[])∧Mem W p (.blk gs #[.bool true] 4:: .blk c (if m.lt n then m else n).cells 283::fs):=by
 refine qC Tryz.func223 [.agg m.cells,vP gs 0,vP c 0] [(0,.agg m.cells),(1,vP gs 0),(2,vP c 0)] λa Z=>?_
 refine Jb Z b ((JP∘JE) λt e=>(aK∘Jr∘JW fU aT) λj=>(aK∘Jj) λa Z b=>?_)
 refine wp_seq ?_
 refine Jb Z b ((Vs .n []) λq=>(Vy 0 (v:=vS e 3 3) (h:=by exact aaJ (n:=3) (sz:=1) rfl rfl kr)∘Vy 1 (v:=vS c 3 3) (h:=by exact aaJ (n:=3) (sz:=1) rfl rfl kr)) λa Z b k=>?_)
 refine s_on Z 2 rfl ?_
 refine kL Z [vS e 3 3,vS c 3 3] rfl rfl (qqx m n (some ⟨e,0,none⟩) (some ⟨c,0,none⟩) 3 3 _ (b.aX (i:=0) (n:=3) (size:=1) rfl rfl) (b.aX (i:=2) (n:=3) (size:=1) rfl rfl)) ?_
 rintro _ u ⟨⟨s,rfl,f⟩,g⟩
 refine ⟨_,rfl,?_⟩
 replace b:=b.call g
 clear Z;intro a Z
 refine ay (b.pt 3 [0,1,2]) (λk=>?_)
 refine Vb Z b k ((Vq [3] [(7,.bool (decide ((s:Int)<(0:Int))))]∘Vo (.bool (m.lt n)) (by exact congrArg abX f)∘Vd∘dQ) (Ju (λd=>?_) λd=>?_))
 ·
  refine (JT∘JR∘d9 su O0∘JV su iM (h1:=by exact Bl m)) λl=>(mW∘Jq) λa Z b=>?_
  refine gM rfl Z ⟨rfl,?_⟩
  rw [if_pos d]
  exact b.pt 3 [1,2]
 refine (JF∘JS) λa Z b=>?_
 refine gM rfl Z ⟨rfl,?_⟩
 rw [if_neg (by rw [d];decide)]
 exact b.pt 3 [1,2]
def XE (W w:World) (gs a:Nat) (b:Bool) (m:Mb) (q:List Mb) (fs:List Fact) (c:Mem W w (.blk gs #[.bool b] 4:: .blk a (aJ bB q).cells 283::fs)):
  Calls abm 223 ([.agg m.cells,vP gs 0,vP a 0]:List Value).toArray w λr d=>r= .returned (.tuple #[])∧Mem W d (.blk gs #[.bool (!(q++[m]).isEmpty)] 4:: .blk a (aJ bB (q++[m])).cells 283::fs):=by
 have h1:=ze2 W w gs a b m _ fs c
 rw [←qyn] at h1
 rw [show (!(q++[m]).isEmpty)=true from by simp]
 exact h1
def qyt (x:aC) (N:x.av.Ok) (hf:bN x) (D:ShAt x) (O c:Nat) (hc:(c:Int)<x.ak) (g:Nat) (hg:g<abl x.rs) (ih:∀h,g<h→h<abl x.rs→OV x O c h):OV x O c g:=by
 intro w G hm
 have hfs:=hf.s;have hft:=hf.t;have hfg:=hf.g;have hrl:=D.rs;have hto:=N.ts
 obtain ⟨hc1,hc2,_,_⟩:=lX D.cfg
 refine (xD Tryz.func162 102) ?_
 refine (JP∘JA #[vQ 0,vQ 0,vQ 0]) λw6 M=>(Jp 1∘Jr∘Jy (v:= .agg #[vQ 18446744073709551615,vQ 18446744073709551615,vQ 18446744073709551615]) (h:=by exact aaq (n:=3) (sz:=1) (vs:=[(0,vQ 18446744073709551615),(1,vQ 18446744073709551615),(2,vQ 18446744073709551615)]) rfl rfl kr kr)∘JA #[vQ 0,vQ 0,vQ 0]) λw8 j=>(JA #[.bool false]) λw9 k=>(JV su fU) λOh=>(JW aT aT) λOW=>(Jr∘Jy (h:=by exact Yl.makeFunc (fst:=[]) (caps:=[vP k 0,vP j 0]) rfl rfl rfl)∘Jp 1∘aK∘Jq∘JC (h:=by exact λb=>b.Fg (i:=1) (ds:=(aJ bB []).cells) rfl rfl)∘JG∘JQ∘JP∘Jp 1∘Jn∘Jf 0∘Jf 5∘Jy (v:= .slice x.tA (abl x.ts) x.tc) (h:=by exact Pd rfl rfl kr (λ_ h=>h.zr hm rfl))∘Jl∘Jp 1∘Jj∘JB) λa Z b=>?_
 refine qg (λP Q R=>∃(i:Nat) (q:List Mb),(i≤abl x.ts)∧(q=(x.ts.take i).filterMap (uD · g c))∧P=abl x.ts-i∧Fr Q 102 [] [(24,vI i),(23,vI (abl x.ts)),(22,abh x.tA x.ts x.tc),(10,.func (.func 223) #[] #[vP k 0,vP j 0]),(9,vP k 0),(8,vP j 0),(7,.bool false),(6,vP M 0),(0,vP O 0),(1,vI g),(2,vI c)]∧Mem w R [.blk k #[.bool (!q.isEmpty)] 4,.blk j ((aJ bB q).cells) 283,.blk M #[vQ 0,vQ 0,vQ 0] 283]) (m:=abl x.ts-0) ⟨0,[],abw _,rfl,rfl,Z.sub kr,b.pk [0,1,2]⟩ ?_
 clear Z b;rintro P a w_ ⟨i,q,hi,E,rfl,Z,b⟩
 refine Jb Z b ((JP∘Jp 1∘Jj∘JQ) (Ji (λS=>?_) λS=>?_))
 ·
  have o:i<abl x.ts:=by omega
  obtain ⟨t,ht⟩:∃z,(x.ts.getD i Tk.zero)=z:=⟨_,rfl⟩
  have T:=oW (D.tk i o)
  rw [ht] at T
  refine (JT∘aD∘JQ∘JB∘JP) ?_
  obtain ⟨U,V,F,_⟩:=Rd.sat G.t i
  have H:=G.t;rw [F] at H
  refine (Jk 22 (.slice (some ⟨U,V,none⟩) (abl x.ts) x.tc) (h:=by rw [F];try rfl)∘gV i 8∘oK Tk.cells qk H eU i Tk.zero (hk:=o)∘Jo (.agg t.cells) (by rw [ht])∘JA #[vI 0,vI 0,vI 0,vI 0,vQ 0,.bool false,vQ 0,vW 0]) λDi W=>(JV eU aT (h1:=by exact E9 t)) λFJ=>(bH∘Jj) λa Z b=>?_
  refine q9 (λQ R=>Fr Q 102 [] [(41,.bool (t.here g c)),(12,vP W 0),(22,abh (some ⟨U,V,none⟩) x.ts x.tc),(25,.bool true),(24,vI i),(23,vI (abl x.ts)),(10,.func (.func 223) #[] #[vP k 0,vP j 0]),(9,vP k 0),(8,vP j 0),(7,.bool false),(6,vP M 0),(0,vP O 0),(1,vI g),(2,vI c)]∧Mem w R [.blk W t.cells 232,.blk k #[.bool (!q.isEmpty)] 4,.blk j ((aJ bB q).cells) 283,.blk M #[vQ 0,vQ 0,vQ 0] 283]) ?_ ?_
  ·
   refine zt ?_
   refine Jb Z b ((Jg 5 O0∘Jp 1) (Ju (λp=>?_) λp=>?_))
   ·
    refine (Jg 1 O0∘Jp 4) (Je (λX=>?_) λX=>?_)
    ·
     refine (Jg 3 O0∘Jp 3∘aG∘Jq) λa Z b=>?_
     have Z:=Z.sp 41 (.bool (t.here g c)) rfl (congrArg abX (by unfold Tk.here;rw [p,decide_eq_true om,acz,acz,ace,beq_iff_eq,decide_eq_true_eq]))
     exact ⟨Z.sub kr,b.pk [0,1,2,3]⟩
    refine (Jp 5∘aG∘Jq) λa Z b=>?_
    have Z:=Z.sp 41 (.bool (t.here g c)) rfl (congrArg abX (by unfold Tk.here;rw [p,decide_eq_false om];rfl))
    exact ⟨Z.sub kr,b.pk [0,1,2,3]⟩
   refine (Jv 11 [(41,.bool false)]∘bH∘Jq) λa Z b=>?_
   have Z:=Z.sp 41 (.bool (t.here g c)) rfl (congrArg abX (by unfold Tk.here;rw [p];rfl))
   exact ⟨Z.sub kr,b.pk [0,1,2,3]⟩
  clear Z b;rintro a w6 ⟨Z,b⟩
  refine Jb Z b (Ju (λB=>?_) λB=>?_)
  ·
   have r:q++[(⟨t.v,0,t.id.toNat⟩:Mb)]=(x.ts.take (i+1)).filterMap (uD · g c):=by rw [OD Tk.zero o,←E,ht,uD,if_pos B];rfl
   refine (JT∘JR∘Jp 1∘Jg 6 O0∘Jg 0 O0∘Jv 1 [(47,vQ (IntKind.u64.wrap t.id))]∘Jo (vQ t.id.toNat) (by exact wE om om)∘Jy (v:= .agg #[vQ t.v,vQ 0,vQ t.id.toNat]) (h:=by exact aaq (n:=3) (sz:=1) (vs:=[(0,vQ t.v),(1,vQ 0),(2,vQ t.id.toNat)]) rfl rfl kr kr)) λa Z b=>?_
   refine fo Z 7 rfl rfl ?_
   refine mU Z (f:=223) (vs:=[.agg #[vQ t.v,vQ 0,vQ t.id.toNat]]) (fst:=[]) (caps:=[vP k 0,vP j 0]) rfl rfl rfl kr rfl de (XE w _ k j _ (⟨t.v,0,t.id.toNat⟩:Mb) q _ (b.pk [1,2,0,3])) ?_
   rintro _ Bv ⟨rfl,L⟩
   refine ⟨_,rfl,?_⟩
   replace b:=L
   clear Z;intro a Z
   refine Jb Z b ((iE∘Jj∘JR∘bT 1∘Jp 1∘aK∘Jq) λa Z b=>?_)
   replace Z:=Z.sp 22 (abh x.tA x.ts x.tc) rfl (by rw [F])
   exact ⟨_,om,i+1,(q++[(⟨t.v,0,t.id.toNat⟩:Mb)]),by omega,r,rfl,Z.sub kr,b.pk [0,1,3]⟩
  have r:q=(x.ts.take (i+1)).filterMap (uD · g c):=by rw [OD Tk.zero o,←E,ht,uD,if_neg (by rw [B];decide)];simp
  refine (JF∘aD∘JR∘bT 1∘Jp 1∘aK∘Jq) λa Z b=>?_
  replace Z:=Z.sp 22 (abh x.tA x.ts x.tc) rfl (by rw [F])
  exact ⟨_,om,i+1,q,by omega,r,rfl,Z.sub kr,b.pk [1,2,3]⟩
 rw [abP (by omega:abl x.ts≤i)] at E
 refine (JF∘JX∘JG∘JQ∘JP∘Jp 1∘bT 1∘Jp 1∘bH∘Jj∘JB) λa Z b=>?_
 refine qg (λP Q R=>∃(u:Nat) (q:List Mb),(g+1≤u)∧(u≤abl x.rs)∧(q=x.ts.filterMap (uD · g c)++((((acW (abl x.rs)).drop (g+1)).take (u- (g+1))).filterMap (kN x.av c (λu=>aO x.av u c) g)))∧P=abl x.rs-u∧Fr Q 102 [] [(13,vI u),(25,.bool false),(24,vI i),(23,vI (abl x.ts)),(22,abh x.tA x.ts x.tc),(10,.func (.func 223) #[] #[vP k 0,vP j 0]),(9,vP k 0),(8,vP j 0),(7,.bool false),(6,vP M 0),(0,vP O 0),(1,vI g),(2,vI c)]∧Mem w R [.blk k #[.bool (!q.isEmpty)] 4,.blk j ((aJ bB q).cells) 283,.blk M #[vQ 0,vQ 0,vQ 0] 283]) (m:=abl x.rs- (g+1)) ⟨g+1,q,abq _,by omega,by rw [E];simp,rfl,Z.sub kr,b.pk [0,1,2]⟩ ?_
 clear Z b;rintro P a w_ ⟨u,q,hgh,hh,E,rfl,Z,b⟩
 refine Jb Z b ((JQ∘JP∘Jp 2∘Jn∘Jf 0∘Jf 6∘Jy (v:= .slice x.sA (abl x.rs) x.sc) (h:=by exact Pd rfl rfl kr (λ_ h=>h.zr hm rfl))∘Jl∘Jp 1∘aG∘Jj) (Ji (λY=>?_) λY=>?_))
 ·
  have d:u<abl x.rs:=by omega
  have e:=q84 (f:=kN x.av c (λu=>aO x.av u c) g) hgh d
  refine (JT∘aD∘JQ∘JB∘JQ∘JP∘Jp 1∘Jn∘Jf 0∘Jf 0∘Jf 2∘Jy (v:= .slice x.gA (abl x.gs) x.gc) (h:=by exact Pd rfl rfl kr (λ_ h=>h.zr hm rfl))∘Jp 1) ?_
  obtain ⟨gq2,oq2,r,_⟩:=Rd.sat G.g u
  have I:=G.g;rw [r] at I
  refine (Jk 68 (.slice (some ⟨gq2,oq2,none⟩) (abl x.gs) x.gc) (h:=by rw [r];try rfl)∘gV u 2∘Jf 0∘CW pR I u Gr.zero∘Jp 2∘gu∘Jj) (Jh (λOX=>?_) λOX=>?_)
  ·
   rw [q3c om] at e
   refine (JT∘JX∘JG∘JR∘Jp 1∘bT 1∘Jp 1∘bH∘Jq) λa Z b=>?_
   exact ⟨_,om,u+1,q,by omega,by omega,by rw [e,E];simp,rfl,Z.sub kr,b.pk [0,1,2]⟩
  refine (JF∘aD∘JP∘Jp 3∘JL (h:=by exact λb=>ih u om om _ (G.old b) (b.kM hm))) ?_
  rintro b _ XF ⟨rfl,hbw⟩
  refine ⟨_,rfl,_,b.call hbw,?_⟩
  refine (Jp 1∘Jx∘Jx∘JA #[vQ 0,vQ 0,vQ 0]) λKR g14=>(JV su aT (h1:=by exact Bl (aJ bB (aO x.av u c)))) λFK=>(Jp 1∘aG∘Jr∘Jp 1∘Jj) (Ju (λC=>?_) λC=>?_)
  ·
   obtain ⟨y,hy⟩:∃z,x.rs.getD u Rw.zero=z:=⟨_,rfl⟩
   have pU:Rd w w.heap.size 3 y.A (abl y.l) (y.l.flatMap iQ):=by rw [←hy];exact G.row d
   have hyl:(abl y.l:Int)=x.ak:=by rw [←hy];exact (Bj d (D.row u d)).1
   have mK:∀z∈y.l,z.Ok:=by rw [←hy,←jR d];exact N.sp _ (qe [] (by rw [kQ];exact d))
   have hzv:=(mK _ (qe Sp.zero (show c<abl y.l by omega))).v
   rw [q85 d om (by simpa using C),hy] at e
   refine (JT∘JR∘Jp 2∘Jn∘Jf 0∘Jf 6∘Jy (v:= .slice x.sA (abl x.rs) x.sc) (h:=by exact Pd rfl rfl kr (λ_ h=>h.zr hm rfl))∘Jp 1) ?_
   obtain ⟨Bt,Bu,hq3,_⟩:=Rd.sat G.s u
   have J:=G.s;rw [hq3] at J
   refine (Jk 88 (.slice (some ⟨Bt,Bu,none⟩) (abl x.rs) x.sc) (h:=by rw [hq3];try rfl)∘gV u 1∘Jy (v:= .slice ((x.rs.getD u Rw.zero).A) ((x.rs.getD u Rw.zero).l.length) ((x.rs.getD u Rw.zero).c)) (h:=by exact aad J u Rw.zero om rfl rfl)∘Jo (.slice y.A (abl y.l) y.c) (by rw [hy])∘Jp 1) ?_
   obtain ⟨zG,zH,hq4,_⟩:=Rd.sat pU c
   have K:=pU;rw [hq4] at K
   refine (Jk 91 (.slice (some ⟨zG,zH,none⟩) (abl y.l) y.c) (h:=by rw [hq4];try rfl)∘gV c 3∘Jf 0∘CW Bf K c Sp.zero∘Jp 1∘Jw .u64∘Jy (v:= .agg #[vQ ((y.l.getD c Sp.zero).v),vQ 1,vQ u]) (h:=by exact aaq (n:=3) (sz:=1) (vs:=[(0,vQ ((y.l.getD c Sp.zero).v)),(1,vQ 1),(2,vQ u)]) rfl rfl kr kr)) λa Z b=>?_
   refine fo Z 16 rfl rfl ?_
   refine mU Z (f:=223) (vs:=[.agg #[vQ ((y.l.getD c Sp.zero).v),vQ 1,vQ u]]) (fst:=[]) (caps:=[vP k 0,vP j 0]) rfl rfl rfl kr rfl de (XE w _ k j _ (⟨(y.l.getD c Sp.zero).v,1,u⟩:Mb) q _ (b.pk [1,2,0,3])) ?_
   rintro _ w99 ⟨rfl,L⟩
   refine ⟨_,rfl,?_⟩
   replace b:=L
   clear Z;intro a Z
   refine Jb Z b ((iE∘Jj∘JR∘Jp 1∘bT 1∘Jp 1∘aG∘Jq) λa Z b=>?_)
   exact ⟨_,om,u+1,(q++[(⟨(y.l.getD c Sp.zero).v,1,u⟩:Mb)]),by omega,by omega,by rw [e,E,aby];rfl,rfl,Z.sub kr,b.pk [0,1,3]⟩
  rw [q3d (by simpa using C)] at e
  refine (JF∘aD∘JR∘Jp 1∘bT 1∘Jp 1∘bH∘Jq) λa Z b=>?_
  exact ⟨_,om,u+1,q,by omega,by omega,by rw [e,E];simp,rfl,Z.sub kr,b.pk [1,2,3]⟩
 have hqm:q=aO x.av g c:=by rw [E,KH,kQ,show u=abl x.rs by omega,zew];rfl
 refine (JF∘JX) λa Z b=>?_
 refine wp_seq ?_
 refine Jb Z b ((Vs (.t (.t (.f .n))) []) λFL=>(qF 0 su O1∘Vc 1 O0) λa Z b HS=>?_)
 refine s_on Z 2 rfl (cK Z b 2 rfl rfl rfl rfl rfl su rfl rfl (Bl (aJ bB q)) λXG b=>?_)
 refine ay (b.pk [0,1]) (λHS=>?_)
 refine Vb Z b HS ((Vp [3]∘Vd∘bH∘JZ) λa Z b=>?_)
 exact eZ rfl Z (.cellS (i:=2) Z b rfl rfl su rfl) (.tmp Z rfl) (⟨by rw [←hqm],b.below⟩)
theorem KS (x:aC) (a:x.av.Ok) (e:bN x) (b:ShAt x) (d c:Nat) (hc:(c:Int)<x.ak):∀(n g:Nat),abl x.rs-g≤n→g<abl x.rs→OV x d c g:=by
 intro n
 induction n with
 |zero=>intro g h1 h2;omega
 |succ n f=>intro g h1 h2;exact qyt x a e b d c hc g h2 λh h3 h4=>f h om h4
theorem X0 {l:List Tk} {id:Int} (h:fidx l id<0):fJ l id=none:=by
 rcases OC l id with h1|⟨i,h1,_⟩
 ·exact h1.2
 ·omega
theorem X3 {l:List Tk} {id:Int} (h:¬fidx l id<0):∃i:Nat,fidx l id=i∧fJ l id=some i∧i<abl l∧(l.getD i Tk.zero).id=id:=by
 rcases OC l id with h1|h1
 ·omega
 ·exact h1
def qtr (x:aC) (S:x.av.Ok) (H:bN x) (w:World) (D:dZ w x):
    Calls abm 105 #[.agg x.cells] w (Is w (.bool (kG x.av))):=by
 have ah3:=H.s;have hft:=H.t;have hfg:=H.g;have hfl:=H.l;have hfu:=H.u
 refine (dV Tryz.func105 81) ?_
 refine (JP∘JE) λw1 I=>(Jp 1∘Jj∘JQ∘JP∘d9 fK O0∘JI (h:=by exact λb=>qyq x S H _ (D.old b))) λDi E=>(Jp 1∘bH∘Jj) (Ju (λj=>?_) λj=>?_)
 ·
  exact (JT∘JP∘Jp 1∘Jj∘JZ∘aZ) λb=>bP (Fh (by simpa using j)).symm b.below
 have T:mY x.av=true:=by simpa using j
 have k:=uG T
 have hs:=Xn k
 obtain ⟨hc1,hc2,_,_⟩:=lX k.cfg
 have nX:=k.cu
 refine (JF∘aD∘JP∘d9 fK O0∘fu #[vI x.ak,vQ x.aj,abh x.gA x.gs x.gc,abh x.lA x.cl x.lc,abh x.uA x.cu x.uc,abh x.tA x.ts x.tc,abh x.sA x.rs x.sc,.bool true]∘JE) λw16 e=>(Jp 1∘dQ∘Jj∘JQ∘JP∘Jg 4 O1∘Jl∘Jp 1∘Jj∘JB) λa Z b=>?_
 refine qg (λU N O=>∃(c:Nat),(c≤abl x.cu)∧(fB c λc=>dR x.av c&&gJ (abl x.rs) λg=>ko x.av g c)∧U=abl x.cu-c∧Fr N 81 [] [(20,vI c),(19,vI (abl x.cu)),(18,abh x.uA x.cu x.uc),(3,vP e 0),(13,.bool false),(2,.bool false),(1,vP I 0)]∧Mem w O [.blk e #[vI x.ak,vQ x.aj,abh x.gA x.gs x.gc,abh x.lA x.cl x.lc,abh x.uA x.cu x.uc,abh x.tA x.ts x.tc,abh x.sA x.rs x.sc,.bool true] 273,.blk I x.cells 48]) (m:=abl x.cu-0) ⟨0,abw _,fB.zero,rfl,Z.sub kr,b.pk [0,1]⟩ ?_
 clear Z b;rintro U a w_ ⟨c,hc,hu,rfl,Z,b⟩
 refine Jb Z b ((JP∘Jp 1∘Jj∘JQ) (Ji (λV=>?_) λV=>?_))
 ·
  have J:c<abl x.cu:=by omega
  obtain ⟨id,f⟩:∃z,(x.cu.getD c 0)=z:=⟨_,rfl⟩
  refine (JT∘aD∘JQ∘JB∘JP∘Jp 1) ?_
  obtain ⟨F,G,P,_⟩:=Rd.sat D.u c
  have K:=D.u;rw [P] at K
  refine (Jk 18 (.slice (some ⟨F,G,none⟩) (abl x.cu) x.uc) (h:=by rw [P];try rfl)∘gV c 1∘Jy (v:=vI (x.cu.getD c 0)) (h:=by exact aad K c 0 om rfl rfl)∘Jo (vI id) (by rw [f])∘Jp 2∘Jr∘Jp 2∘JI (h:=by exact λb=>XC x e id hs _ (b.blk (i:=0) rfl) (b.old D.t) H.t)) λFV E=>(Jp 1∘dQ∘Jj∘JQ) λa Z b=>?_
  refine q9 (λN O=>Fr N 81 [] [(52,.bool (!dR x.av c)),(6,vI (fidx x.ts id)),(5,vI id),(4,vI c),(18,abh (some ⟨F,G,none⟩) x.cu x.uc),(21,.bool true),(20,vI c),(19,vI (abl x.cu)),(3,vP e 0),(13,.bool false),(2,.bool false),(1,vP I 0)]∧Mem w O [.blk e #[vI x.ak,vQ x.aj,abh x.gA x.gs x.gc,abh x.lA x.cl x.lc,abh x.uA x.cu x.uc,abh x.tA x.ts x.tc,abh x.sA x.rs x.sc,.bool true] 273,.blk I x.cells 48]) ?_ ?_
  ·
   refine zt ?_
   refine Jb Z b ((Jp 3) (Jh (λW=>?_) λW=>?_))
   ·
    refine (Jp 3) (Ji (λX=>?_) λX=>?_)
    ·
     refine (Jv 19 [(52,.bool true)]∘aG∘Jq) λa Z b=>?_
     have Z:=Z.sp 52 (.bool (!dR x.av c)) rfl (congrArg abX (by rw [Xq (by rw [f];omega) (by rw [f];exact X0 om)];rfl))
     exact ⟨Z.sub kr,b.pk [0,1]⟩
    obtain ⟨i,Y,hfs,hil,ah4⟩:=X3 (l:=x.ts) (id:=id) om
    refine (Jg 5 O1∘Jp 1∘Jo (vI i) (by rw [Y])) ?_
    obtain ⟨Bt,Bu,Q,_⟩:=Rd.sat D.t i
    have o:=D.t;rw [Q] at o
    refine (Jk 35 (.slice (some ⟨Bt,Bu,none⟩) (abl x.ts) x.tc) (h:=by rw [Q];try rfl)∘gV i 8∘Jf 5∘Nu qk o 5 i Tk.zero∘Jp 3) (Ju (λp=>?_) λp=>?_)
    ·
     refine (Jv 10 [(52,.bool true)]∘aG∘Jq) λa Z b=>?_
     have Z:=Z.sp 52 (.bool (!dR x.av c)) rfl (congrArg abX (by rw [Xp (by rw [f];omega) (by rw [f];exact hfs),(Bool.not_eq_true' _).mp p];rfl))
     exact ⟨Z.sub kr,b.pk [0,1]⟩
    refine (Jg 5 O1∘Jp 1∘Jo (vI i) (by rw [Y])∘Jk 44 (.slice (some ⟨Bt,Bu,none⟩) (abl x.ts) x.tc) (h:=by rw [Q];try rfl)∘gV i 8∘Jf 3∘Nu qk o 3 i Tk.zero∘Jp 4∘aG∘Jq) λa Z b=>?_
    have Z:=Z.sp 52 (.bool (!dR x.av c)) rfl (congrArg abX (by rw [Xp (by rw [f];omega) (by rw [f];exact hfs),(Bool.not_eq_false' _).mp p,acz,bne,ace];simp))
    exact ⟨Z.sub kr,b.pk [0,1]⟩
   refine (Jv 22 [(52,.bool false)]∘dQ∘Jq) λa Z b=>?_
   have Z:=Z.sp 52 (.bool (!dR x.av c)) rfl (congrArg abX (by rw [qym (by rw [f];omega)];rfl))
   exact ⟨Z.sub kr,b.pk [0,1]⟩
  clear Z b;rintro a w8 ⟨Z,b⟩
  refine Jb Z b (Ju (λq=>?_) λq=>?_)
  ·
   exact (JT∘JP∘Jp 1∘Jj∘JZ∘aZ) λb=>bP (Fj J (by simpa using q)).symm b.below
  refine (JF∘aD∘JP∘Jg 6 O1∘Jl∘Jp 1∘Jj∘JB) λa Z b=>?_
  refine qg (λU N O=>∃(g:Nat),(g≤abl x.rs)∧(fB g λg=>ko x.av g c)∧U=abl x.rs-g∧Fr N 81 [] [(56,vI g),(55,vI (abl x.rs)),(54,abh x.sA x.rs x.sc),(52,.bool false),(6,vI (fidx x.ts id)),(5,vI id),(4,vI c),(18,abh (some ⟨F,G,none⟩) x.cu x.uc),(21,.bool true),(20,vI c),(19,vI (abl x.cu)),(3,vP e 0),(13,.bool false),(2,.bool false),(1,vP I 0)]∧Mem w O [.blk e #[vI x.ak,vQ x.aj,abh x.gA x.gs x.gc,abh x.lA x.cl x.lc,abh x.uA x.cu x.uc,abh x.tA x.ts x.tc,abh x.sA x.rs x.sc,.bool true] 273,.blk I x.cells 48]) (m:=abl x.rs-0) ⟨0,abw _,fB.zero,rfl,Z.sub kr,b.pk [0,1]⟩ ?_
  clear Z b;rintro U a w_ ⟨g,hg,hu2,rfl,Z,b⟩
  refine Jb Z b ((JP∘Jp 1∘Jj∘JQ) (Ji (λBq=>?_) λBq=>?_))
  ·
   have d:g<abl x.rs:=by omega
   obtain ⟨y,hy⟩:∃z,x.rs.getD g Rw.zero=z:=⟨_,rfl⟩
   have pU:Rd w w.heap.size 3 y.A (abl y.l) (y.l.flatMap iQ):=by rw [←hy];exact D.row d
   have hyl:(abl y.l:Int)=x.ak:=by rw [←hy];exact (Bj d (k.row g d)).1
   refine (JT∘aD∘JQ∘JB∘JP∘Jp 1) ?_
   obtain ⟨zG,zH,R,_⟩:=Rd.sat D.s g
   have L:=D.s;rw [R] at L
   refine (Jk 54 (.slice (some ⟨zG,zH,none⟩) (abl x.rs) x.sc) (h:=by rw [R];try rfl)∘gV g 1∘Jy (v:= .slice ((x.rs.getD g Rw.zero).A) ((x.rs.getD g Rw.zero).l.length) ((x.rs.getD g Rw.zero).c)) (h:=by exact aad L g Rw.zero d rfl rfl)∘Jo (.slice y.A (abl y.l) y.c) (by rw [hy])∘Jp 2∘Jr∘Jp 3∘JL (h:=by exact λb=>KS x S H k e c om _ g (abq _) d _ (D.old b) (b.blk (i:=0) rfl))) ?_
   rintro b _ w65 ⟨rfl,E⟩
   refine ⟨_,rfl,_,b.call E,?_⟩
   refine (Jp 1∘Jx∘Jx∘JA #[vQ 0,vQ 0,vQ 0]) λw9 g9=>(JV su aT (h1:=by exact Bl (aJ bB (aO x.av g c)))) λFK=>(Jp 1∘Jj) λa Z b=>?_
   refine q9 (λN O=>Fr N 81 [] [(78,.bool (!ko x.av g c)),(10,.bool (!(aO x.av g c).isEmpty)),(9,vP g9 0),(8,abh y.A y.l y.c),(7,vI g),(54,abh (some ⟨zG,zH,none⟩) x.rs x.sc),(57,.bool true),(56,vI g),(55,vI (abl x.rs)),(52,.bool false),(6,vI (fidx x.ts id)),(5,vI id),(4,vI c),(18,abh (some ⟨F,G,none⟩) x.cu x.uc),(21,.bool true),(20,vI c),(19,vI (abl x.cu)),(3,vP e 0),(13,.bool false),(2,.bool false),(1,vP I 0)]∧Mem w O [.blk g9 ((aJ bB (aO x.av g c)).cells) 283,.blk e #[vI x.ak,vQ x.aj,abh x.gA x.gs x.gc,abh x.lA x.cl x.lc,abh x.uA x.cu x.uc,abh x.tA x.ts x.tc,abh x.sA x.rs x.sc,.bool true] 273,.blk I x.cells 48]) ?_ ?_
   ·
    refine Jb Z b ((Vs .n []) λBA=>(Vp [0,1]) λa Z b HS=>?_)
    rcases Z.tf 69 rfl with ⟨r,Z⟩|⟨r,Z⟩
    ·
     refine Vb Z b HS ((Vp [4,5]∘qF 2 su O0) ?_)
     obtain ⟨Pj,Pk,M,_⟩:=Rd.sat pU c
     have B:=pU;rw [M] at B
     intro a Z b HS
     replace Z:=Z.sp 72 (abh (some ⟨Pj,Pk,none⟩) y.l y.c) rfl (by rw [M];try rfl)
     refine Vb Z b HS ((yY 6 c 3∘Vf 7 2∘EC 8 Bf B 2 c Sp.zero∘VI 3 .n (h:=by exact λb=>XD (aJ bB (aO x.av g c)) _)) λw71 E=>(Vp [9,10]∘Vd∘l8) λa Z b=>?_)
     have Z:=Z.sp 78 (.bool (!ko x.av g c)) rfl (congrArg abX (by rw [zim (by simpa using r),OE d,hy,←decide_not];exact decide_eq_decide.2 om))
     exact ⟨Z.sub kr,b.pk [0,1,2]⟩
    refine ap Z (λ_=>HS) [2,3,4,5,6,7,8,9,10] (bt 11 []) [(78,.bool false)] λa Z=>?_
    refine qd kr ?_
    have Z:=Z.sp 78 (.bool (!ko x.av g c)) rfl (congrArg abX (by rw [zex (by simpa using r)];rfl))
    exact ⟨Z.sub kr,b.pk [0,1,2]⟩
   clear Z b;rintro a KR ⟨Z,b⟩
   refine Jb Z b (Ju (λC=>?_) λC=>?_)
   ·
    exact (JT∘JP∘Jp 1∘Jj∘JZ∘aZ) λb=>bP (Fp J d (by simpa using C)).symm b.below
   refine (JF∘aD∘JR∘bT 1∘Jp 1∘aK∘Jq) λa Z b=>?_
   replace Z:=Z.sp 54 (abh x.sA x.rs x.sc) rfl (by rw [R])
   exact ⟨_,om,g+1,by omega,hu2.succ (by simpa using C),rfl,Z.sub kr,b.pk [1,2]⟩
  refine (JF∘JX∘JG∘JR∘bT 1∘Jp 1∘aK∘Jq) λa Z b=>?_
  replace Z:=Z.sp 18 (abh x.uA x.cu x.uc) rfl (by rw [P])
  exact ⟨_,om,c+1,by omega,hu.succ (by rw [show dR x.av c=true by simpa using q,acz];exact fB.all λi hi=>hu2 i om),rfl,Z.sub kr,b.pk [0,1]⟩
 exact (JF∘JX∘JG∘JP∘Jp 1∘Jj∘JZ∘aZ) λb=>bP (Fq T (λi hi=>hu i om)).symm b.below
def dS {α:Type} (k:Nat) (f:Nat→List α):List α:=(acW k).flatMap f
theorem qz (k:Nat) (f:Nat→List α):dS (k+1) f=dS k f++f k:=by unfold dS;rw [List.range_succ,ab2];simp
theorem Bn (f:Nat→List α):dS 0 f=[]:=rfl
theorem Fu {f:Nat→List α} (h:∀i,abl (f i)≤m):∀k,abl (dS k f)≤m*k
 |0=>abw _
 |k+1=>by rw [qz,abn,aev];have:=Fu h k;have:=h k;omega
theorem Xr {f:Nat→List α}:∀k,(∀i,i<k→abl (f i)≤m)→abl (dS k f)≤m*k
 |0,_=>abw _
 |k+1,h=>by rw [qz,abn,aev];have:=Xr k (λi hi=>h i om);have:=h k om;omega
def Dh {f:Nat→List α} {p:α→Prop}:∀k,(∀i,i<k→∀x∈f i,p x)→∀x∈dS k f,p x
 |0,_=>λx a=>by cases a
 |k+1,h=>λx a=>by
  rw [qz] at a
  rcases ab5.1 a with a|a
  ·exact Dh k (λi hi=>h i om) x a
  ·exact h k om x a
def aH (n:Int):Nat:=(n%18446744073709551616).toNat
theorem Bo (n:Int):aH n<18446744073709551616:=by unfold aH;omega
theorem OG (n:Int):abQ .u64 (Go.IntKind.u64.wrap n)= .int .u64 ((aH n:Nat):Int):=by
 unfold aH
 rw [Int.toNat_of_nonneg (Int.emod_nonneg _ de)]
 rfl
structure cO where
 next:Int
 st:aC
def cO.cells (s:cO):Array Value:= #[.int .i64 s.next,.int .i64 s.st.ak,.int .u64 (s.st.aj:Int),.slice s.st.gA (abl s.st.gs) s.st.gc,.slice s.st.lA (abl s.st.cl) s.st.lc,.slice s.st.uA (abl s.st.cu) s.st.uc,.slice s.st.tA (abl s.st.ts) s.st.tc,.slice s.st.sA (abl s.st.rs) s.st.sc]
def KO (x:cO):∀v∈x.cells.toList,v.oneCell'=true:=by simp [cO.cells,acd]
def sS (l:List Gr) (i:Nat):List Nat:=[aH (l.getD (i+1) Gr.zero).parent,aH (l.getD (i+1) Gr.zero).weight]
def qo (l:List Tk) (i:Nat):Int:=if i=0 then 0 else (l.getD (i-1) Tk.zero).id
def lY (p:Int) (t:Tk):List Nat:=[aH (t.id-p),aH t.group,aH t.weight,aH t.cpu,t.mask,if t.ready then 1 else 0,t.v,t.r]
def mJ (g:Nat) (z:Sp):List Nat:=(if 0<g then [z.v,z.r] else [])++[z.floor]
def ni (g:Nat) (l:List Sp):List Nat:=dS (abl l) λc=>mJ g (l.getD c Sp.zero)
def aF (s:cO):Nat→List Nat
 |0=>[aH s.next]
 |1=>[aH s.st.ak,s.st.aj,abl s.st.gs]
 |2=>dS (abl s.st.gs-1) (sS s.st.gs)
 |3=>s.st.cl.map aH
 |4=>s.st.cu.map aH
 |5=>abl s.st.ts::dS (abl s.st.ts) λi=>lY (qo s.st.ts i) (s.st.ts.getD i Tk.zero)
 |6=>dS (abl s.st.rs) λg=>ni g (s.st.rs.getD g Rw.zero).l
 |_=>[]
def qb:Nat→ByteArray
 |0=>⟨#[110,101,120,116]⟩
 |1=>⟨#[99,111,110,102,105,103]⟩
 |2=>⟨#[103,114,111,117,112,115]⟩
 |3=>⟨#[99,108,111,99,107,115]⟩
 |4=>⟨#[99,117,114,114,101,110,116]⟩
 |5=>⟨#[116,97,115,107,115]⟩
 |6=>⟨#[115,112,111,116,115]⟩
 |_=>⟨#[]⟩
def bV (s:cO):Nat:=if s.next<1∨281474976710657<s.next then 330 else if kG s.st.av=false then 331 else 0
def dU (s:cO):List Nat:=dS 7 (aF s)
def dx (s:cO):List Nat:=[113,115,1]++(dU s).flatMap au
def cZ (s:cO):List Nat:=if bV s=0 then bA (dx s) else []
structure jl where
 nm:ByteArray
 fr:Nat
 to:Nat
def gF (x:jl):List Value:=[.string x.nm,.int .i64 (x.fr:Int),.int .i64 (x.to:Int)]
def q86 (x:jl):abl (gF x)=3:=rfl
def wO (w:World) (R:List Nat) (r:Ending) (a:World):Prop:=
 (∃A c,r= .returned (.slice A (abl R) c)∧a.ownsRow w.heap.size 41 1 (.slice A (abl R) c) (abl R) (R.map bq)∧abl R≤c)∧Below w.heap.size w a
def zF {q:List Nat} (h:q=R) (a:W.ownsRow w.heap.size 41 1 (.slice A (abl q) c) (abl q) (q.map bq)) (hc:abl q≤c) (hb:Below w.heap.size w W):wO w R (.returned (.slice A (abl q) c)) W:=by
 subst h
 exact ⟨⟨A,c,rfl,a,hc⟩,hb⟩
theorem uL (l:List Nat):∀u∈l.map bq,u.oneCell'=true:=by
 intro u a
 obtain ⟨x,_,rfl⟩:=ab6.1 a
 rfl
theorem qn5 {l:List Int} (h:k<abl l):(l.take (k+1)).map aH=(l.take k).map aH++[aH (l.getD k 0)]:=by grind [abp,adP]
def nk {a b:List α} (h:abl b=n):abl a+n=abl (a++b):=by rw [abn,h]
theorem Xt (h:n<18446744073709551616):aH (n:Int)=n:=by unfold aH;omega
def zey {l:List Gr} (h:Rd w w.heap.size 2 A (abl l) (l.flatMap eO)) (h1:1≤abl l) (hc:abl l≤c) (a:(if c=1 then A else A.map (·.add (1*2)))=E):Rd w w.heap.size 2 E (abl (l.drop 1)) ((l.drop 1).flatMap eO):=by
 have h2:=Rd.zkc pR h h1 hc
 rw [a] at h2
 exact h2
theorem getD_drop (l:List α) (j k:Nat) (d:α):(l.drop j).getD k d=l.getD (k+j) d:=by
 rw [abo,acI,abo,aeu]
theorem Fv (l:List Tk) (k:Nat):qo l (k+1)=(l.getD k Tk.zero).id:=by unfold qo;rw [if_neg om];rfl
theorem qtj (l:List Tk):qo l 0=0:=rfl
theorem OH (h:0<g):mJ g z=[z.v,z.r]++[z.floor]:=by unfold mJ;rw [if_pos h]
theorem KP (h:¬0<g):mJ g z=[z.floor]:=by unfold mJ;rw [if_neg h];rfl
theorem Fw {p:Int} (h:t.ready=true):lY p t=[aH (t.id-p),aH t.group,aH t.weight,aH t.cpu]++[t.mask,1,t.v,t.r]:=by unfold lY;rw [h];rfl
theorem Fx {p:Int} (h:t.ready=false):lY p t=[aH (t.id-p),aH t.group,aH t.weight,aH t.cpu]++[t.mask,0,t.v,t.r]:=by unfold lY;rw [h];rfl
def R4 (A:Option Addr) (c:Nat) (l:List Int) (w:World) (hr:Rd w w.heap.size 1 A (abl l) (l.map aP)) (C:abl l≤1000000):
    Calls abm 277 #[abh A l c] w (wO w (l.map aH)):=by
 refine (dV Tryz.func277 19) ?_
 refine (JP∘Jp 1∘Jr∘Jp 1∘Jq∘JC (h:=by exact λb=>b.nil 41 1)∘JG∘JQ∘JP∘Jp 1∘Jl∘Jp 1∘Jj∘JB) λa Z b=>?_
 refine qg (λt v x=>∃(k:Nat) (q:List Nat) (o:Option Addr) (co:Nat),(k≤abl l)∧(q=(l.take k).map aH)∧(abl q=k)∧(abl q≤co)∧t=abl l-k∧Fr v 19 [] [(8,vI k),(7,vI (abl l)),(6,abh A l c),(3,abh o q co),(2,vN)]∧Mem w x [abj o q co bq 41 1]) (m:=abl l-0) ⟨0,[],none,0,abw _,rfl,rfl,abq _,rfl,Z.sub kr,b.pk [0]⟩ ?_
 clear Z b;rintro t a D ⟨k,q,o,co,E,u,p,r,rfl,Z,b⟩
 refine Jb Z b ((JP∘Jp 1∘Jj∘JQ) (Ji (λs=>?_) λs=>?_))
 ·
  have f:k<abl l:=by omega
  refine (JT∘aD∘JQ∘JB∘JP) ?_
  obtain ⟨gA,F,rfl,_⟩:=hr.sat k
  refine (gV k 1∘Jy (h:=by exact aad hr k 0 f rfl rfl)∘Jp 1∘bH∘Jj∘JR∘Jp 2∘Jv 1 [(14,vQ (IntKind.u64.wrap (l.getD k 0)))]∘Jo (vQ (aH (l.getD k 0))) (by exact OG _)∘JU kK #[vQ (aH (l.getD k 0))]) λy z=>(JD ([aH (l.getD k 0)].map bq) 1 (λ_ _=>fU) kK (hr:=by exact λb=>b.aX (i:=0) (n:=1) (size:=1) rfl rfl) (h1:=by exact uL _)) λB g j e=>(Jp 1∘l8∘Jq) ?_
  have d:abl q+1=abl (q++[aH (l.getD k 0)]):=nk rfl
  rw [d] at e
  refine (JC (h:=by exact λb=>b.aY (i:=1) (ys:=(q++[aH (l.getD k 0)]).map bq) rfl d (List.map_append.symm))∘Jk 3 (.slice g (abl (q++[aH (l.getD k 0)])) j) (h:=by exact iy d)∘JG∘JR∘bT 1∘Jp 1∘aK∘Jq) λa Z b=>?_
  exact ⟨_,om,k+1,(q++[aH (l.getD k 0)]),g,j,by omega,by rw [u,qn5 f],by rw [abn,p];rfl,e,rfl,Z.sub kr,b.pk [1]⟩
 exact (JF∘JX∘JG∘JP∘Jp 2∘aK∘Jj∘JZ∘aZ) λb=>zF (by rw [u,abP om]) (b.own (i:=0) rfl) r b.below
theorem Hq (A:Option Addr) (c n:Nat) (l:List Int) (R:List Nat) (w:World) (a:abl l=n) (hr:Rd w w.heap.size 1 A n (l.map aP)) (b:n≤1000000) (d:l.map aH=R):
  Calls abm 277 #[.slice A n c] w (wO w R):=by
 subst a;subst d
 exact R4 A c l w hr b
def q55 (s:cO) (d:s.st.av.Ok) (f:bN s.st) (w:World) (g:dZ w s.st):
    Calls abm 230 #[.agg s.cells] w (wO w (aF s 0)):=by
 refine (dV Tryz.func230 7) ?_
 refine (JP∘JE) λj k=>(Jp 1∘Jr∘Jg 0 O0∘JU zu #[vI s.next]) λl e=>(JK (h:=by exact λa=>Hq (some ⟨e,0,none⟩) 1 1 [s.next] [aH s.next] _ rfl (a.aX (i:=0) (n:=1) (size:=1) rfl rfl) de rfl)) λm o p b=>?_
 have c: [aH s.next].length=1:=rfl
 exact (Jp 1∘dQ∘Jj∘JZ∘aZ) λa=>zF rfl (a.own (i:=0) rfl) b a.below
def qur (s:cO) (c:s.st.av.Ok) (d:bN s.st) (w:World) (k:dZ w s.st):
    Calls abm 231 #[.agg s.cells] w (wO w (aF s 1)):=by
 have e:=d.g
 refine (dV Tryz.func231 17) ?_
 exact (JP∘JE) λl m=>(Jp 1∘Jr∘Jf 1∘Jf 0∘Jy (v:= .agg #[vI s.st.ak,vQ s.st.aj,abh s.st.gA s.st.gs s.st.gc]) (h:=by exact Pe rfl rfl xJ rfl (λ_ h=>h.sub (i:=0) rfl 1 rfl))∘JA #[vI 0,vQ 0,vN]) λo p=>(JV xJ aT) λb=>(dQ∘Jr∘Jg 0 O0∘Jv 1 [(9,vQ (IntKind.u64.wrap s.st.ak))]∘Jo (vQ (aH s.st.ak)) (by exact OG _)∘Jg 1 O0∘Jg 2 O0∘Jl∘Jw .u64∘JU kK #[vQ (aH s.st.ak),vQ s.st.aj,vQ (abl s.st.gs)]) λf j=>(Jp 1∘aG∘Jq∘JC (h:=by exact λa=>(a.dY (i:=0) (n:=3) (size:=1) rfl rfl de).bR (i:=0) (ys:=[aH s.st.ak,s.st.aj,abl s.st.gs].map bq) rfl (rfl))∘JG∘JZ∘aZ) λa=>zF (q:=[aH s.st.ak,s.st.aj,abl s.st.gs]) rfl (a.own (i:=0) rfl) (abq 3) a.below
def qus (s:cO) (c:s.st.av.Ok) (d:bN s.st) (w:World) (e:dZ w s.st):
    Calls abm 233 #[.agg s.cells] w (wO w (aF s 3)):=by
 refine (dV Tryz.func233 7) ?_
 exact (JP∘JE) λf g=>(Jp 1∘Jr∘Jf 1∘Jg 3 O0∘JK (h:=by exact λa=>R4 s.st.lA s.st.lc s.st.cl _ (a.old e.l) d.l)) λj k m b=>(Jp 1∘dQ∘Jj∘JZ∘aZ) λa=>zF rfl (a.own (i:=0) rfl) b a.below
def qry (s:cO) (c:s.st.av.Ok) (d:bN s.st) (w:World) (e:dZ w s.st):
    Calls abm 234 #[.agg s.cells] w (wO w (aF s 4)):=by
 refine (dV Tryz.func234 7) ?_
 exact (JP∘JE) λf g=>(Jp 1∘Jr∘Jf 1∘Jg 4 O0∘JK (h:=by exact λa=>R4 s.st.uA s.st.uc s.st.cu _ (a.old e.u) d.u)) λj k l b=>(Jp 1∘dQ∘Jj∘JZ∘aZ) λa=>zF rfl (a.own (i:=0) rfl) b a.below
def qut (s:cO) (M:s.st.av.Ok) (N:bN s.st) (w:World) (O:dZ w s.st) (hc:eP s.st) (u:ShAt s.st):
    Calls abm 232 #[.agg s.cells] w (wO w (aF s 2)):=by
 have P:=N.g;have x:=hc.g
 have y:=(qp (lX u.cfg).2.2.2).1
 obtain ⟨l,d⟩:∃z,(if s.st.gc=1 then s.st.gA else s.st.gA.map (·.add (1*2)))=z:=⟨_,rfl⟩
 have f:=zey O.g y x d
 obtain ⟨m,hm⟩:∃z,s.st.gs.drop 1=z:=⟨_,rfl⟩
 have A:abl m=abl s.st.gs-1:=by rw [←hm,abN]
 rw [hm] at f
 refine (dV Tryz.func232 26) ?_
 refine (JP∘JE) λY Q=>(Jp 1∘Jr∘Jp 1∘Jq∘JC (h:=by exact λb=>b.nil 41 1)∘JG∘JQ∘JP∘Jf 1∘Jf 0∘Jg 2 O1∘Jy (v:= .slice (if s.st.gc=1 then s.st.gA else (s.st.gA:Option Addr).map (·.add (1*2))) (abl s.st.gs-1) (s.st.gc-1)) (h:=by exact aaf iO (j:=1) rfl rfl rfl om)∘Jo (.slice l (abl m) (s.st.gc-1)) (by rw [d,A])∘Jl∘Jp 1∘Jj∘JB) λa Z b=>?_
 refine qg (λG R S=>∃(k:Nat) (q:List Nat) (B:Option Addr) (co:Nat),(k≤abl m)∧(q=dS k (sS s.st.gs))∧(abl q=2*k)∧(abl q≤co)∧G=abl m-k∧Fr R 26 [] [(12,vI k),(11,vI (abl m)),(10,abh l m (s.st.gc-1)),(3,abh B q co),(2,vN)]∧Mem w S [abj B q co bq 41 1,.blk Q s.cells 50]) (m:=abl m-0) ⟨0,[],none,0,abw _,rfl,rfl,abq _,rfl,Z.sub kr,b.pk [0,1]⟩ ?_
 clear Z b;rintro G a w_ ⟨k,q,B,co,hk,H,C,D,rfl,Z,b⟩
 refine Jb Z b ((JP∘Jp 1∘Jj∘JQ) (Ji (λo=>?_) λo=>?_))
 ·
  have p:k<abl m:=by omega
  refine (JT∘aD∘JQ∘JB∘JP) ?_
  obtain ⟨I,J,rfl,_⟩:=f.sat k
  refine (gV k 2∘oK Gr.cells pR f lq k Gr.zero (hk:=p)∘JA #[vI 0,vI 0]) λw5 g5=>(JV lq aT (h1:=by exact Xb (m.getD k Gr.zero))) λK=>(bH∘Jj∘JR∘Jp 1∘Jg 0 O0∘Jg 1 O0∘JU zu #[vI ((m.getD k Gr.zero).parent),vI ((m.getD k Gr.zero).weight)]) λT E=>(JK (h:=by exact λb=>Hq (some ⟨E,0,none⟩) 2 2 [(m.getD k Gr.zero).parent,(m.getD k Gr.zero).weight] [aH (m.getD k Gr.zero).parent,aH (m.getD k Gr.zero).weight] _ rfl (b.aX (i:=0) (n:=2) (size:=1) rfl rfl) de rfl)) λU V W L=>?_
  have F: [aH (m.getD k Gr.zero).parent,aH (m.getD k Gr.zero).weight].length=2:=rfl
  refine (JD ([aH (m.getD k Gr.zero).parent,aH (m.getD k Gr.zero).weight].map bq) 3 (λ_ _=>qD) kK (hr:=by exact λb=>b.rd (i:=0) rfl) (h1:=by exact uL _)) λX r t e=>(Jp 1∘aG∘Jq) ?_
  have c:abl q+([aH (m.getD k Gr.zero).parent,aH (m.getD k Gr.zero).weight].length)=abl (q++[aH (m.getD k Gr.zero).parent,aH (m.getD k Gr.zero).weight]):=nk rfl
  rw [c] at e
  refine (JC (h:=by exact λb=>b.aY (i:=3) (ys:=(q++[aH (m.getD k Gr.zero).parent,aH (m.getD k Gr.zero).weight]).map bq) rfl c (List.map_append.symm))∘Jk 3 (.slice r (abl (q++[aH (m.getD k Gr.zero).parent,aH (m.getD k Gr.zero).weight])) t) (h:=by exact iy c)∘JG∘JR∘bT 1∘Jp 1∘aK∘Jq) λa Z b=>?_
  exact ⟨_,om,k+1,(q++[aH (m.getD k Gr.zero).parent,aH (m.getD k Gr.zero).weight]),r,t,by omega,by rw [H,qz,←hm,getD_drop];rfl,by rw [abn,C];rfl,e,rfl,Z.sub kr,b.pk [3,4]⟩
 exact (JF∘JX∘JG∘JP∘Jp 2∘aK∘Jj∘JZ∘aZ) λb=>zF (by rw [H,show k=abl s.st.gs-1 by omega];try rfl) (b.own (i:=0) rfl) D b.below
def qz6 (s:cO) (L:s.st.av.Ok) (hf:bN s.st) (w:World) (hx:dZ w s.st) (hc:eP s.st) (M:ShAt s.st):
    Calls abm 235 #[.agg s.cells] w (wO w (aF s 5)):=by
 have htl:=hf.t
 refine (dV Tryz.func235 53) ?_
 refine (JP∘JE) λw1 g1=>(Jp 1∘Jr∘Jf 1∘Jg 5 O0∘Jl∘JU zu #[vI (abl s.st.ts)]) λDi F=>(JK (h:=by exact λb=>Hq (some ⟨F,0,none⟩) 1 1 [(abl s.st.ts:Int)] [aH (abl s.st.ts:Int)] _ rfl (b.aX (i:=0) (n:=1) (size:=1) rfl rfl) de rfl)) λG H wL x=>?_
 have N: [aH (abl s.st.ts:Int)].length=1:=rfl
 refine (Jp 1∘l8∘Jq) ?_
 have f: [aH (abl s.st.ts:Int)].length=[abl s.st.ts].length:=rfl
 rw [f] at x
 refine (JC (h:=by exact λb=>b.aY (i:=0) (ys:=[abl s.st.ts].map bq) rfl f (by rw [Xt om]))∘Jk 3 (.slice G ([abl s.st.ts].length) H) (h:=by exact iy f)∘JG∘JP∘Jp 1∘Jj∘JQ∘JP∘Jf 1∘Jg 5 O2∘Jl∘Jp 1∘Jj∘JB) λa Z b=>?_
 refine qg (λmS aS wS=>∃(k:Nat) (q:List Nat) (O:Option Addr) (co:Nat),(k≤abl s.st.ts)∧(0≤qo s.st.ts k∧qo s.st.ts k≤65535)∧(q=[abl s.st.ts]++dS k λi=>lY (qo s.st.ts i) (s.st.ts.getD i Tk.zero))∧(abl q=8*k+1)∧(abl q≤co)∧mS=abl s.st.ts-k∧Fr aS 53 [] [(18,vI k),(17,vI (abl s.st.ts)),(16,abh s.st.tA s.st.ts s.st.tc),(4,vI (qo s.st.ts k)),(3,abh O q co),(2,vN),(1,vP g1 0)]∧Mem w wS [abj O q co bq 41 1,.blk F #[vI (abl s.st.ts)] 3,.blk g1 s.cells 50]) (m:=abl s.st.ts-0) ⟨0,[abl s.st.ts],G,H,abw _,by rw [qtj];decide,by rw [Bn,abU],rfl,x,rfl,Z.sub kr,b.pk [0,1,2]⟩ ?_
 clear Z b;rintro mS a w_ ⟨k,q,O,co,hk,hp,P,YQ,Q,rfl,Z,b⟩
 refine Jb Z b ((JP∘Jp 1∘Jj∘JQ) (Ji (λI=>?_) λI=>?_))
 ·
  have g:k<abl s.st.ts:=by omega
  obtain ⟨t,ht⟩:∃z,(s.st.ts.getD k Tk.zero)=z:=⟨_,rfl⟩
  have J:=oW (M.tk k g)
  rw [ht] at J
  have A:=L.ts _ (qe Tk.zero g)
  replace A:Tk.Ok t:=by rw [←ht];exact A
  have htr:=A.r
  refine (JT∘aD∘JQ∘JB∘JP) ?_
  obtain ⟨R,S,u,_⟩:=Rd.sat hx.t k
  have y:=hx.t;rw [u] at y
  refine (Jk 16 (.slice (some ⟨R,S,none⟩) (abl s.st.ts) s.st.tc) (h:=by rw [u];try rfl)∘gV k 8∘oK Tk.cells qk y eU k Tk.zero (hk:=g)∘Jo (.agg t.cells) (by rw [ht])∘JA #[vI 0,vI 0,vI 0,vI 0,vQ 0,.bool false,vQ 0,vW 0]) λw6 g6=>(JV eU aT (h1:=by exact E9 t)) λFJ=>(bH∘Jr∘Jp 1∘Jj∘JQ∘JP∘Jg 5 O0∘Jj) (Ju (λj=>?_) λj=>?_)
  ·
   refine (JT∘JR∘Jp 1∘Jr∘Jp 1∘Jg 0 O0∘Jp 2∘Jo (vI (t.id-qo s.st.ts k)) (by exact ou ⟨by omega,by omega⟩)∘Jg 1 O0∘Jg 2 O0∘Jg 3 O0∘JU zu #[vI (t.id-qo s.st.ts k),vI t.group,vI t.weight,vI t.cpu]) λT B=>(JK (h:=by exact λb=>Hq (some ⟨B,0,none⟩) 4 4 [t.id-qo s.st.ts k,t.group,t.weight,t.cpu] [aH (t.id-qo s.st.ts k),aH t.group,aH t.weight,aH t.cpu] _ rfl (b.aX (i:=0) (n:=4) (size:=1) rfl rfl) de rfl)) λU V W K=>?_
   have C: [aH (t.id-qo s.st.ts k),aH t.group,aH t.weight,aH t.cpu].length=4:=rfl
   refine (JD ([aH (t.id-qo s.st.ts k),aH t.group,aH t.weight,aH t.cpu].map bq) 3 (λ_ _=>qD) kK (hr:=by exact λb=>b.rd (i:=0) rfl) (h1:=by exact uL _)) λX D E l=>(Jp 1∘aG∘Jq) ?_
   have c:abl q+([aH (t.id-qo s.st.ts k),aH t.group,aH t.weight,aH t.cpu].length)=abl (q++[aH (t.id-qo s.st.ts k),aH t.group,aH t.weight,aH t.cpu]):=nk rfl
   rw [c] at l
   refine (JC (h:=by exact λb=>b.aY (i:=3) (ys:=(q++[aH (t.id-qo s.st.ts k),aH t.group,aH t.weight,aH t.cpu]).map bq) rfl c (List.map_append.symm))∘Jk 3 (.slice D (abl (q++[aH (t.id-qo s.st.ts k),aH t.group,aH t.weight,aH t.cpu])) E) (h:=by exact iy c)∘JG∘JP∘Jp 1∘Jg 4 O2∘Jp 1∘Jg 6 O2∘Jg 7 O2∘Jw .u64∘JU kK #[vQ t.mask,vQ 1,vQ t.v,vQ t.r]) λY g47=>(JD ([t.mask,1,t.v,t.r].map bq) 4 (λ_ _=>rW) kK (hr:=by exact λb=>b.aX (i:=0) (n:=4) (size:=1) rfl rfl) (h1:=by exact uL _)) λC9 o p e=>(Jp 1∘aG∘Jq) ?_
   have d:(abl (q++[aH (t.id-qo s.st.ts k),aH t.group,aH t.weight,aH t.cpu]))+4=abl ((q++[aH (t.id-qo s.st.ts k),aH t.group,aH t.weight,aH t.cpu])++[t.mask,1,t.v,t.r]):=nk rfl
   rw [d] at e
   refine (JC (h:=by exact λb=>b.aY (i:=4) (ys:=((q++[aH (t.id-qo s.st.ts k),aH t.group,aH t.weight,aH t.cpu])++[t.mask,1,t.v,t.r]).map bq) rfl d (List.map_append.symm))∘Jk 3 (.slice o (abl ((q++[aH (t.id-qo s.st.ts k),aH t.group,aH t.weight,aH t.cpu])++[t.mask,1,t.v,t.r])) p) (h:=by exact iy d)∘JG∘JR∘Jf 0∘Jc O3∘Jo (vI (qo s.st.ts (k+1))) (by rw [Fv,ht])∘Jp 1∘bH∘Jj∘JR∘bT 1∘Jp 1∘aK∘Jq) λa Z b=>?_
   replace Z:=Z.sp 16 (abh s.st.tA s.st.ts s.st.tc) rfl (by rw [u])
   exact ⟨_,om,k+1,(q++[aH (t.id-qo s.st.ts k),aH t.group,aH t.weight,aH t.cpu]++[t.mask,1,t.v,t.r]),o,p,by omega,by rw [Fv,ht];omega,by rw [P,qz,ht,Fw j,aby,aby],by (simp only [abn,ab1,adL];omega),e,rfl,Z.sub kr,b.pk [4,5,6]⟩
  refine (JF∘aD∘JP∘Jp 1∘Jg 0 O0∘Jp 2∘Jo (vI (t.id-qo s.st.ts k)) (by exact ou ⟨by omega,by omega⟩)∘Jg 1 O0∘Jg 2 O0∘Jg 3 O0∘JU zu #[vI (t.id-qo s.st.ts k),vI t.group,vI t.weight,vI t.cpu]) λT B=>(JK (h:=by exact λb=>Hq (some ⟨B,0,none⟩) 4 4 [t.id-qo s.st.ts k,t.group,t.weight,t.cpu] [aH (t.id-qo s.st.ts k),aH t.group,aH t.weight,aH t.cpu] _ rfl (b.aX (i:=0) (n:=4) (size:=1) rfl rfl) de rfl)) λU V W K=>?_
  have C: [aH (t.id-qo s.st.ts k),aH t.group,aH t.weight,aH t.cpu].length=4:=rfl
  refine (JD ([aH (t.id-qo s.st.ts k),aH t.group,aH t.weight,aH t.cpu].map bq) 3 (λ_ _=>qD) kK (hr:=by exact λb=>b.rd (i:=0) rfl) (h1:=by exact uL _)) λX D E l=>(Jp 1∘aG∘Jq) ?_
  have c:abl q+([aH (t.id-qo s.st.ts k),aH t.group,aH t.weight,aH t.cpu].length)=abl (q++[aH (t.id-qo s.st.ts k),aH t.group,aH t.weight,aH t.cpu]):=nk rfl
  rw [c] at l
  refine (JC (h:=by exact λb=>b.aY (i:=3) (ys:=(q++[aH (t.id-qo s.st.ts k),aH t.group,aH t.weight,aH t.cpu]).map bq) rfl c (List.map_append.symm))∘Jk 3 (.slice D (abl (q++[aH (t.id-qo s.st.ts k),aH t.group,aH t.weight,aH t.cpu])) E) (h:=by exact iy c)∘JG∘JP∘Jp 1∘Jg 4 O2∘Jp 1∘Jg 6 O2∘Jg 7 O2∘Jw .u64∘JU kK #[vQ t.mask,vQ 0,vQ t.v,vQ t.r]) λY g47=>(JD ([t.mask,0,t.v,t.r].map bq) 4 (λ_ _=>rW) kK (hr:=by exact λb=>b.aX (i:=0) (n:=4) (size:=1) rfl rfl) (h1:=by exact uL _)) λC9 o p e=>(Jp 1∘aG∘Jq) ?_
  have d:(abl (q++[aH (t.id-qo s.st.ts k),aH t.group,aH t.weight,aH t.cpu]))+4=abl ((q++[aH (t.id-qo s.st.ts k),aH t.group,aH t.weight,aH t.cpu])++[t.mask,0,t.v,t.r]):=nk rfl
  rw [d] at e
  refine (JC (h:=by exact λb=>b.aY (i:=4) (ys:=((q++[aH (t.id-qo s.st.ts k),aH t.group,aH t.weight,aH t.cpu])++[t.mask,0,t.v,t.r]).map bq) rfl d (List.map_append.symm))∘Jk 3 (.slice o (abl ((q++[aH (t.id-qo s.st.ts k),aH t.group,aH t.weight,aH t.cpu])++[t.mask,0,t.v,t.r])) p) (h:=by exact iy d)∘JG∘JR∘Jf 0∘Jc O3∘Jo (vI (qo s.st.ts (k+1))) (by rw [Fv,ht])∘Jp 1∘bH∘Jj∘JR∘bT 1∘Jp 1∘aK∘Jq) λa Z b=>?_
  replace Z:=Z.sp 16 (abh s.st.tA s.st.ts s.st.tc) rfl (by rw [u])
  exact ⟨_,om,k+1,(q++[aH (t.id-qo s.st.ts k),aH t.group,aH t.weight,aH t.cpu]++[t.mask,0,t.v,t.r]),o,p,by omega,by rw [Fv,ht];omega,by rw [P,qz,ht,Fx j,aby,aby],by (simp only [abn,ab1,adL];omega),e,rfl,Z.sub kr,b.pk [4,5,6]⟩
 exact (JF∘JX∘JG∘JP∘Jp 2∘aK∘Jj∘JZ∘aZ) λb=>zF (by rw [P,show k=abl s.st.ts by omega];try rfl) (b.own (i:=0) rfl) Q b.below
def qz7 (s:cO) (Q:s.st.av.Ok) (hf:bN s.st) (w:World) (R:dZ w s.st) (hc:eP s.st) (F:ShAt s.st):
    Calls abm 236 #[.agg s.cells] w (wO w (aF s 6)):=by
 have hrl:=hf.s
 obtain ⟨hc1,hc2,_,_⟩:=lX F.cfg
 refine (dV Tryz.func236 41) ?_
 refine (JP∘JE) λw1 g1=>(Jp 1∘Jr∘Jp 1∘Jq∘JC (h:=by exact λb=>b.nil 41 1)∘JG∘JQ∘JP∘Jf 1∘Jg 6 O1∘Jl∘Jp 1∘Jj∘JB) λa Z b=>?_
 refine qg (λG S T=>∃(g:Nat) (q:List Nat) (p:Option Addr) (co:Nat),(g≤abl s.st.rs)∧(q=dS g λi=>ni i (s.st.rs.getD i Rw.zero).l)∧(abl q≤192*g)∧(abl q≤co)∧G=abl s.st.rs-g∧Fr S 41 [] [(12,vI g),(11,vI (abl s.st.rs)),(10,abh s.st.sA s.st.rs s.st.sc),(3,abh p q co),(2,vN)]∧Mem w T [abj p q co bq 41 1,.blk g1 s.cells 50]) (m:=abl s.st.rs-0) ⟨0,[],none,0,abw _,rfl,abq _,abq _,rfl,Z.sub kr,b.pk [0,1]⟩ ?_
 clear Z b;rintro G a w_ ⟨g,q,p,co,hg,E,U,t,rfl,Z,b⟩
 refine Jb Z b ((JP∘Jp 1∘Jj∘JQ) (Ji (λH=>?_) λH=>?_))
 ·
  have e:g<abl s.st.rs:=by omega
  obtain ⟨y,I⟩:∃z,s.st.rs.getD g Rw.zero=z:=⟨_,rfl⟩
  have J:Rd w w.heap.size 3 y.A (abl y.l) (y.l.flatMap iQ):=by rw [←I];exact R.row e
  have hyl:(abl y.l:Int)=s.st.ak:=by rw [←I];exact (Bj e (F.row g e)).1
  have V:∀z∈y.l,z.Ok:=by rw [←I,←jR e];exact Q.sp _ (qe [] (by rw [kQ];exact e))
  refine (JT∘aD∘JQ∘JB∘JP∘Jp 1) ?_
  obtain ⟨K,L,D,_⟩:=Rd.sat R.s g
  have x:=R.s;rw [D] at x
  refine (Jk 10 (.slice (some ⟨K,L,none⟩) (abl s.st.rs) s.st.sc) (h:=by rw [D];try rfl)∘gV g 1∘Jy (v:= .slice ((s.st.rs.getD g Rw.zero).A) ((s.st.rs.getD g Rw.zero).l.length) ((s.st.rs.getD g Rw.zero).c)) (h:=by exact aad x g Rw.zero e rfl rfl)∘Jo (.slice y.A (abl y.l) y.c) (by rw [I])∘Jp 2∘Jr∘Jp 1∘Jl∘Jp 1∘Jj∘JB) λa Z b=>?_
  refine qg (λG S T=>∃(c:Nat) (q:List Nat) (p:Option Addr) (co:Nat),(c≤abl y.l)∧(q=(dS g λi=>ni i (s.st.rs.getD i Rw.zero).l)++dS c λi=>mJ g (y.l.getD i Sp.zero))∧(abl q≤192*g+3*c)∧(abl q≤co)∧G=abl y.l-c∧Fr S 41 [] [(19,vI c),(18,vI (abl y.l)),(17,abh y.A y.l y.c),(5,abh y.A y.l y.c),(4,vI g),(10,abh (some ⟨K,L,none⟩) s.st.rs s.st.sc),(13,.bool true),(12,vI g),(11,vI (abl s.st.rs)),(3,abh p q co),(2,vN)]∧Mem w T [abj p q co bq 41 1,.blk g1 s.cells 50]) (m:=abl y.l-0) ⟨0,q,p,co,abw _,by rw [E,Bn,abU],by omega,t,rfl,Z.sub kr,b.pk [0,1]⟩ ?_
  clear Z b;rintro G a w_ ⟨c,q,p,co,hc,E,U,t,rfl,Z,b⟩
  refine Jb Z b ((JP∘Jp 1∘Jj∘JQ) (Ji (λM=>?_) λM=>?_))
  ·
   have B:c<abl y.l:=by omega
   obtain ⟨z,hz⟩:∃q,(y.l.getD c Sp.zero)=q:=⟨_,rfl⟩
   have N:=V _ (qe Sp.zero B)
   rw [hz] at N
   have hzr:=N.r
   refine (JT∘aD∘JQ∘JB∘JP) ?_
   obtain ⟨W,X,u,_⟩:=Rd.sat J c
   have C:=J;rw [u] at C
   refine (Jk 17 (.slice (some ⟨W,X,none⟩) (abl y.l) y.c) (h:=by rw [u];try rfl)∘gV c 3∘oK Sp.cells Bf C nI c Sp.zero (hk:=B)∘Jo (.agg z.cells) (by rw [hz])∘JA #[vQ 0,vW 0,vQ 0]) λw7 g7=>(JV nI aT (h1:=by exact Xc z)) λanM=>(bH∘Jj∘JQ∘JP∘Jp 2∘aK∘Jj) (Ji (λO=>?_) λO=>?_)
   ·
    refine (JT∘JR∘Jp 1∘Jg 0 O0∘Jg 1 O0∘Jw .u64∘JU kK #[vQ z.v,vQ z.r]) λKz g31=>(JD ([z.v,z.r].map bq) 2 (λ_ _=>iM) kK (hr:=by exact λb=>b.aX (i:=0) (n:=2) (size:=1) rfl rfl) (h1:=by exact uL _)) λw32 Y c32 P=>(Jp 1∘aG∘Jq) ?_
    have j:abl q+2=abl (q++[z.v,z.r]):=nk rfl
    rw [j] at P
    refine (JC (h:=by exact λb=>b.aY (i:=2) (ys:=(q++[z.v,z.r]).map bq) rfl j (List.map_append.symm))∘Jk 3 (.slice Y (abl (q++[z.v,z.r])) c32) (h:=by exact iy j)∘JG∘JR∘Jp 1∘Jg 2 O1∘JU kK #[vQ z.floor]) λw36 g36=>(JD ([z.floor].map bq) 3 (λ_ _=>qD) kK (hr:=by exact λb=>b.aX (i:=0) (n:=1) (size:=1) rfl rfl) (h1:=by exact uL _)) λDc k o f=>(Jp 1∘gu∘Jq) ?_
    have d:(abl (q++[z.v,z.r]))+1=abl ((q++[z.v,z.r])++[z.floor]):=nk rfl
    rw [d] at f
    refine (JC (h:=by exact λb=>b.aY (i:=3) (ys:=((q++[z.v,z.r])++[z.floor]).map bq) rfl d (List.map_append.symm))∘Jk 3 (.slice k (abl ((q++[z.v,z.r])++[z.floor])) o) (h:=by exact iy d)∘JG∘JR∘bT 1∘Jp 1∘aK∘Jq) λa Z b=>?_
    replace Z:=Z.sp 17 (abh y.A y.l y.c) rfl (by rw [u])
    exact ⟨_,om,c+1,((q++[z.v,z.r])++[z.floor]),k,o,by omega,by rw [E,qz,hz,OH om];simp only [aby],by (simp only [abn,ab1,adL];omega),f,rfl,Z.sub kr,b.pk [3,4]⟩
   refine (JF∘aD∘JR∘Jp 1∘Jg 2 O0∘JU kK #[vQ z.floor]) λw36 g36=>(JD ([z.floor].map bq) 2 (λ_ _=>iM) kK (hr:=by exact λb=>b.aX (i:=0) (n:=1) (size:=1) rfl rfl) (h1:=by exact uL _)) λDc k o f=>(Jp 1∘gu∘Jq) ?_
   have d:abl q+1=abl (q++[z.floor]):=nk rfl
   rw [d] at f
   refine (JC (h:=by exact λb=>b.aY (i:=2) (ys:=(q++[z.floor]).map bq) rfl d (List.map_append.symm))∘Jk 3 (.slice k (abl (q++[z.floor])) o) (h:=by exact iy d)∘JG∘JR∘bT 1∘Jp 1∘aK∘Jq) λa Z b=>?_
   replace Z:=Z.sp 17 (abh y.A y.l y.c) rfl (by rw [u])
   exact ⟨_,om,c+1,(q++[z.floor]),k,o,by omega,by rw [E,qz,hz,KP om,aby],by (simp only [abn,ab1,adL];omega),f,rfl,Z.sub kr,b.pk [2,3]⟩
  refine (JF∘JX∘JG∘JR∘bT 1∘Jp 1∘aK∘Jq) λa Z b=>?_
  replace Z:=Z.sp 10 (abh s.st.sA s.st.rs s.st.sc) rfl (by rw [D])
  exact ⟨_,om,g+1,q,p,co,by omega,by rw [E,show c=abl y.l by omega,qz,I];rfl,by omega,t,rfl,Z.sub kr,b.pk [0,1]⟩
 exact (JF∘JX∘JG∘JP∘Jp 2∘aK∘Jj∘JZ∘aZ) λb=>zF (by rw [E,show g=abl s.st.rs by omega];try rfl) (b.own (i:=0) rfl) t b.below
def rE:SI abm 362 2:=⟨by kernel_rfl,by kernel_rfl⟩
def zgo:EI abm 363 362 (.agg #[.string (abt #[]),.nilFunc]) 2 24:=⟨by kernel_rfl,by kernel_rfl,rfl,by omega⟩
def qv (s:cO):Array Value:= #[.string (abt #[110,101,120,116]),.func (.func 230) #[.agg s.cells] #[],.string (abt #[99,111,110,102,105,103]),.func (.func 231) #[.agg s.cells] #[],.string (abt #[103,114,111,117,112,115]),.func (.func 232) #[.agg s.cells] #[],.string (abt #[99,108,111,99,107,115]),.func (.func 233) #[.agg s.cells] #[],.string (abt #[99,117,114,114,101,110,116]),.func (.func 234) #[.agg s.cells] #[],.string (abt #[116,97,115,107,115]),.func (.func 235) #[.agg s.cells] #[],.string (abt #[115,112,111,116,115]),.func (.func 236) #[.agg s.cells] #[]]
def qw7 (P:Program) (W:World) (a:Nat) (s:cO) (Inv:Nat→List Fact→Prop):Prop:=
 ∀(i:Nat) (F fr:List Fact) (w:World) (A:Option Addr) (c:Nat),Inv i F→i<7→abl (aF s i)≤c→Mem W w (.row (.slice A (abl (aF s i)) c) (abl (aF s i)) ((aF s i).map bq) 41 1::(F++fr))→YieldAt ab8 0 P a #[.string (qb i),.slice A (abl (aF s i)) c] w (Ov W fr (Inv (i+1)))
def q56 (s:cO) (w:World):
    Calls abm 166 #[.agg s.cells] w λr e=>∃d gp,r= .returned (.func (.func 237) #[] #[vP d 0])∧Mem w e [.blk d #[.slice (some ⟨gp,0,none⟩) 7 7] 363,.blk gp (qv s) 362]:=by
 refine (dV Tryz.func166 27) ?_
 refine (JP∘JE) λj k=>(Jp 1∘Jr∘d9 zn O0∘Jy (h:=by exact Yl.makeFunc (fst:=[.agg s.cells]) (caps:=[]) rfl rfl rfl)∘fu #[.string (abt #[110,101,120,116]),.func (.func 230) #[.agg s.cells] #[]]∘d9 zn O0∘Jy (h:=by exact Yl.makeFunc (fst:=[.agg s.cells]) (caps:=[]) rfl rfl rfl)∘fu #[.string (abt #[99,111,110,102,105,103]),.func (.func 231) #[.agg s.cells] #[]]∘d9 zn O0∘Jy (h:=by exact Yl.makeFunc (fst:=[.agg s.cells]) (caps:=[]) rfl rfl rfl)∘fu #[.string (abt #[103,114,111,117,112,115]),.func (.func 232) #[.agg s.cells] #[]]∘d9 zn O0∘Jy (h:=by exact Yl.makeFunc (fst:=[.agg s.cells]) (caps:=[]) rfl rfl rfl)∘fu #[.string (abt #[99,108,111,99,107,115]),.func (.func 233) #[.agg s.cells] #[]]∘d9 zn O0∘Jy (h:=by exact Yl.makeFunc (fst:=[.agg s.cells]) (caps:=[]) rfl rfl rfl)∘fu #[.string (abt #[99,117,114,114,101,110,116]),.func (.func 234) #[.agg s.cells] #[]]∘d9 zn O0∘Jy (h:=by exact Yl.makeFunc (fst:=[.agg s.cells]) (caps:=[]) rfl rfl rfl)∘fu #[.string (abt #[116,97,115,107,115]),.func (.func 235) #[.agg s.cells] #[]]∘d9 zn O0∘Jy (h:=by exact Yl.makeFunc (fst:=[.agg s.cells]) (caps:=[]) rfl rfl rfl)∘fu #[.string (abt #[115,112,111,116,115]),.func (.func 236) #[.agg s.cells] #[]]) λa Z b=>?_
 refine fo Z 21 rfl rfl (iT Z b zgo [(0,.agg #[.string (abt #[110,101,120,116]),.func (.func 230) #[.agg s.cells] #[]]),(1,.agg #[.string (abt #[99,111,110,102,105,103]),.func (.func 231) #[.agg s.cells] #[]]),(2,.agg #[.string (abt #[103,114,111,117,112,115]),.func (.func 232) #[.agg s.cells] #[]]),(3,.agg #[.string (abt #[99,108,111,99,107,115]),.func (.func 233) #[.agg s.cells] #[]]),(4,.agg #[.string (abt #[99,117,114,114,101,110,116]),.func (.func 234) #[.agg s.cells] #[]]),(5,.agg #[.string (abt #[116,97,115,107,115]),.func (.func 235) #[.agg s.cells] #[]]),(6,.agg #[.string (abt #[115,112,111,116,115]),.func (.func 236) #[.agg s.cells] #[]])] (qv s) ?_)
 clear Z b;intro a f g Z b
 exact Jb Z b ((JA #[vN]) λl i=>(JW aT aT) λc=>(aG∘Jr∘Jy (h:=by exact Yl.makeFunc (fst:=[]) (caps:=[vP i 0]) rfl rfl rfl)∘Jp 1∘aK∘Jj∘JZ∘aZ) λb=>by exact ⟨_,_,rfl,b.pk [0,1]⟩)
def qz8 (W w:World) (g gp u:Nat) (s:cO) (x:s.st.av.Ok) (C:bN s.st) (D:dZ W s.st) (hc:eP s.st) (E:ShAt s.st) (Inv:Nat→List Fact→Prop) (H:List Fact) (hy:qw7 abm W u s Inv) (I:Inv 0 H) (b:Mem W w (.blk g #[.slice (some ⟨gp,0,none⟩) 7 7] 363:: .blk gp (qv s) 362::H)):
    Calls abm 237 (.func (.yield u) #[] #[]:: [vP g 0]).toArray w (q22 W (Inv 7)):=by
 refine qC Tryz.func237 [.func (.yield u) #[] #[],vP g 0] [(0,.func (.yield u) #[] #[]),(1,vP g 0)] λa Z=>?_
 refine Jb Z b ((JP∘Jc O0∘Jl∘Jp 1∘Jj∘JB) λa Z b=>?_)
 refine qg (λK L M=>∃(k:Nat) (F:List Fact),(k≤7)∧(Inv k F)∧K=7-k∧Fr L 20 [] [(7,vI k),(6,vI 7),(5,vS gp 7 7),(0,.func (.yield u) #[] #[])]∧Mem W M (.blk g #[vS gp 7 7] 363:: .blk gp (qv s) 362::F)) (m:=7-0) ⟨0,H,by decide,I,rfl,Z.sub kr,b.pt 2 [0,1]⟩ ?_
 clear Z b;rintro K a N ⟨k,F,O,B,rfl,Z,b⟩
 refine Jb Z b ((JP∘Jp 1∘Jj∘JQ) (Ji (λJ=>?_) λJ=>?_))
 ·
  repeat (first|clear Z|clear b)
  intro a Z b
  obtain rfl|rfl|rfl|rfl|rfl|rfl|rfl:k=0∨k=1∨k=2∨k=3∨k=4∨k=5∨k=6:=by omega
  ·
   replace Z:=Z.sp 7 (vI 0) rfl rfl
   refine Jb Z b ((JT∘aD∘JQ∘JB∘JP∘Jy (v:=vP gp 0) (h:=by exact Yl.indexAddr (ad:=⟨gp,0,none⟩) (y:=0) (sz:=2) rfl rfl rfl de kr)∘Jy (v:= .agg #[.string (abt #[110,101,120,116]),.func (.func 230) #[.agg s.cells] #[]]) (h:=by exact Pe rfl rfl rE rfl (λ_ h=>h.sub (i:=1) rfl 0 rfl))∘JA #[.string (abt #[]),.nilFunc]) λG c=>(JV rE aT) λr=>(bH∘Jj) λa Z b=>?_)
   refine wp_seq ?_
   refine Cg 6 b (.blk c #[.string (abt #[110,101,120,116]),.func (.func 230) #[.agg s.cells] #[]] 362:: .blk g #[vS gp 7 7] 363:: .blk gp (qv s) 362::F) 3 [0,1,2] [] λb l=>?_
   refine ap Z (λ_=>l) [0,1,3] (bf 6 [0,1,3]) [(14,vP c 1),(12,vP c 0),(11,.func (.yield u) #[] #[])] λa Z=>?_
   refine dO Z l 2 0 λa Z=>?_
   refine dO Z l 4 0 λa Z=>?_
   refine s_on Z 5 rfl ?_
   refine mU Z (f:=230) (vs:=[]) (fst:=[.agg s.cells]) (caps:=[]) rfl rfl rfl kr rfl de (q55 s x C _ (D.old b)) ?_
   rintro _ z ⟨⟨d,e,rfl,A,j⟩,n⟩
   refine ⟨_,rfl,?_⟩
   replace b:=b.bL n A
   clear Z;intro a Z
   refine ay (b.pt 4 [1,2,3]) (λl=>?_)
   refine qd kr ?_
   replace b:=b.pt (fs':=(abj d (aF s 0) e bq 41 1:: .blk c #[.string (abt #[110,101,120,116]),.func (.func 230) #[.agg s.cells] #[]] 362:: .blk g #[vS gp 7 7] 363:: .blk gp (qv s) 362::F)) 4 [0,1,2,3]
   refine wG Z (i:=6) (vs:=[.string (abt #[110,101,120,116]),abh d (aF s 0) e]) rfl rfl rfl rfl rfl rfl de (hy 0 F [.blk c #[.string (abt #[110,101,120,116]),.func (.func 230) #[.agg s.cells] #[]] 362,.blk g #[vS gp 7 7] 363,.blk gp (qv s) 362] _ d e B om j (aam (es:=[.blk c #[.string (abt #[110,101,120,116]),.func (.func 230) #[.agg s.cells] #[]] 362,.blk g #[vS gp 7 7] 363,.blk gp (qv s) 362]) b)) zg ?_
   clear Z b;rintro v o a ⟨t,b,p,q⟩ Z;injection p with p;subst p
   replace b:Mem W o (.blk c #[.string (abt #[110,101,120,116]),.func (.func 230) #[.agg s.cells] #[]] 362:: .blk g #[vS gp 7 7] 363:: .blk gp (qv s) 362::t):=aai (es:=[.blk c #[.string (abt #[110,101,120,116]),.func (.func 230) #[.agg s.cells] #[]] 362,.blk g #[vS gp 7 7] 363,.blk gp (qv s) 362]) b
   replace Z:=Z.to [(17,.bool true),(7,vI 0),(6,vI 7),(5,vS gp 7 7),(0,.func (.yield u) #[] #[])]
   refine Jb Z b ((Jp 1∘aK∘Jq∘JF∘aD∘JR∘Jv 2 [(7,vI 1)]∘Jq) λa Z b=>?_)
   exact ⟨_,om,1,t,by omega,q,rfl,Z.sub kr,b.pt 3 [1,2]⟩
  ·
   replace Z:=Z.sp 7 (vI 1) rfl rfl
   refine Jb Z b ((JT∘aD∘JQ∘JB∘JP∘Jy (v:=vP gp 2) (h:=by exact Yl.indexAddr (ad:=⟨gp,0,none⟩) (y:=1) (sz:=2) rfl rfl rfl de kr)∘Jy (v:= .agg #[.string (abt #[99,111,110,102,105,103]),.func (.func 231) #[.agg s.cells] #[]]) (h:=by exact Pe rfl rfl rE rfl (λ_ h=>h.sub (i:=1) rfl 2 rfl))∘JA #[.string (abt #[]),.nilFunc]) λG c=>(JV rE aT) λr=>(bH∘Jj) λa Z b=>?_)
   refine wp_seq ?_
   refine Cg 6 b (.blk c #[.string (abt #[99,111,110,102,105,103]),.func (.func 231) #[.agg s.cells] #[]] 362:: .blk g #[vS gp 7 7] 363:: .blk gp (qv s) 362::F) 3 [0,1,2] [] λb l=>?_
   refine ap Z (λ_=>l) [0,1,3] (bf 6 [0,1,3]) [(14,vP c 1),(12,vP c 0),(11,.func (.yield u) #[] #[])] λa Z=>?_
   refine dO Z l 2 0 λa Z=>?_
   refine dO Z l 4 0 λa Z=>?_
   refine s_on Z 5 rfl ?_
   refine mU Z (f:=231) (vs:=[]) (fst:=[.agg s.cells]) (caps:=[]) rfl rfl rfl kr rfl de (qur s x C _ (D.old b)) ?_
   rintro _ z ⟨⟨d,e,rfl,A,j⟩,n⟩
   refine ⟨_,rfl,?_⟩
   replace b:=b.bL n A
   clear Z;intro a Z
   refine ay (b.pt 4 [1,2,3]) (λl=>?_)
   refine qd kr ?_
   replace b:=b.pt (fs':=(abj d (aF s 1) e bq 41 1:: .blk c #[.string (abt #[99,111,110,102,105,103]),.func (.func 231) #[.agg s.cells] #[]] 362:: .blk g #[vS gp 7 7] 363:: .blk gp (qv s) 362::F)) 4 [0,1,2,3]
   refine wG Z (i:=6) (vs:=[.string (abt #[99,111,110,102,105,103]),abh d (aF s 1) e]) rfl rfl rfl rfl rfl rfl de (hy 1 F [.blk c #[.string (abt #[99,111,110,102,105,103]),.func (.func 231) #[.agg s.cells] #[]] 362,.blk g #[vS gp 7 7] 363,.blk gp (qv s) 362] _ d e B om j (aam (es:=[.blk c #[.string (abt #[99,111,110,102,105,103]),.func (.func 231) #[.agg s.cells] #[]] 362,.blk g #[vS gp 7 7] 363,.blk gp (qv s) 362]) b)) zg ?_
   clear Z b;rintro v o a ⟨t,b,p,q⟩ Z;injection p with p;subst p
   replace b:Mem W o (.blk c #[.string (abt #[99,111,110,102,105,103]),.func (.func 231) #[.agg s.cells] #[]] 362:: .blk g #[vS gp 7 7] 363:: .blk gp (qv s) 362::t):=aai (es:=[.blk c #[.string (abt #[99,111,110,102,105,103]),.func (.func 231) #[.agg s.cells] #[]] 362,.blk g #[vS gp 7 7] 363,.blk gp (qv s) 362]) b
   replace Z:=Z.to [(17,.bool true),(7,vI 1),(6,vI 7),(5,vS gp 7 7),(0,.func (.yield u) #[] #[])]
   refine Jb Z b ((Jp 1∘aK∘Jq∘JF∘aD∘JR∘Jv 2 [(7,vI 2)]∘Jq) λa Z b=>?_)
   exact ⟨_,om,2,t,by omega,q,rfl,Z.sub kr,b.pt 3 [1,2]⟩
  ·
   replace Z:=Z.sp 7 (vI 2) rfl rfl
   refine Jb Z b ((JT∘aD∘JQ∘JB∘JP∘Jy (v:=vP gp 4) (h:=by exact Yl.indexAddr (ad:=⟨gp,0,none⟩) (y:=2) (sz:=2) rfl rfl rfl de kr)∘Jy (v:= .agg #[.string (abt #[103,114,111,117,112,115]),.func (.func 232) #[.agg s.cells] #[]]) (h:=by exact Pe rfl rfl rE rfl (λ_ h=>h.sub (i:=1) rfl 4 rfl))∘JA #[.string (abt #[]),.nilFunc]) λG c=>(JV rE aT) λr=>(bH∘Jj) λa Z b=>?_)
   refine wp_seq ?_
   refine Cg 6 b (.blk c #[.string (abt #[103,114,111,117,112,115]),.func (.func 232) #[.agg s.cells] #[]] 362:: .blk g #[vS gp 7 7] 363:: .blk gp (qv s) 362::F) 3 [0,1,2] [] λb l=>?_
   refine ap Z (λ_=>l) [0,1,3] (bf 6 [0,1,3]) [(14,vP c 1),(12,vP c 0),(11,.func (.yield u) #[] #[])] λa Z=>?_
   refine dO Z l 2 0 λa Z=>?_
   refine dO Z l 4 0 λa Z=>?_
   refine s_on Z 5 rfl ?_
   refine mU Z (f:=232) (vs:=[]) (fst:=[.agg s.cells]) (caps:=[]) rfl rfl rfl kr rfl de (qut s x C _ (D.old b) hc E) ?_
   rintro _ z ⟨⟨d,e,rfl,A,j⟩,n⟩
   refine ⟨_,rfl,?_⟩
   replace b:=b.bL n A
   clear Z;intro a Z
   refine ay (b.pt 4 [1,2,3]) (λl=>?_)
   refine qd kr ?_
   replace b:=b.pt (fs':=(abj d (aF s 2) e bq 41 1:: .blk c #[.string (abt #[103,114,111,117,112,115]),.func (.func 232) #[.agg s.cells] #[]] 362:: .blk g #[vS gp 7 7] 363:: .blk gp (qv s) 362::F)) 4 [0,1,2,3]
   refine wG Z (i:=6) (vs:=[.string (abt #[103,114,111,117,112,115]),abh d (aF s 2) e]) rfl rfl rfl rfl rfl rfl de (hy 2 F [.blk c #[.string (abt #[103,114,111,117,112,115]),.func (.func 232) #[.agg s.cells] #[]] 362,.blk g #[vS gp 7 7] 363,.blk gp (qv s) 362] _ d e B om j (aam (es:=[.blk c #[.string (abt #[103,114,111,117,112,115]),.func (.func 232) #[.agg s.cells] #[]] 362,.blk g #[vS gp 7 7] 363,.blk gp (qv s) 362]) b)) zg ?_
   clear Z b;rintro v o a ⟨t,b,p,q⟩ Z;injection p with p;subst p
   replace b:Mem W o (.blk c #[.string (abt #[103,114,111,117,112,115]),.func (.func 232) #[.agg s.cells] #[]] 362:: .blk g #[vS gp 7 7] 363:: .blk gp (qv s) 362::t):=aai (es:=[.blk c #[.string (abt #[103,114,111,117,112,115]),.func (.func 232) #[.agg s.cells] #[]] 362,.blk g #[vS gp 7 7] 363,.blk gp (qv s) 362]) b
   replace Z:=Z.to [(17,.bool true),(7,vI 2),(6,vI 7),(5,vS gp 7 7),(0,.func (.yield u) #[] #[])]
   refine Jb Z b ((Jp 1∘aK∘Jq∘JF∘aD∘JR∘Jv 2 [(7,vI 3)]∘Jq) λa Z b=>?_)
   exact ⟨_,om,3,t,by omega,q,rfl,Z.sub kr,b.pt 3 [1,2]⟩
  ·
   replace Z:=Z.sp 7 (vI 3) rfl rfl
   refine Jb Z b ((JT∘aD∘JQ∘JB∘JP∘Jy (v:=vP gp 6) (h:=by exact Yl.indexAddr (ad:=⟨gp,0,none⟩) (y:=3) (sz:=2) rfl rfl rfl de kr)∘Jy (v:= .agg #[.string (abt #[99,108,111,99,107,115]),.func (.func 233) #[.agg s.cells] #[]]) (h:=by exact Pe rfl rfl rE rfl (λ_ h=>h.sub (i:=1) rfl 6 rfl))∘JA #[.string (abt #[]),.nilFunc]) λG c=>(JV rE aT) λr=>(bH∘Jj) λa Z b=>?_)
   refine wp_seq ?_
   refine Cg 6 b (.blk c #[.string (abt #[99,108,111,99,107,115]),.func (.func 233) #[.agg s.cells] #[]] 362:: .blk g #[vS gp 7 7] 363:: .blk gp (qv s) 362::F) 3 [0,1,2] [] λb l=>?_
   refine ap Z (λ_=>l) [0,1,3] (bf 6 [0,1,3]) [(14,vP c 1),(12,vP c 0),(11,.func (.yield u) #[] #[])] λa Z=>?_
   refine dO Z l 2 0 λa Z=>?_
   refine dO Z l 4 0 λa Z=>?_
   refine s_on Z 5 rfl ?_
   refine mU Z (f:=233) (vs:=[]) (fst:=[.agg s.cells]) (caps:=[]) rfl rfl rfl kr rfl de (qus s x C _ (D.old b)) ?_
   rintro _ z ⟨⟨d,e,rfl,A,j⟩,n⟩
   refine ⟨_,rfl,?_⟩
   replace b:=b.bL n A
   clear Z;intro a Z
   refine ay (b.pt 4 [1,2,3]) (λl=>?_)
   refine qd kr ?_
   replace b:=b.pt (fs':=(abj d (aF s 3) e bq 41 1:: .blk c #[.string (abt #[99,108,111,99,107,115]),.func (.func 233) #[.agg s.cells] #[]] 362:: .blk g #[vS gp 7 7] 363:: .blk gp (qv s) 362::F)) 4 [0,1,2,3]
   refine wG Z (i:=6) (vs:=[.string (abt #[99,108,111,99,107,115]),abh d (aF s 3) e]) rfl rfl rfl rfl rfl rfl de (hy 3 F [.blk c #[.string (abt #[99,108,111,99,107,115]),.func (.func 233) #[.agg s.cells] #[]] 362,.blk g #[vS gp 7 7] 363,.blk gp (qv s) 362] _ d e B om j (aam (es:=[.blk c #[.string (abt #[99,108,111,99,107,115]),.func (.func 233) #[.agg s.cells] #[]] 362,.blk g #[vS gp 7 7] 363,.blk gp (qv s) 362]) b)) zg ?_
   clear Z b;rintro v o a ⟨t,b,p,q⟩ Z;injection p with p;subst p
   replace b:Mem W o (.blk c #[.string (abt #[99,108,111,99,107,115]),.func (.func 233) #[.agg s.cells] #[]] 362:: .blk g #[vS gp 7 7] 363:: .blk gp (qv s) 362::t):=aai (es:=[.blk c #[.string (abt #[99,108,111,99,107,115]),.func (.func 233) #[.agg s.cells] #[]] 362,.blk g #[vS gp 7 7] 363,.blk gp (qv s) 362]) b
   replace Z:=Z.to [(17,.bool true),(7,vI 3),(6,vI 7),(5,vS gp 7 7),(0,.func (.yield u) #[] #[])]
   refine Jb Z b ((Jp 1∘aK∘Jq∘JF∘aD∘JR∘Jv 2 [(7,vI 4)]∘Jq) λa Z b=>?_)
   exact ⟨_,om,4,t,by omega,q,rfl,Z.sub kr,b.pt 3 [1,2]⟩
  ·
   replace Z:=Z.sp 7 (vI 4) rfl rfl
   refine Jb Z b ((JT∘aD∘JQ∘JB∘JP∘Jy (v:=vP gp 8) (h:=by exact Yl.indexAddr (ad:=⟨gp,0,none⟩) (y:=4) (sz:=2) rfl rfl rfl de kr)∘Jy (v:= .agg #[.string (abt #[99,117,114,114,101,110,116]),.func (.func 234) #[.agg s.cells] #[]]) (h:=by exact Pe rfl rfl rE rfl (λ_ h=>h.sub (i:=1) rfl 8 rfl))∘JA #[.string (abt #[]),.nilFunc]) λG c=>(JV rE aT) λr=>(bH∘Jj) λa Z b=>?_)
   refine wp_seq ?_
   refine Cg 6 b (.blk c #[.string (abt #[99,117,114,114,101,110,116]),.func (.func 234) #[.agg s.cells] #[]] 362:: .blk g #[vS gp 7 7] 363:: .blk gp (qv s) 362::F) 3 [0,1,2] [] λb l=>?_
   refine ap Z (λ_=>l) [0,1,3] (bf 6 [0,1,3]) [(14,vP c 1),(12,vP c 0),(11,.func (.yield u) #[] #[])] λa Z=>?_
   refine dO Z l 2 0 λa Z=>?_
   refine dO Z l 4 0 λa Z=>?_
   refine s_on Z 5 rfl ?_
   refine mU Z (f:=234) (vs:=[]) (fst:=[.agg s.cells]) (caps:=[]) rfl rfl rfl kr rfl de (qry s x C _ (D.old b)) ?_
   rintro _ z ⟨⟨d,e,rfl,A,j⟩,n⟩
   refine ⟨_,rfl,?_⟩
   replace b:=b.bL n A
   clear Z;intro a Z
   refine ay (b.pt 4 [1,2,3]) (λl=>?_)
   refine qd kr ?_
   replace b:=b.pt (fs':=(abj d (aF s 4) e bq 41 1:: .blk c #[.string (abt #[99,117,114,114,101,110,116]),.func (.func 234) #[.agg s.cells] #[]] 362:: .blk g #[vS gp 7 7] 363:: .blk gp (qv s) 362::F)) 4 [0,1,2,3]
   refine wG Z (i:=6) (vs:=[.string (abt #[99,117,114,114,101,110,116]),abh d (aF s 4) e]) rfl rfl rfl rfl rfl rfl de (hy 4 F [.blk c #[.string (abt #[99,117,114,114,101,110,116]),.func (.func 234) #[.agg s.cells] #[]] 362,.blk g #[vS gp 7 7] 363,.blk gp (qv s) 362] _ d e B om j (aam (es:=[.blk c #[.string (abt #[99,117,114,114,101,110,116]),.func (.func 234) #[.agg s.cells] #[]] 362,.blk g #[vS gp 7 7] 363,.blk gp (qv s) 362]) b)) zg ?_
   clear Z b;rintro v o a ⟨t,b,p,q⟩ Z;injection p with p;subst p
   replace b:Mem W o (.blk c #[.string (abt #[99,117,114,114,101,110,116]),.func (.func 234) #[.agg s.cells] #[]] 362:: .blk g #[vS gp 7 7] 363:: .blk gp (qv s) 362::t):=aai (es:=[.blk c #[.string (abt #[99,117,114,114,101,110,116]),.func (.func 234) #[.agg s.cells] #[]] 362,.blk g #[vS gp 7 7] 363,.blk gp (qv s) 362]) b
   replace Z:=Z.to [(17,.bool true),(7,vI 4),(6,vI 7),(5,vS gp 7 7),(0,.func (.yield u) #[] #[])]
   refine Jb Z b ((Jp 1∘aK∘Jq∘JF∘aD∘JR∘Jv 2 [(7,vI 5)]∘Jq) λa Z b=>?_)
   exact ⟨_,om,5,t,by omega,q,rfl,Z.sub kr,b.pt 3 [1,2]⟩
  ·
   replace Z:=Z.sp 7 (vI 5) rfl rfl
   refine Jb Z b ((JT∘aD∘JQ∘JB∘JP∘Jy (v:=vP gp 10) (h:=by exact Yl.indexAddr (ad:=⟨gp,0,none⟩) (y:=5) (sz:=2) rfl rfl rfl de kr)∘Jy (v:= .agg #[.string (abt #[116,97,115,107,115]),.func (.func 235) #[.agg s.cells] #[]]) (h:=by exact Pe rfl rfl rE rfl (λ_ h=>h.sub (i:=1) rfl 10 rfl))∘JA #[.string (abt #[]),.nilFunc]) λG c=>(JV rE aT) λr=>(bH∘Jj) λa Z b=>?_)
   refine wp_seq ?_
   refine Cg 6 b (.blk c #[.string (abt #[116,97,115,107,115]),.func (.func 235) #[.agg s.cells] #[]] 362:: .blk g #[vS gp 7 7] 363:: .blk gp (qv s) 362::F) 3 [0,1,2] [] λb l=>?_
   refine ap Z (λ_=>l) [0,1,3] (bf 6 [0,1,3]) [(14,vP c 1),(12,vP c 0),(11,.func (.yield u) #[] #[])] λa Z=>?_
   refine dO Z l 2 0 λa Z=>?_
   refine dO Z l 4 0 λa Z=>?_
   refine s_on Z 5 rfl ?_
   refine mU Z (f:=235) (vs:=[]) (fst:=[.agg s.cells]) (caps:=[]) rfl rfl rfl kr rfl de (qz6 s x C _ (D.old b) hc E) ?_
   rintro _ z ⟨⟨d,e,rfl,A,j⟩,n⟩
   refine ⟨_,rfl,?_⟩
   replace b:=b.bL n A
   clear Z;intro a Z
   refine ay (b.pt 4 [1,2,3]) (λl=>?_)
   refine qd kr ?_
   replace b:=b.pt (fs':=(abj d (aF s 5) e bq 41 1:: .blk c #[.string (abt #[116,97,115,107,115]),.func (.func 235) #[.agg s.cells] #[]] 362:: .blk g #[vS gp 7 7] 363:: .blk gp (qv s) 362::F)) 4 [0,1,2,3]
   refine wG Z (i:=6) (vs:=[.string (abt #[116,97,115,107,115]),abh d (aF s 5) e]) rfl rfl rfl rfl rfl rfl de (hy 5 F [.blk c #[.string (abt #[116,97,115,107,115]),.func (.func 235) #[.agg s.cells] #[]] 362,.blk g #[vS gp 7 7] 363,.blk gp (qv s) 362] _ d e B om j (aam (es:=[.blk c #[.string (abt #[116,97,115,107,115]),.func (.func 235) #[.agg s.cells] #[]] 362,.blk g #[vS gp 7 7] 363,.blk gp (qv s) 362]) b)) zg ?_
   clear Z b;rintro v o a ⟨t,b,p,q⟩ Z;injection p with p;subst p
   replace b:Mem W o (.blk c #[.string (abt #[116,97,115,107,115]),.func (.func 235) #[.agg s.cells] #[]] 362:: .blk g #[vS gp 7 7] 363:: .blk gp (qv s) 362::t):=aai (es:=[.blk c #[.string (abt #[116,97,115,107,115]),.func (.func 235) #[.agg s.cells] #[]] 362,.blk g #[vS gp 7 7] 363,.blk gp (qv s) 362]) b
   replace Z:=Z.to [(17,.bool true),(7,vI 5),(6,vI 7),(5,vS gp 7 7),(0,.func (.yield u) #[] #[])]
   refine Jb Z b ((Jp 1∘aK∘Jq∘JF∘aD∘JR∘Jv 2 [(7,vI 6)]∘Jq) λa Z b=>?_)
   exact ⟨_,om,6,t,by omega,q,rfl,Z.sub kr,b.pt 3 [1,2]⟩
  ·
   replace Z:=Z.sp 7 (vI 6) rfl rfl
   refine Jb Z b ((JT∘aD∘JQ∘JB∘JP∘Jy (v:=vP gp 12) (h:=by exact Yl.indexAddr (ad:=⟨gp,0,none⟩) (y:=6) (sz:=2) rfl rfl rfl de kr)∘Jy (v:= .agg #[.string (abt #[115,112,111,116,115]),.func (.func 236) #[.agg s.cells] #[]]) (h:=by exact Pe rfl rfl rE rfl (λ_ h=>h.sub (i:=1) rfl 12 rfl))∘JA #[.string (abt #[]),.nilFunc]) λG c=>(JV rE aT) λr=>(bH∘Jj) λa Z b=>?_)
   refine wp_seq ?_
   refine Cg 6 b (.blk c #[.string (abt #[115,112,111,116,115]),.func (.func 236) #[.agg s.cells] #[]] 362:: .blk g #[vS gp 7 7] 363:: .blk gp (qv s) 362::F) 3 [0,1,2] [] λb l=>?_
   refine ap Z (λ_=>l) [0,1,3] (bf 6 [0,1,3]) [(14,vP c 1),(12,vP c 0),(11,.func (.yield u) #[] #[])] λa Z=>?_
   refine dO Z l 2 0 λa Z=>?_
   refine dO Z l 4 0 λa Z=>?_
   refine s_on Z 5 rfl ?_
   refine mU Z (f:=236) (vs:=[]) (fst:=[.agg s.cells]) (caps:=[]) rfl rfl rfl kr rfl de (qz7 s x C _ (D.old b) hc E) ?_
   rintro _ z ⟨⟨d,e,rfl,A,j⟩,n⟩
   refine ⟨_,rfl,?_⟩
   replace b:=b.bL n A
   clear Z;intro a Z
   refine ay (b.pt 4 [1,2,3]) (λl=>?_)
   refine qd kr ?_
   replace b:=b.pt (fs':=(abj d (aF s 6) e bq 41 1:: .blk c #[.string (abt #[115,112,111,116,115]),.func (.func 236) #[.agg s.cells] #[]] 362:: .blk g #[vS gp 7 7] 363:: .blk gp (qv s) 362::F)) 4 [0,1,2,3]
   refine wG Z (i:=6) (vs:=[.string (abt #[115,112,111,116,115]),abh d (aF s 6) e]) rfl rfl rfl rfl rfl rfl de (hy 6 F [.blk c #[.string (abt #[115,112,111,116,115]),.func (.func 236) #[.agg s.cells] #[]] 362,.blk g #[vS gp 7 7] 363,.blk gp (qv s) 362] _ d e B om j (aam (es:=[.blk c #[.string (abt #[115,112,111,116,115]),.func (.func 236) #[.agg s.cells] #[]] 362,.blk g #[vS gp 7 7] 363,.blk gp (qv s) 362]) b)) zg ?_
   clear Z b;rintro v o a ⟨t,b,p,q⟩ Z;injection p with p;subst p
   replace b:Mem W o (.blk c #[.string (abt #[115,112,111,116,115]),.func (.func 236) #[.agg s.cells] #[]] 362:: .blk g #[vS gp 7 7] 363:: .blk gp (qv s) 362::t):=aai (es:=[.blk c #[.string (abt #[115,112,111,116,115]),.func (.func 236) #[.agg s.cells] #[]] 362,.blk g #[vS gp 7 7] 363,.blk gp (qv s) 362]) b
   replace Z:=Z.to [(17,.bool true),(7,vI 6),(6,vI 7),(5,vS gp 7 7),(0,.func (.yield u) #[] #[])]
   refine Jb Z b ((Jp 1∘aK∘Jq∘JF∘aD∘JR∘Jv 2 [(7,vI 7)]∘Jq) λa Z b=>?_)
   exact ⟨_,om,7,t,by omega,q,rfl,Z.sub kr,b.pt 3 [1,2]⟩
 refine (JF∘JX) ?_
 obtain rfl:k=7:=by omega
 intro a Z b
 exact gM rfl Z ⟨_,rfl,F,aap [.blk g #[vS gp 7 7] 363,.blk gp (qv s) 362] b,B⟩
structure En where
 v:Nat
 r:Nat
 w:Nat
abbrev mZ:Nat:=18446744073709551615
def En.add (x:En) (d:Nat):En:=
 if mZ-x.v≤(d*1048576+x.r)/x.w then ⟨mZ,0,x.w⟩ else ⟨x.v+(d*1048576+x.r)/x.w,(d*1048576+x.r)%x.w,x.w⟩
def En.woken (x:En) (floor aj:Nat):En:=if x.v<floor-aj then ⟨floor-aj,0,x.w⟩ else x
def r9 (v fr to:Nat):Nat:=if fr≤v then to+min (v-fr) (mZ-to) else to-min to (fr-v)
def En.moved (x:En) (fr to:Nat):En:=⟨r9 x.v fr to,if r9 x.v fr to=mZ then 0 else x.r,x.w⟩
def Tk.en (t:Tk):En:=⟨t.v,t.r,t.weight.toNat⟩
def Tk.put (t:Tk) (x:En):Tk:={t with v:=x.v,r:=x.r,weight:=x.w}
def aW.jW (s:aW) (g c:Nat):En:=⟨(s.spot g c).v,(s.spot g c).r,(s.gs.getD g Gr.zero).weight.toNat⟩
structure bC where
 kind:Nat
 cpu:Int
 task:Int
 group:Int
 weight:Int
 to:Int
 ticks:Int
 mask:Nat
structure bC.Ok (x:bC):Prop where
 kind:x.kind<256
 cpu:aR x.cpu
 task:aR x.task
 group:aR x.group
 weight:aR x.weight
 to:aR x.to
 ticks:aR x.ticks
 mask:x.mask<18446744073709551616
def aW.jo (s:aW) (i:Nat) (t:Tk):aW:={s with ts:=s.ts.set i t}
def aW.uI (s:aW) (g c:Nat) (x:Sp):aW:={s with sp:=s.sp.set g ((s.sp.getD g []).set c x)}
def aW.uJ (s:aW) (g c:Nat) (x:En):aW:=s.uI g c {s.spot g c with v:=x.v,r:=x.r}
def aW.eG (s:aW) (c:Int):Bool:=decide (0≤c∧c<s.ak)
def nV (id:Int):Bool:=decide (1≤id∧id≤65535)
def qK (s:aW) (c:Nat):Nat→Nat→List Nat
 |0,_=>[]
 |f+1,g=>if g=0 then [] else if (aO s g c).isEmpty then g::qK s c f (s.par g).toNat else []
def kH (s:aW) (g c:Nat):List Nat:=qK s c g g
def lD (c:Nat) (s:aW) (g:Nat):aW:=s.uJ g c ((s.jW g c).woken (s.spot (s.par g).toNat c).floor s.aj)
def fZ (s:aW) (l:List Nat) (c:Nat):aW:=l.foldl (lD c) s
def gQ (s:aW) (g c:Nat) (x:Sp):Sp:=if (aO s g c).isEmpty then x else {x with floor:=max x.floor (aJ bB (aO s g c)).v}
def eX (s:aW):aW:={s with sp:=s.sp.mapIdx λg l=>l.mapIdx λc x=>gQ s g c x}
def wN (s:aW) (c:Nat):Nat→Nat→Nat
 |0,_=>0
 |f+1,g=>if (aO s g c).isEmpty then 0 else if (aJ bB (aO s g c)).k=0 then (aJ bB (aO s g c)).id else wN s c f (aJ bB (aO s g c)).id
def oD (s:aW) (c:Nat):Nat:=wN s c (abl s.sp) 0
def aI (s:aW) (c:Nat):Int:=(s.ts.map λt=>if t.ready&&decide (t.cpu=(c:Int)) then t.weight else (0:Int)).sum
def iY (m:Nat) (c:Int):Bool:=decide (m/2^c.toNat%2=1)
abbrev gT:=aW×Int×Nat
def xK (s:aW) (o:bC):gT:=
 if s.eG o.cpu=false then (s,0,300)
 else if nV o.task=false then (s,0,301)
 else if ¬(0≤o.group∧o.group<abl s.sp) then (s,0,302)
 else if lN o.weight=false∨o.mask=0∨wM o.mask s.ak=true then (s,0,2)
 else if 0≤fidx s.ts o.task then (s,0,303)
 else if iY o.mask o.cpu=false then (s,0,305)
 else (fZ {s with ts:=(s.ts.takeWhile λt=>decide (t.id≤o.task))++(⟨o.task,o.group,o.weight,o.cpu,o.mask,true,(s.spot o.group.toNat o.cpu.toNat).floor,0⟩::(s.ts.dropWhile λt=>decide (t.id≤o.task)))} (kH s o.group.toNat o.cpu.toNat) o.cpu.toNat,0,0)
def nW (s:aW) (id:Int):Tk:=s.ts.getD (fidx s.ts id).toNat Tk.zero
def xL (s:aW) (o:bC):gT:=
 if nV o.task=false then (s,0,301)
 else if fidx s.ts o.task<0 then (s,0,6)
 else if (nW s o.task).ready=true then (s,0,304)
 else
  let t:=nW s o.task
  (fZ (s.jo (fidx s.ts o.task).toNat {t.put (t.en.woken (s.spot t.group.toNat t.cpu.toNat).floor s.aj) with ready:=true}) (kH s t.group.toNat t.cpu.toNat) t.cpu.toNat,0,0)
def qX (s:aW) (o:bC):gT:=
 if s.eG o.cpu=false then (s,0,300)
 else if s.cu.getD o.cpu.toNat 0=0 then (s,0,6)
 else
  let id:=s.cu.getD o.cpu.toNat 0
  let i:=(fidx s.ts id).toNat
  let s1:={s with cu:=s.cu.set o.cpu.toNat 0,ts:=s.ts.set i {s.ts.getD i Tk.zero with ready:=false}}
  (if o.kind=4 then {s1 with ts:=s1.ts.eraseIdx i} else s1,id,0)
def oV (c d:Nat):Nat→Nat→aW→aW
 |0,_,s=>s
 |f+1,g,s=>if g=0 then s else oV c d f (s.par g).toNat (s.uJ g c ((s.jW g c).add d))
def jq (s:aW) (o:bC):gT:=
 if s.eG o.cpu=false then (s,0,300)
 else if ¬(1≤o.ticks∧o.ticks≤4294967295) then (s,0,2)
 else if 281474976710656<s.cl.getD o.cpu.toNat 0+o.ticks then (s,0,4)
 else
  let s1:={s with cl:=s.cl.set o.cpu.toNat (s.cl.getD o.cpu.toNat 0+o.ticks)}
  if s.cu.getD o.cpu.toNat 0=0 then (s1,0,0)
  else
   let id:=s.cu.getD o.cpu.toNat 0
   let t:=nW s id
   (oV o.cpu.toNat o.ticks.toNat t.group.toNat t.group.toNat (s1.jo (fidx s.ts id).toNat (t.put (t.en.add o.ticks.toNat))),id,0)
def ku (s:aW) (o:bC):gT:=
 if s.eG o.cpu=false then (s,0,300)
 else ({s with cu:=s.cu.set o.cpu.toNat (oD s o.cpu.toNat)},oD s o.cpu.toNat,0)
def xM (s:aW) (o:bC):gT:=
 if nV o.task=false then (s,0,301)
 else if lN o.weight=false then (s,0,2)
 else if fidx s.ts o.task<0 then (s,0,6)
 else (s.jo (fidx s.ts o.task).toNat {nW s o.task with r:=0,weight:=o.weight},0,0)
def xO (s:aW) (o:bC):gT:=
 if ¬(1≤o.group∧o.group<abl s.sp) then (s,0,302)
 else if lN o.weight=false then (s,0,2)
 else ({s with sp:=s.sp.set o.group.toNat ((s.sp.getD o.group.toNat []).map λx=>{x with r:=0}),gs:=s.gs.set o.group.toNat {s.gs.getD o.group.toNat Gr.zero with weight:=o.weight}},0,0)
def iZ (s:aW) (i:Nat) (to:Int):aW:=
 let t:=s.ts.getD i Tk.zero
 let s1:=s.jo i {t.put (t.en.moved (s.spot t.group.toNat t.cpu.toNat).floor (s.spot t.group.toNat to.toNat).floor) with cpu:=to}
 if t.ready then fZ s1 (kH s t.group.toNat to.toNat) to.toNat else s1
def xP (s:aW) (o:bC):gT:=
 if s.eG o.to=false then (s,0,300)
 else if nV o.task=false then (s,0,301)
 else if fidx s.ts o.task<0 then (s,0,6)
 else if o.task∈s.cu then (s,0,304)
 else if (nW s o.task).cpu=o.to then (s,0,2)
 else if iY (nW s o.task).mask o.to=false then (s,0,305)
 else (iZ s (fidx s.ts o.task).toNat o.to,0,0)
def iB (s:aW) (cpu:Int):Nat→Int×Int
 |0=>(-1,-1)
 |c+1=>if (c:Int)≠cpu∧(iB s cpu c).2<aI s c then ((c:Int),aI s c) else iB s cpu c
def sj (s:aW) (o:bC) (t:Tk):Bool:=t.ready&& (decide (t.cpu=(iB s o.cpu s.ak.toNat).1)&& (iY t.mask o.cpu&& (decide (s.cu.getD t.cpu.toNat 0≠t.id)&&decide (2*t.weight≤(iB s o.cpu s.ak.toNat).2-aI s o.cpu.toNat))))
def fO (s:aW) (o:bC):Nat→Option Nat
 |0=>none
 | n + 1 => if sj s o (s.ts.getD n Tk.zero) then match fO s o n with
   |none=>some n
   |some b=>if (s.ts.getD b Tk.zero).weight<(s.ts.getD n Tk.zero).weight then some n else some b
  else fO s o n
def uK (s:aW) (o:bC):gT:=
 if s.eG o.cpu=false then (s,0,300)
 else match fO s o (abl s.ts) with
  |none=>(s,0,6)
  |some b=>(iZ s b o.cpu,(s.ts.getD b Tk.zero).id,0)
def bX (s:aW) (o:bC):gT:=
 match o.kind with
 |1=>xK s o
 |2=>xL s o
 |3=>qX s o
 |4=>qX s o
 |5=>jq s o
 |6=>ku s o
 |7=>xM s o
 |8=>xO s o
 |9=>xP s o
 |10=>uK s o
 |_=>(s,0,2)
def qY (s:aW) (o:bC):gT:=if (bX s o).2.2≠0 then (s,0,(bX s o).2.2) else (eX (bX s o).1,(bX s o).2.1,0)
def newS (ak:Int) (aj:Nat) (gs:List Gr):aW:=⟨ak,aj,gs,abD ak.toNat 0,abD ak.toNat 0,[],abD (abl gs) (abD ak.toNat Sp.zero)⟩
def xu (f y:Nat):List (Nat×Bool):=if y<128 then [] else gX (f-1) (y/128)
theorem q1i (a:0<f):gX f y=(y%128,decide (127<y))::xu f y:=by
 obtain ⟨k,rfl⟩:∃k,f=k+1:=⟨f-1,by omega⟩
 unfold xu
 by_cases h:y<128
 ·rw [Cy k y h,if_pos h,decide_eq_false om,Nat.mod_eq_of_lt h]
 ·rw [Cz k y om,if_neg h,decide_eq_true om,aec]
theorem q7w (h:¬127<y):xu f y=[]:=if_pos om
theorem q1j (h:127<y):xu f y=gX (f-1) (y/128):=if_neg om
def UO (h:y<128^f) (h1:127<y):y/128<128^ (f-1)∧0<f-1:=by
 rcases f with _|_|f
 ·rw [Nat.pow_zero] at h;omega
 ·rw [acj,Nat.pow_one] at h;omega
 ·rw [agL] at h
  exact ⟨by rw [aec];omega,by omega⟩
def UQ (W:World) (b:Nat) (Inv:List (Nat×Bool)→List Fact→Prop):Prop:=
 ∀(g:Nat) (m:Bool) (t:List (Nat×Bool)) (F fr:List Fact) (w:World),g<128→Inv ((g,m)::t) F→Mem W w (F++fr)→
  YieldAt ab8 0 abm b #[.int .u8 (g:Int),.bool m] w λe c=>∃a,Mem W c (a++fr)∧e= .returned (.bool true)∧Inv t a
def zd5 (W:World) (Inv:List (Nat×Bool)→List Fact→Prop) (r:Ending) (b:World):Prop:=∃v,r= .returned v∧∃a,Mem W b a∧Inv [] a
theorem qpy {I:List Fact→Prop}:∀(e:Ending) (b:World),(∃a,Mem W b (a++fr)∧e= .returned (.bool true)∧I a)→∃v,e= .returned v
 |_,_,⟨_,_,h,_⟩=>⟨_,h⟩
def yV (W:World) (n:Nat) (ys:List Value) (x:Nat) (fr:List Fact) (r:Ending) (a:World):Prop:=
 ∃A c,r= .returned (.slice A (n+abl (au x)) c)∧n+abl (au x)≤c∧Mem W a (.row (.slice A (n+abl (au x)) c) (n+abl (au x)) (ys++(au x).map B8) 5 1::fr)
def q7x {ys:List Value} (hz:l++([]:List (Nat×Bool)).map bn=au x) (hc:n+abl l≤c) (a:Mem W w (.row (.slice A (n+abl l) c) (n+abl l) (ys++l.map B8) 5 1::fr)):yV W n ys x fr (.returned (.slice A (n+abl l) c)) w:=by
 rw [ade,abU] at hz
 subst hz
 exact ⟨A,c,rfl,hc,a⟩
def q1p (W w:World) (c d x:Nat) (u:x<18446744073709551616) (Inv:List (Nat×Bool)→List Fact→Prop) (l:List Fact) (hy:UQ W d Inv) (n:Inv (gX 10 x) l) (b:Mem W w (.blk c #[vQ x] 41::l)):
    Calls abm 239 (.func (.yield d) #[] #[]:: [vP c 0]).toArray w (zd5 W Inv):=by
 refine qC Tryz.func239 [.func (.yield d) #[] #[],vP c 0] [(0,.func (.yield d) #[] #[]),(1,vP c 0)] λa Z=>?_
 refine Jb Z b ((JB) λa Z b=>?_)
 refine qg (λs z A=>∃(f:Nat) (y:Nat) (F:List Fact),(0<f)∧(y<128^f)∧(y<18446744073709551616)∧(Inv (gX f y) F)∧s=0+y∧Fr z 16 [] [(0,.func (.yield d) #[] #[]),(1,vP c 0)]∧Mem W A (.blk c #[vQ y] 41::F)) (m:=0+x) ⟨10,x,l,de,om,u,n,rfl,Z.sub kr,b.pt 1 [0]⟩ ?_
 clear Z b;rintro s a D ⟨f,y,F,B,e,g,C,rfl,Z,b⟩
 refine Jb Z b ((JQ) λa Z b=>?_)
 refine wp_seq ?_
 refine Ni (i:=6) ?_
 refine Jb Z b ((Jp 1∘Jc O0∘Jp 1∘Jo (vQ (y%128:Nat)) (by exact congrArg _ (zhq y g))∘Jv 1 [(6,vB (IntKind.u8.wrap ((y%128:Nat):Int)))]∘Jo (vB (y%128:Nat)) (by exact congrArg _ (zhr _ om))∘Jc O0∘Jp 1∘Jo (.bool (decide (127<y))) (by exact congrArg abX (decide_eq_decide.2 om))∘Jq) λa Z b=>?_)
 refine wG Z (i:=6) (vs:=[vB (y%128:Nat),.bool (decide (127<y))]) rfl rfl rfl rfl rfl rfl de (hy _ _ _ F _ _ (adr _ de) (by rw [←q1i B];exact C) (aai (F:=[.blk c #[vQ y] 41]) b)) qpy ?_
 clear Z b;rintro v o a ⟨p,b,r,h⟩ Z;injection r with r;subst r
 replace b:Mem W o (.blk c #[vQ y] 41::p):=aai (es:=[.blk c #[vQ y] 41]) b
 refine Jb Z b ((Jp 1∘Jc O0∘Jp 2∘aG∘Jq) (Ji (λk=>?_) λk=>?_))
 ·
  refine (JT∘aD∘JB∘JR∘Jc O0∘Jp 1∘Jo (vQ (y/128:Nat)) (by exact sN .u64 y (j:=7) (q:=128) rfl rfl)∘JW aT aT) λt=>(mI∘Jq) λa Z b=>?_
  exact ⟨_,om,(f-1),(y/128),p,(UO e om).2,(UO e om).1,by omega,by rw [←q1j om];exact h,rfl,Z.sub kr,b.pt 1 [0]⟩
 refine (JF∘JX) λa Z b=>?_
 exact gM rfl Z (⟨_,rfl,p,aap [.blk c #[vQ y] 41] b,by rw [←q7w (f:=f) (y:=y) om];exact h⟩)
def q7z (x:Nat) (w:World):
    Calls abm 168 #[vQ x] w λr a=>∃g,r= .returned (.func (.func 239) #[] #[vP g 0])∧Mem w a [.blk g #[vQ x] 41]:=by
 refine (dV Tryz.func168 4) ?_
 exact (JP∘AP) λd b=>(Jp 1∘Jr∘Jy (h:=by exact Yl.makeFunc (fst:=[]) (caps:=[vP b 0]) rfl rfl rfl)∘Jp 1∘aK∘Jj∘JZ∘aZ) λc=>by exact ⟨_,rfl,c⟩
def U3 (W w:World) (x:Nat) (M:x<18446744073709551616) (A:Option Addr) (n c:Nat) (ys:List Value) (fr:List Fact) (V:n≤100000000000) (hc:n≤c) (d:Mem W w (.row (.slice A n c) n ys 5 1::fr)):
    Calls abm 109 #[.slice A n c,vQ x] w (yV W n ys x fr):=by
 refine Kh (vs:=[.slice A n c,vQ x]) Tryz.func109 rfl rfl kr (σ0:=[(0,.slice A n c),(1,vQ x)]) rfl ?_
 intro a Z
 refine Jb Z d ((JP∘AP) λN s=>(Jp 1∘Jj∘JQ∘JP∘Jp 1∘JL (h:=by exact λd=>q7z x _)) ?_)
 rintro d _ X ⟨O,rfl,hm⟩
 refine ⟨_,rfl,_,d.join hm,?_⟩
 refine (aK∘Jq∘JC (h:=by exact λd=>d.aY (i:=2) (ys:=ys++([]:List Nat).map B8) rfl rfl (by rw [ade,abU]))∘JG∘JB) λa Z d=>?_
 refine Kg Z d (λF=>∃(b:List Nat) (l:Option Addr) (j:Nat),(b++(([]:List (Nat×Bool))).map bn=au x)∧(n+abl b≤j)∧F=(.blk s #[.slice l (n+abl b) j] 30:: .row (.slice l (n+abl b) j) (n+abl b) (ys++b.map B8) 5 1::fr)) (λ_ _=>False) rfl kr ?_ ?_ ?_
 ·
  clear Z d;intro z y o P E d
  have Q:UQ W z (λG F=>∃(b:List Nat) (l:Option Addr) (j:Nat),(b++(G).map bn=au x)∧(n+abl b≤j)∧F=(.obj z (.loop (o .ready none)):: .obj y (.deferred (some []))::(.blk s #[.slice l (n+abl b) j] 30:: .row (.slice l (n+abl b) j) (n+abl b) (ys++b.map B8) 5 1::fr))):=by
   rintro q m t F p R S ⟨b,l,j,hz,C,rfl⟩ d
   have T:abl b≤10:=by have h:=congrArg List.length hz;rw [abn] at h;have:=Al x;omega
   replace d:Mem W R (.obj z (.loop (o .ready none)):: .obj y (.deferred (some [])):: .blk s #[.slice l (n+abl b) j] 30:: .row (.slice l (n+abl b) j) (n+abl b) (ys++b.map B8) 5 1::(fr++(p))):=(by simpa only [aeN,aby,ac4] using d)
   refine Nf (v1:=vB q) (v2:= .bool m) E d de de λa Z=>?_
   refine wpIn_seq ?_
   refine qy ?_
   refine Jb Z d ((Jp 1∘Jq) λa Z d=>?_)
   refine qy ?_
   refine Jb Z d ((Jp 1∘Jq) λa Z d=>?_)
   refine ⟨(.obj y (.deferred (some [])):: .blk s #[.slice l (n+abl b) j] 30:: .row (.slice l (n+abl b) j) (n+abl b) (ys++b.map B8) 5 1::(fr++(p))),d.pt (fs':=(.obj z (.loop (o .ready none)):: .obj y (.deferred (some [])):: .blk s #[.slice l (n+abl b) j] 30:: .row (.slice l (n+abl b) j) (n+abl b) (ys++b.map B8) 5 1::(fr++(p)))) 4 [0,1,2,3],λY d=>?_⟩
   refine wpIn_block ?_
   refine wpIn_seq ?_
   refine wpIn_seq ?_
   refine qy ?_
   refine Jb Z d ((Jp 1∘Jq) (Ju (λu=>?_) λu=>?_))
   ·
    intro a Z d
    have D:bn (q,m)=q+128:=by rw [u];rfl
    refine UE Z rfl ?_
    refine qy ?_
    refine Jb Z d ((Jp 2∘Jo (vB (q+128:Nat)) (by exact congrArg _ (D6 q S))∘Jp 1∘bH∘Jq) λa Z d=>?_)
    refine qy ?_
    refine Jb Z d ((Jc O2∘Jp 1∘JU aV #[vB (q+128:Nat)]) λI J=>(JD [B8 (bn (q,m))] 4 (λ_ _=>rW) aV (hr:=by exact λd=>(by rw [D];exact d.aX (i:=0) (n:=1) (size:=1) rfl rfl)) (h1:=by exact rR [bn (q,m)])) λK e f k=>(JW qD aT) λH=>(wI∘Jq) λa Z d=>?_)
    have g:(n+abl b)+1=(n+abl (b++[bn (q,m)])):=by rw [abn];rfl
    rw [g] at k
    replace d:=d.aY (i:=4) (ys:=(ys++(b++[bn (q,m)]).map B8)) rfl g (by rw [abV,aby];rfl)
    replace d:=d.dL (i:=3) (ds:= #[.slice e (n+abl (b++[bn (q,m)])) f]) rfl (by rw [g])
    refine ⟨(.obj y (.deferred (some [])):: .blk s #[.slice e (n+abl (b++[bn (q,m)])) f] 30:: .row (.slice e (n+abl (b++[bn (q,m)])) f) (n+abl (b++[bn (q,m)])) (ys++(b++[bn (q,m)]).map B8) 5 1::(fr++(p))),d.pt (fs':=(.obj z (.loop (o .busy none)):: .obj y (.deferred (some [])):: .blk s #[.slice e (n+abl (b++[bn (q,m)])) f] 30:: .row (.slice e (n+abl (b++[bn (q,m)])) f) (n+abl (b++[bn (q,m)])) (ys++(b++[bn (q,m)]).map B8) 5 1::(fr++(p)))) 5 [1,2,3,4],λU d=>?_⟩
    exact ⟨(.obj z (.loop (o .ready none)):: .obj y (.deferred (some [])):: .blk s #[.slice e (n+abl (b++[bn (q,m)])) f] 30:: .row (.slice e (n+abl (b++[bn (q,m)])) f) (n+abl (b++[bn (q,m)])) (ys++(b++[bn (q,m)]).map B8) 5 1::fr),(by simpa only [aeN,aby,ac4] using d),rfl,(b++[bn (q,m)]),e,f,by rw [aby];exact hz,k,rfl⟩
   intro a Z d
   have D:bn (q,m)=q:=by rw [u];rfl
   refine UF Z rfl ?_
   refine wpIn_skip ?_
   refine qy ?_
   refine Jb Z d ((Jc O2∘Jp 1∘JU aV #[vB q]) λI J=>(JD [B8 (bn (q,m))] 4 (λ_ _=>rW) aV (hr:=by exact λd=>(by rw [D];exact d.aX (i:=0) (n:=1) (size:=1) rfl rfl)) (h1:=by exact rR [bn (q,m)])) λK e f k=>(JW qD aT) λH=>(wI∘Jq) λa Z d=>?_)
   have g:(n+abl b)+1=(n+abl (b++[bn (q,m)])):=by rw [abn];rfl
   rw [g] at k
   replace d:=d.aY (i:=4) (ys:=(ys++(b++[bn (q,m)]).map B8)) rfl g (by rw [abV,aby];rfl)
   replace d:=d.dL (i:=3) (ds:= #[.slice e (n+abl (b++[bn (q,m)])) f]) rfl (by rw [g])
   refine ⟨(.obj y (.deferred (some [])):: .blk s #[.slice e (n+abl (b++[bn (q,m)])) f] 30:: .row (.slice e (n+abl (b++[bn (q,m)])) f) (n+abl (b++[bn (q,m)])) (ys++(b++[bn (q,m)]).map B8) 5 1::(fr++(p))),d.pt (fs':=(.obj z (.loop (o .busy none)):: .obj y (.deferred (some [])):: .blk s #[.slice e (n+abl (b++[bn (q,m)])) f] 30:: .row (.slice e (n+abl (b++[bn (q,m)])) f) (n+abl (b++[bn (q,m)])) (ys++(b++[bn (q,m)]).map B8) 5 1::(fr++(p)))) 5 [1,2,3,4],λU d=>?_⟩
   exact ⟨(.obj z (.loop (o .ready none)):: .obj y (.deferred (some [])):: .blk s #[.slice e (n+abl (b++[bn (q,m)])) f] 30:: .row (.slice e (n+abl (b++[bn (q,m)])) f) (n+abl (b++[bn (q,m)])) (ys++(b++[bn (q,m)]).map B8) 5 1::fr),(by simpa only [aeN,aby,ac4] using d),rfl,(b++[bn (q,m)]),e,f,by rw [aby];exact hz,k,rfl⟩
  refine (q1p W P O z x M _ _ Q ⟨[],A,c,rfl,hc,rfl⟩ (d.pt 5 [2,0,1,3,4])).mono ?_
  rintro r N ⟨v,rfl,F2,L,⟨b,l,j,hz,C,rfl⟩⟩
  exact ⟨v,rfl,.inl ⟨_,⟨b,l,j,hz,C,rfl⟩,L⟩⟩
 ·
  clear Z d;rintro B a w6 _ ⟨b,l,j,hz,C,rfl⟩ Z d
  refine Jb Z d ((JG∘JP∘Jc O1∘Jp 1∘aK∘Jj∘JZ) λa Z d=>?_)
  refine Ew Z d (i:=0) rfl λa w7 Z d=>?_
  exact kX rfl Z rfl (q7x hz C (d.pt (fs':=(.row (.slice l (n+abl b) j) (n+abl b) (ys++b.map B8) 5 1::fr)) 3 [2]))
 exact λ_ _ _ _ _ h=>h.elim
def q70 (A:Option Addr) (c:Nat) (b:List Nat) (w:World) (hr:Rd w w.heap.size 1 A (abl b) (b.map bq)) (s:∀x∈b,x<18446744073709551616) (E:abl b≤1000000000):
    Calls abm 49 #[abh A b c] w (qU w (b.flatMap au)):=by
 refine (dV Tryz.func49 17) ?_
 refine (JP∘Jp 1∘Jr∘Jp 1∘Jj∘JQ∘JP∘Jp 1∘Jl∘Jp 1∘Jq∘JC (h:=by exact λd=>d.nil 5 1)∘JG∘JB) λa Z d=>?_
 refine qg (λv y z=>∃(k:Nat) (n:Option Addr) (g:Nat),(k≤abl b)∧(abl ((b.take k).flatMap au)≤g)∧v=abl b-k∧Fr y 17 [] [(8,vI k),(7,vI (abl b)),(6,abh A b c),(3,abh n ((b.take k).flatMap au) g),(2,vN)]∧Mem w z [abj n ((b.take k).flatMap au) g B8 5 1]) (m:=abl b-0) ⟨0,none,0,abw _,abq _,rfl,Z.sub kr,d.pk [0]⟩ ?_
 clear Z d;rintro v a F ⟨k,n,g,G,o,rfl,Z,d⟩
 refine Jb Z d ((JP∘Jp 1∘Jj∘JQ) (Ji (λt=>?_) λt=>?_))
 ·
  have j:k<abl b:=by omega
  have B:=s _ (qe 0 j)
  have u:=zk (b.take k)
  rw [abr] at u
  have C:=Al (b.getD k 0)
  have p:(b.take (k+1)).flatMap au=(b.take k).flatMap au++au (b.getD k 0):=by rw [adP,getD_at 0 j,ab2];simp
  refine (JT∘aD∘JQ∘JB∘JP) ?_
  obtain ⟨gA,H,rfl,_⟩:=hr.sat k
  refine (gV k 1∘Jy (h:=by exact aad hr k 0 j rfl rfl)∘Jp 1∘bH∘Jj∘JR∘Jp 2∘JL (h:=by exact λd=>U3 w _ (b.getD k 0) B n (abl ((b.take k).flatMap au)) g (((b.take k).flatMap au).map B8) _ om o (d.pk (fs':=[abj n ((b.take k).flatMap au) g B8 5 1]) [0]))) ?_
  rintro d _ D ⟨q,r,rfl,f,hm⟩
  refine ⟨_,rfl,_,hm,?_⟩
  refine (Jp 1∘dQ∘Jq) ?_
  have e:(abl ((b.take k).flatMap au)+abl (au (b.getD k 0)))=abl ((b.take (k+1)).flatMap au):=by rw [p,abn]
  rw [e] at f
  refine (JC (h:=by exact λd=>d.aY (i:=0) (ys:=((b.take (k+1)).flatMap au).map B8) rfl e (by rw [p,abV]))∘Jk 3 (.slice q (abl ((b.take (k+1)).flatMap au)) r) (h:=by exact iy e)∘JG∘JR∘bT 1∘Jp 1∘aK∘Jq) λa Z d=>?_
  exact ⟨_,om,k+1,q,r,by omega,f,rfl,Z.sub kr,d.pk [0]⟩
 have l:b.take k=b:=abP om
 exact (JF∘JX∘JG∘JP∘Jp 2∘aK∘Jj∘JZ∘aZ) λd=>by exact ⟨⟨n,g,by rw [l],by have h:=d.own (i:=0) rfl;rw [l] at h;exact h,by rw [←l];exact o⟩,d.below⟩
def qxz (b:x<18446744073709551616):Calls abm 109 #[vN,vQ x] w (qU w (au x)):=
 (U3 w w x b none 0 0 [] [] (abw _) (abq _) ((Mem.start w).nil 5 1)).mono λr d ⟨A, c, h1, h2, a⟩ => by
  rw [acj,ac4] at a
  rw [acj] at h1 h2
  exact ⟨⟨A,c,h1,a.own (i:=0) rfl,h2⟩,a.below⟩
def Kl (A:Option Addr) (n c:Nat) (a:List Nat) (w:World) (hr:Rd w w.heap.size 1 A n (a.map bq)) (b:∀x∈a,x<18446744073709551616) (d:n≤1000000000):Calls abm 49 #[.slice A n c] w (qU w (a.flatMap au)):=by
 obtain rfl:n=abl a:=by have h:=hr.len;rw [abu,acX] at h;exact h.symm
 exact q70 A c a w hr b d
def ZC:∀(k:Nat) (l xs:List Nat) (u x m:Nat),bD k l=(xs,u,0)→aB (l.drop u)=(x,m,0)→bD (k+1) l=(xs++[x],u+m,0)
 |0,l,xs,u,x,m,h,h2=>by
  simp only [bD,Prod.mk.injEq] at h
  obtain ⟨rfl,rfl,_⟩:=h
  rw [List.drop_zero] at h2
  simp [bD,h2]
 | k + 1, l, xs, u, x, m, h, h2 => by
  rw [bD] at h
  split at h
  ·rename_i h1;simp at h;exact absurd h.2.2 h1
  ·rename_i h1
   split at h
   ·rename_i h3;simp at h;exact absurd h.2.2 h3
   ·rename_i h3
    simp only [Prod.mk.injEq] at h
    obtain ⟨rfl,rfl,_⟩:=h
    have a:bD k (l.drop (aB l).2.1)=((bD k (l.drop (aB l).2.1)).1,(bD k (l.drop (aB l).2.1)).2.1,0):=by
     rw [←show (bD k (l.drop (aB l).2.1)).2.2=0 by omega]
    have h4:=ZC k _ _ _ x m a (by rwa [acV])
    rw [bD,if_neg h1,h4,if_neg (by simp)]
    simp [Nat.add_assoc]
def quc:∀(k j:Nat) (l xs:List Nat) (u:Nat),bD k l=(xs,u,0)→(aB (l.drop u)).2.2≠0→(bD (k+1+j) l).2.2≠0:=by intro x;induction x<;>grind [bD,aB,acV,Prod.mk.injEq]
def zai:∀(k:Nat) (l xs:List Nat) (u:Nat),bD k l=(xs,u,0)→abl xs=k∧k≤u∧u≤abl l:=by intro x;induction x<;>grind [bD,aB,yO,TU]
theorem wJ:SI abm 73 11:=⟨by kernel_rfl,by kernel_rfl⟩
section
variable {e:Ev} {vs:List Nat}
end
def zh1 (w:World) (er:Nat) (R:List Nat) (r:Ending) (w':World):Prop:=
 (∃A c,r= .returned (.tuple #[.slice A (abl R) c,.int .i64 (er:Int)])∧w'.ownsRow w.heap.size 41 1 (.slice A (abl R) c) (abl R) (R.map bq)∧abl R≤c)∧Below w.heap.size w w'
section
variable {b:Bs} {e:Ev} {w w':World} {v:Bool}
def Km (hb:Below w.heap.size w w') (h:v=true↔(1≤b.seq∧b.seq≤281474976710656∧0≤b.time∧b.time≤281474976710656)):Is w (.bool b.right) (.returned (.bool v)) w':=by
 refine ⟨?_,hb⟩
 unfold Bs.right
 rw [show v=decide _ from (ace.2 (h.trans decide_eq_true_iff.symm))]
def U4 (hb:Below w.heap.size w w') (h:v=true↔(b.seq≤e.seq∧b.time≤e.time)):Is w (.bool (b.behind e)) (.returned (.bool v)) w':=by
 refine ⟨?_,hb⟩
 unfold Bs.behind
 rw [show v=decide _ from (ace.2 (h.trans decide_eq_true_iff.symm))]
end
def q71 (e:Ev) (d:e.Ok) (B:Nat) (w:World) (f:Laid B w) (g:B≤w.heap.size) {er:Nat} {R:List Nat} (h1:e.check=er) (h2:e.sK=R):Calls abm 286 #[.agg e.cells] w (zh1 w er R):=by
 subst h1 h2
 refine (qxr e d B w f g).mono λr w' ⟨⟨v,h,a⟩,i⟩=>?_
 obtain ⟨A,c,rfl,hc⟩:=CO a
 exact ⟨⟨A,c,h,a,hc⟩,i⟩
theorem q1q (e:Ev) (a:e.Ok) (B:Nat) (w:World) (c:Laid B w) (d:B≤w.heap.size):Calls abm 243 #[.agg e.cells] w (Is w (.int .i64 (e.check:Int))):=TM e a B w c d
theorem q72 (e:Ev):abl e.sK≤4:=by grind [Ev.sK,Ev.vals,D9]
def zd6 {b:Bs} (h:e.check=er) (h0:er≠0):mP b e=er∧sM b e=[]:=by grind [mP,sM]
def U5 {b:Bs} (h:e.check=0) (h2:¬(b.right=true∧b.behind e=true)):mP b e=70∧sM b e=[]:=by grind [mP,sM]
theorem zd7 {b:Bs} (h:e.check=0) (h1:b.right=true) (h2:b.behind e=true):mP b e=0∧sM b e=zy b e:=by grind [mP,sM]
def EF {n:Int} (h:er=rY∧R=[]) (a:n=rY) (hb:Below w.heap.size w w'):ze w er R (.returned (.tuple #[.slice none 0 0,.int .i64 n])) w':=by
 obtain ⟨rfl,rfl⟩:=h
 subst a
 exact ⟨⟨none,0,rfl,acK _ _ _ _,abq _⟩,hb⟩
def U6 (h:er=0∧R=L) (a:w'.ownsRow w.heap.size 5 1 (.slice A (abl L) c) (abl L) (L.map B8)) (hc:abl L≤c) (hb:Below w.heap.size w w'):ze w er R (.returned (.tuple #[.slice A (abl L) c,.int .i64 0])) w':=by
 obtain ⟨rfl,rfl⟩:=h
 exact ⟨⟨A,c,rfl,a,hc⟩,hb⟩
theorem q73 (l:List Nat):∀u∈l.map bq,u.oneCell'=true:=by
 intro u a
 obtain ⟨x,_,rfl⟩:=ab6.1 a
 rfl
theorem U7 {x:Int} (h:0≤x∧x<9223372036854775808) (a:x.toNat=n):abQ .u64 (IntKind.u64.wrap x)= .int .u64 (n:Int):=by rw [aeE];congr 1;omega
def q74 {b:Bs} {vs:List Nat} (c:e.Ok) (h:e.check=0) (d:e.sK=vs) (h1:b.right=true) (h2:b.behind e=true):(0≤e.seq-b.seq∧e.seq-b.seq<9223372036854775808)∧(0≤e.time-b.time∧e.time-b.time<9223372036854775808)∧(∀x∈(e.seq-b.seq).toNat::(e.time-b.time).toNat::vs,x<18446744073709551616)∧zy b e=[e.kind]++((e.seq-b.seq).toNat::(e.time-b.time).toNat::vs).flatMap au:=by
 have h3:=Am h
 have h4:=of_decide_eq_true h1
 have h5:=of_decide_eq_true h2
 have:=c.seq.2
 have:=c.time.2
 refine ⟨by omega,by omega,λx a=>?_,?_⟩
 ·rcases ab0.1 a with rfl|a
  ·omega
  rcases ab0.1 a with rfl|a
  ·omega
  rw [←d] at a
  unfold Ev.sK at a
  rw [if_pos h] at a
  obtain ⟨i,hi,rfl⟩:=ab6.1 a
  have k:=TP c h hi
  unfold Ev.num at k
  rw [aeE] at k
  omega
 ·unfold zy yN
  rw [←d]
  unfold Ev.sK
  rw [if_pos h]
  rfl
def zd8 {b:Bs} {S:List Nat} {A:Prop} {B:Prop} {C:Prop} (h:e.check=x) (h0:x=0) (hb:b.right=true∧b.behind e=true) (c:A∧B∧C∧zy b e=[e.kind]++S.flatMap au) (a:S.flatMap au=l):mP b e=0∧sM b e=e.kind::l:=by grind [zd7]
def U8 {S:List Nat} (hr:Rd w w.heap.size 1 A (abl l) (l.map bq)) (d:∀x∈l,x<18446744073709551616) (f:abl l≤6) (a:l.flatMap au=S):Calls abm 49 #[.slice A (abl l) c] w (qU w S):=by
 subst a
 exact Kl A (abl l) c _ w hr d om
def zd9 {l:List Ev} {p:Option Ev} (hk:k=abl l):gL p k (l.drop k)=(-1,0):=by
 rw [adf om]
 rfl
def row_step {l:List Ev} {p:Option Ev} (hk:k<abl l) (a:l.getD k Ev.zero=e):gL p k (l.drop k)=if e.check≠0 then ((k:Int),e.check) else if p.all (λq=>e.after q)=false then ((k:Int),71) else gL (some e) (k+1) (l.drop (k+1)):=by grind [gL,acn,abp]
def jV (l:List Ev) (k:Nat):Option Ev:=if k=0 then none else some (l.getD (k-1) Ev.zero)
theorem q75 {l:List Ev} (a:l.getD k Ev.zero=e):jV l (k+1)=some e:=by grind [jV]
theorem q76 {l:List Ev} {q:Ev} (h0:0<k) (a:l.getD (k-1) Ev.zero=q) (h:¬(e.cpu=q.cpu∧q.seq<e.seq∧q.time≤e.time)):(jV l k).all (λq=>e.after q)=false:=by
 unfold jV;rw [if_neg om,a];exact decide_eq_false h
theorem q1r {l:List Ev} {q:Ev} (c:l.getD (k-1) Ev.zero=q) (h:k=0∨(e.cpu=q.cpu∧q.seq<e.seq∧q.time≤e.time)):(jV l k).all (λq=>e.after q)=true:=by
 unfold jV
 by_cases a:k=0
 ·rw [if_pos a];rfl
 ·rw [if_neg a,c];exact decide_eq_true (h.resolve_left a)
def Kn {l:List Ev} {q:Ev} {v:Bool} (a:l.getD (k-1) Ev.zero=q) (h:v=true↔¬(k=0∨(e.cpu=q.cpu∧q.seq<e.seq∧q.time≤e.time))):abX v= .bool (!(jV l k).all λq=>e.after q):=by grind [q76,q1r]
def Nw (h:0<k) (hk:k≤140737488355328):abQ .i64 (IntKind.i64.wrap ((k:Int)-1))= .int .i64 ((k-1:Nat):Int):=by rw [IntKind.wrap_i64];congr 1;omega
def Ny {R:Int×Nat} {v n:Int} (h:R=(v,m)) (a:n=(m:Int)) (hb:Below w.heap.size w w'):Is w (.tuple #[.int .i64 R.1,.int .i64 (R.2:Int)]) (.returned (.tuple #[.int .i64 v,.int .i64 n])) w':=by
 subst h a
 exact ⟨rfl,hb⟩
def AQ {b:Bs} {l:List Ev} {v:Bool} (h:v=true↔¬(b.right=true∧(0<abl l→b.behind (l.getD 0 Ev.zero)=true))):abX v= .bool (!(b.right&&l.head?.all b.behind)):=by
 have e:l.head?.all b.behind=true↔(0<abl l→b.behind (l.getD 0 Ev.zero)=true):=by
  cases l with
  |nil=>exact ⟨λ_ h=>absurd h (Nat.lt_irrefl 0),λ_=>rfl⟩
  |cons x r=>exact ⟨λh _=>h,λh=>h (Nat.succ_pos _)⟩
 rw [←e,←abF] at h
 by_cases a:(b.right&&l.head?.all b.behind)=true
 ·rw [a,show v=false from (agi _).mp λc=>h.1 c a];rfl
 ·rw [(agi _).mp a,h.2 a];rfl
def qx0 {b:Bs} {l:List Ev} {f:Int} (h:gD l=(f,c)) (h0:c≠0):zo b l=c∧qR b l=[]:=by grind [zo,qR]
def qsw {b:Bs} {l:List Ev} {f:Int} (h:gD l=(f,c)) (h0:c=0) (h1:¬(b.right&&l.head?.all b.behind)=true):zo b l=70∧qR b l=[]:=by grind [zo,qR]
def qx1 {b:Bs} {l:List Ev} {f:Int} {pre:List Nat} {a:Bs} (h:gD l=(f,c)) (h0:c=0) (h1:(b.right&&l.head?.all b.behind)=true) (hr:recs b l=pre++recs a (l.drop k)) (hk:abl l≤k):zo b l=0∧qR b l=pre:=by
 rw [abF] at h1
 have e:zo b l=0:=by unfold zo;rw [h,if_neg om,if_pos h1]
 exact ⟨e,by unfold qR;rw [if_pos e,hr,adf hk];exact abU pre⟩
def q1s {b a:Bs} {l:List Ev} {f:Int} (h:gD l=(f,c)) (h0:c=0) (h1:(b.right&&l.head?.all b.behind)=true) (hk:k<abl l) (hb:a=Aq b l k) (d:l.getD k Ev.zero=e):mP a e=0∧recs a (l.drop k)=zy a e++recs e.at (l.drop (k+1))∧e.at=Aq b l (k+1)∧abl (zy a e)≤61:=by
 rw [abF] at h1
 have e1:l[k]=e:=by rw [←d,abo,abp hk];rfl
 have p:=Ua (by rw [h];exact h0) h1.1 h1.2 k hk
 rw [←hb,e1] at p
 refine ⟨p,by rw [acn hk,recs,e1],?_,zdy _ _⟩
 show _=(match l[k]? with|some e=>e.at|none=>b)
 rw [abp hk,e1]
def zh2 (e:Ev) (w:World):Calls abm 275 #[.agg e.cells] w (Is w (.agg e.at.cells)):=by
 refine (dV Tryz.func275 8) ?_
 refine (JP∘JE) λd f=>(JA #[vI 0,vI 0]) λg h=>(Jr∘Jg 0 O1∘Jg 1 O1∘fu #[vI e.seq,vI e.time]∘JV jM aT) λb=>(ow∘Jj∘JZ) λa Z c=>?_
 exact iq rfl Z (.cellS (i:=0) Z c rfl rfl jM rfl) (⟨rfl,c.below⟩)
def U9 (b:Bs) (w:World):Calls abm 273 #[.agg b.cells] w (Is w (.bool b.right)):=by
 refine (dV Tryz.func273 21) ?_
 refine (JP∘JE) λf g=>(Jp 1∘Jr∘Jg 0 O0∘Jp 2) (Ji (λe=>?_) λe=>?_)
 ·
  refine (Jg 0 O0∘Jp 3) (Ji (λc=>?_) λc=>?_)
  ·
   refine (Jg 1 O0∘Jp 3) (Ji (λd=>?_) λd=>?_)
   ·
    exact (Jg 1 O0∘Jp 3∘aG∘Jj∘JZ∘aZ) λa=>Km a.below (by simp;omega)
   exact (Jp 5∘aG∘Jj∘JZ∘aZ) λa=>Km a.below (by simp;omega)
  exact (Jv 10 [(2,.bool false)]∘aG∘Jj∘JZ∘aZ) λa=>Km a.below (by simp;omega)
 exact (Jv 15 [(2,.bool false)]∘dQ∘Jj∘JZ∘aZ) λa=>Km a.below (by simp;omega)
def Ve (b:Bs) (e:Ev) (w:World):Calls abm 274 #[.agg b.cells,.agg e.cells] w (Is w (.bool (b.behind e))):=by
 refine (iX Tryz.func274 17) ?_
 refine (JP∘JE) λd f=>(JE) λg h=>(Jp 1∘Jr∘Jg 0 O0∘Jg 0 O1∘Jp 2) (Ji (λa=>?_) λa=>?_)
 ·
  exact (Jg 1 O0∘Jg 1 O1∘Jp 3∘aG∘Jj∘JZ∘aZ) λc=>U4 c.below (by simp;omega)
 exact (Jp 7∘aG∘Jj∘JZ∘aZ) λc=>U4 c.below (by simp;omega)
def q77 (b:Bs) (e:Ev) (S:e.Ok) (B:Nat) (w:World) (W:Laid B w) (T:B≤w.heap.size):Calls abm 244 #[.agg b.cells,.agg e.cells] w (ze w (mP b e) (sM b e)):=by
 refine (iX Tryz.func244 47) ?_
 refine (JP∘JE) λw2 U=>(JE) λw3 V=>(Jp 2∘Jq) ?_
 obtain ⟨N,y⟩:∃N,e.check=N:=⟨_,rfl⟩
 obtain ⟨m,z⟩:∃m,e.sK=m:=⟨_,rfl⟩
 have X:abl m≤4:=by rw [←z];exact q72 e
 refine (JG∘JP∘d9 wJ O0∘JK (h:=by exact λc=>q71 e S B _ (W.mem c T) (c.le T) y z)) λY cv wK hcv=>(Jp 1∘Jx∘Jx∘Jp 2∘Jj∘JQ∘JP∘Jp 2∘aK∘Jj) (Jh (λG=>?_) λG=>?_)
 ·
  exact (JT∘JP∘Jp 3∘Jj∘JZ∘bG) λc=>EF (zd6 y om) rfl c.below
 refine (JF∘aD∘JQ∘JP∘d9 jM O2∘JI (h:=by exact λc=>U9 b _)) λCY O=>(Jp 2) (Ju (λH=>?_) λH=>?_)
 ·
  exact (Jp 5∘aG∘Jj∘JT∘JP∘Jp 2∘Jj∘JZ∘bG) λc=>EF (U5 om (by simp_all)) rfl c.below
 refine (d9 jM O2∘d9 wJ O1∘JI (h:=by exact λc=>Ve b e _)) λNz O=>(Jp 2∘aG∘Jj) (Ju (λI=>?_) λI=>?_)
 ·
  exact (JT∘JP∘Jp 2∘Jj∘JZ∘bG) λc=>EF (U5 om (by simp_all)) rfl c.below
 have A:b.right=true∧b.behind e=true:=by simp_all
 have p:=q74 S om z A.1 A.2
 obtain ⟨q,J⟩:∃x,(e.seq-b.seq).toNat=x:=⟨_,rfl⟩
 obtain ⟨r,K⟩:∃x,(e.time-b.time).toNat=x:=⟨_,rfl⟩
 rw [J,K] at p
 obtain ⟨j,t⟩:∃j,(q::r::m).flatMap au=j:=⟨_,rfl⟩
 have hbl:abl j≤60:=by rw [←t];have:=zk (q::r::m);simp only [ab1] at this;omega
 refine (JF∘aD∘JP∘Jg 0 O1∘Jg 0 O2∘Jp 1∘Jo (vI (e.seq-b.seq)) (by exact ou ⟨by omega,by omega⟩)∘Jv 1 [(31,vQ (IntKind.u64.wrap (e.seq-b.seq)))]∘Jo (vQ q) (by exact U7 p.1 J)∘Jg 1 O1∘Jg 1 O2∘Jp 1∘Jo (vI (e.time-b.time)) (by exact ou ⟨by omega,by omega⟩)∘Jv 1 [(37,vQ (IntKind.u64.wrap (e.time-b.time)))]∘Jo (vQ r) (by exact U7 p.2.1 K)∘JU kK #[vQ q,vQ r]) λNA g38=>(Jp 1∘JC (h:=by exact λc=>c.dY (i:=0) (n:=2) (size:=1) rfl rfl de)∘JD (m.map bq) 0 (λ_ _=>aT) kK (hr:=by exact λc=>c.rd (i:=1) rfl) (h1:=by exact q73 _)) λw40 C D M=>(Jp 1∘aG∘Jq) ?_
 have o:(2+abl m)=abl (q::r::m):=aeu 2 _
 rw [o] at M
 refine (JC (h:=by exact λc=>c.aY (i:=0) (ys:=(q::r::m).map bq) rfl o (rfl))∘Jk 8 (.slice C (abl (q::r::m)) D) (h:=by exact iy o)) λa Z c=>?_
 refine q9 (λaS wS=>∃(s:Nat) (F:Option Addr) (E:Nat) (k:Option Addr) (g:Nat),Fr aS 47 [] [(46,.slice k (abl (e.kind::j)) g),(4,.slice k (abl (e.kind::j)) g),(5,vI 0),(25,.bool false),(15,.bool false),(7,vI N),(3,vP V 0),(2,vP U 0)]∧Mem w wS [.row (.slice F (abl j) E) (abl j) (j.map B8) 5 1,.row (.slice k (abl (e.kind::j)) g) (abl (e.kind::j)) ((e.kind::j).map B8) 5 1,.row (.slice C (abl (q::r::m)) D) (abl (q::r::m)) ((q::r::m).map bq) 41 1,.row (.slice Y (abl m) cv) (abl m) (m.map bq) 41 1,.blk V e.cells 73,.blk U b.cells 110]∧(abl j≤E)∧(abl (e.kind::j)≤g)) ?_ ?_
 ·
  refine Jb Z c ((Vs .n []) λVg=>(Vf 0 3∘Vp [3]∘Vc 1 O2) λa Z c u=>?_)
  refine zc [2,4] kr rfl ?_
  refine all_cons ?_ ?_
  ·refine qu Z (i:=2) rfl rfl ?_
   refine iT Z c aV [(0,vB e.kind)] #[vB e.kind] ?_
   clear Z c;intro a P s Z c
   refine ay (c.pk [1,2,3,4]) (λu=>?_)
   refine Vb Z c u ((VK 4 (.f .n) (h:=by exact λc=>U8 (c.rd (i:=1) rfl) p.2.2.1 (by simp only [ab1];omega) t)) λF E Q v=>λa Z c u=>?_)
   refine s_on Z 5 rfl ?_
   replace c:=c.dY (i:=1) (n:=1) (size:=1) rfl rfl de
   refine p9 Z c (i:=1) rfl aV rfl rfl rfl (news:=(j.map B8)) (c.rd (i:=0) rfl) (rR _) om om rfl de ?_
   clear Z c;intro a R k g Z c l
   refine ay (c.pk [2,3,4,5]) (λu=>?_)
   refine Vb Z c u ((Vp [6,7]∘Vd) ?_)
   have d:(1+abl j)=abl (e.kind::j):=aeu 1 _
   rw [d] at l
   intro a Z c
   replace c:=c.aY (i:=1) (ys:=(e.kind::j).map B8) rfl d (rfl)
   replace Z:=Z.sp 4 (.slice k (abl (e.kind::j)) g) rfl (iy d)
   replace Z:=Z.sp 46 (.slice k (abl (e.kind::j)) g) rfl (iy d)
   exact ⟨s,F,E,k,g,Z.sub kr,c.pk [0,1,2,3,4,5],v,l⟩
  refine all_cons ?_ all_nil
  refine qu Z (i:=4) rfl rfl ?_
  refine AO Z c [.slice C (abl (q::r::m)) D] (U8 (c.rd (i:=0) rfl) p.2.2.1 (by simp only [ab1];omega) t) λF E Q v c a Z=>?_
  refine ay (c.pk [1,2,3,4]) (λu=>?_)
  refine s_on Z 2 rfl (iT Z c aV [(0,vB e.kind)] #[vB e.kind] ?_)
  clear Z c;intro a P s Z c
  refine ay (c.pk [2,3,4,5]) (λu=>?_)
  refine s_on Z 5 rfl ?_
  replace c:=c.dY (i:=0) (n:=1) (size:=1) rfl rfl de
  refine p9 Z c (i:=0) rfl aV rfl rfl rfl (news:=(j.map B8)) (c.rd (i:=1) rfl) (rR _) om om rfl de ?_
  clear Z c;intro a R k g Z c l
  refine ay (c.pk [2,3,4,5]) (λu=>?_)
  refine Vb Z c u ((Vp [6,7]∘Vd) ?_)
  have d:(1+abl j)=abl (e.kind::j):=aeu 1 _
  rw [d] at l
  intro a Z c
  replace c:=c.aY (i:=0) (ys:=(e.kind::j).map B8) rfl d (rfl)
  replace Z:=Z.sp 4 (.slice k (abl (e.kind::j)) g) rfl (iy d)
  replace Z:=Z.sp 46 (.slice k (abl (e.kind::j)) g) rfl (iy d)
  exact ⟨s,F,E,k,g,Z.sub kr,c.pk [1,0,2,3,4,5],v,l⟩
 clear Z c;rintro a w7 ⟨s,F,E,k,g,Z,c,v,l⟩
 exact Jb Z c ((JZ∘bG) λc=>U6 (L:=e.kind::j) (zd8 y om A p t) (c.own (i:=1) rfl) l c.below)
def q78 (A:Option Addr) (c:Nat) (l:List Ev) (J:∀e∈l,e.Ok) (B:Nat) (w:World) (Q:Laid B w) (N:B≤w.heap.size) (hr:Rd w w.heap.size 11 A (abl l) (l.flatMap gZ)) (U:abl l≤140737488355328):Calls abm 171 #[.slice A (abl l) c] w (Is w (.tuple #[.int .i64 (gD l).1,.int .i64 ((gD l).2:Int)])):=by
 refine (dV Tryz.func171 57) ?_
 refine (JP∘Jp 2∘Jj∘JQ∘JP∘Jp 1∘Jl∘Jp 1∘Jj∘JB) λa Z b=>?_
 refine qg (λO K L=>∃(k:Nat),(k≤abl l)∧(gD l=gL (jV l k) k (l.drop k))∧O=abl l-k∧Fr K 57 [] [(9,vI k),(8,vI (abl l)),(7,.slice A (abl l) c),(3,vI 0),(2,vI 0),(0,.slice A (abl l) c)]∧Mem w L []) (m:=abl l-0) ⟨0,abw _,rfl,rfl,Z.sub kr,b.pk []⟩ ?_
 clear Z b;rintro O a V ⟨k,W,t,rfl,Z,b⟩
 refine Jb Z b ((JP∘Jp 1∘Jj∘JQ) (Ji (λC=>?_) λC=>?_))
 ·
  have y:k<abl l:=by omega
  obtain ⟨e,u⟩:∃e,l.getD k Ev.zero=e:=⟨_,rfl⟩
  obtain ⟨q,g⟩:∃q,l.getD (k-1) Ev.zero=q:=⟨_,rfl⟩
  have M:e.Ok:=J e (by rw [←u];exact qe Ev.zero y)
  have z:=row_step (p:=jV l k) y u
  refine (JT∘aD∘JQ∘JB∘JP∘Jp 1) ?_
  obtain ⟨gA,o,rfl,_⟩:=hr.sat k
  refine (gV k 11∘oK Ev.cells wo hr wJ k Ev.zero (hk:=y)∘Jo (.agg e.cells) (by rw [u])∘JA #[vI 0,vI 0,vB 0,vB 0,vI 0,vI 0,vI 0,vI 0,vI 0,vQ 0,vI 0]) λX D=>(Jp 1∘JV wJ aT (h1:=by exact Jz e)) λP=>(Jj∘JQ∘JP∘d9 wJ O0∘JI (h:=by exact λb=>q1q e M B _ (Q.mem b N) (b.le N))) λR S=>(Jp 1∘bH∘Jr∘Jp 2∘aK∘Jj) (Jh (λE=>?_) λE=>?_)
  ·
   exact (JT∘JP∘Jp 4∘Jj∘JZ∘bG) λb=>Ny (t.trans (z.trans (if_pos om))) rfl b.below
  refine (JF∘aD) λa Z b=>?_
  refine q9 (λK L=>Fr K 57 [] [(54,.bool (!(jV l k).all λq=>e.after q)),(17,.bool false),(6,vI e.check),(4,vI k),(5,vP D 0),(10,.bool true),(9,vI k),(8,vI (abl l)),(7,.slice (some ⟨gA,o,none⟩) (abl l) c),(3,vI 0),(2,vI 0),(0,.slice (some ⟨gA,o,none⟩) (abl l) c)]∧Mem w L [.blk D e.cells 73]) ?_ ?_
  ·
   refine Jb Z b ((Vs .n []) λT=>(Vp [0,1,2]) λa Z b f=>?_)
   rcases Z.tf 22 rfl with ⟨r,Z⟩|⟨r,Z⟩
   ·
    have F:=of_decide_eq_true r
    refine Vb Z b f ((Vf 3 2∘Vp [5,6]∘Vc 4 O0∘Vp [7]∘Vo (vI (k-1:Nat)) (by exact Nw om om)∘yY 8 (k-1) 11∘Vf 9 2∘EC 10 wo hr 2 (k-1) Ev.zero∘Vo (vB q.cpu) (by rw [g])∘Vp [11,12]) λa Z b f=>?_)
    rcases Z.tf 32 rfl with ⟨s,Z⟩|⟨s,Z⟩
    ·
     have G:=bne_iff_ne.1 s
     refine Vb Z b f ((Vq [13,14,15,16,17,18,19,20,21,22,23,24,25,26,27,28,29,30,31,32,33] [(53,.bool true)]∘Vq [34] [(54,.bool true)]∘Vo (.bool (!(jV l k).all λq=>e.after q)) (by exact Kn g (by first|exact iff_of_true rfl om|exact iff_of_false de om|exact decide_eq_true_iff.trans om))∘Vd∘aG) λa Z b=>?_)
     exact ⟨Z.sub kr,b.pk [0]⟩
    have G:=bne_eq_false_iff_eq.1 s
    refine ap Z (λ_=>f) [13,15,16] (bf 35 [0,1,2,3,4,5,6,7,8,9,10,11,12,13,15,16]) [(36,vI k),(35,.slice (some ⟨gA,o,none⟩) (abl l) c),(33,vP D 0)] λa Z=>?_
    refine dO Z f 14 0 (v:=vI e.seq) λa Z=>?_
    refine rQ Z (λ_=>f) (i:=17) rfl rfl (d:=37) rfl de kr (λ_ _ _ h=>h) (v:=vI (IntKind.i64.wrap ((k:Int)-1))) (λ_=>Yl.pure kr) λa Z=>?_
    replace Z:=Z.sp 37 (vI (k-1:Nat)) rfl (Nw om om)
    refine jG Z f 18 rfl (v:=vP gA (o+(k-1)*11)) (Yl.ix gA o (k-1) 11 rfl rfl rfl) λa Z=>?_
    refine ap Z (λ_=>f) [19] (bt 35 [20,21,22,23,24,25,26,27,28,29,30,31,32,33,34]) [(39,vP gA (o+(k-1)*11))] λa Z=>?_
    refine jG Z f 20 rfl (v:=vI ((l.getD (k-1) Ev.zero).seq)) (Pd rfl rfl kr (λ_ h=>(by have:=(h.old hr).partAt wo (k:=(k-1)) (j:=0) (x:=(l.getD (k-1) Ev.zero)) ((getD_at Ev.zero (k:=k-1) om)) rfl;simpa using this))) λa Z=>?_
    replace Z:=Z.sp 40 (vI q.seq) rfl (by rw [g])
    refine ap Z (λ_=>f) [21,22,23] (bt 35 [24,25,26,27,28,29,30,31,32,33,34]) [(43,.bool (decide ((e.seq:Int)≤(q.seq:Int))))] λa Z=>?_
    refine Jb Z b (Ji (λH=>?_) λH=>?_)
    ·
     intro a Z b
     refine ap Z (λ_=>f) [24,25,26,27,28,29,30,31,32,33] (bt 35 [34]) [(53,.bool true)] λa Z=>?_
     refine rQ Z (λ_=>f) (i:=34) rfl rfl (d:=54) rfl de kr (λ_ _ _ h=>h) (v:= .bool true) (λ_=>Yl.pure kr) λa Z=>?_
     replace Z:=Z.sp 54 (.bool (!(jV l k).all λq=>e.after q)) rfl (Kn g (by first|exact iff_of_true rfl om|exact iff_of_false de om|exact decide_eq_true_iff.trans om))
     refine qd kr ?_
     exact ⟨Z.sub kr,b.pk [0]⟩
    intro a Z b
    refine ap Z (λ_=>f) [24,26,27] (bt 35 [25,28,29,30,31,32,33,34]) [(47,vI k),(46,.slice (some ⟨gA,o,none⟩) (abl l) c),(44,vP D 1)] λa Z=>?_
    refine dO Z f 25 0 (v:=vI e.time) λa Z=>?_
    refine rQ Z (λ_=>f) (i:=28) rfl rfl (d:=48) rfl de kr (λ_ _ _ h=>h) (v:=vI (IntKind.i64.wrap ((k:Int)-1))) (λ_=>Yl.pure kr) λa Z=>?_
    replace Z:=Z.sp 48 (vI (k-1:Nat)) rfl (Nw om om)
    refine jG Z f 29 rfl (v:=vP gA (o+(k-1)*11)) (Yl.ix gA o (k-1) 11 rfl rfl rfl) λa Z=>?_
    refine ap Z (λ_=>f) [30] (bt 35 [31,32,33,34]) [(50,vP gA (o+(k-1)*11+1))] λa Z=>?_
    refine jG Z f 31 rfl (v:=vI ((l.getD (k-1) Ev.zero).time)) (Pd rfl rfl kr (λ_ h=>(h.old hr).partAt wo (k:=(k-1)) (j:=1) (x:=(l.getD (k-1) Ev.zero)) ((getD_at Ev.zero (k:=k-1) om)) rfl)) λa Z=>?_
    replace Z:=Z.sp 51 (vI q.time) rfl (by rw [g])
    refine ap Z (λ_=>f) [32,33] (bt 35 [34]) [(53,.bool (decide ((e.time:Int)<(q.time:Int))))] λa Z=>?_
    refine rQ Z (λ_=>f) (i:=34) rfl rfl (d:=54) rfl de kr (λ_ _ _ h=>h) (v:= .bool (decide ((e.time:Int)<(q.time:Int)))) (λ_=>Yl.pure kr) λa Z=>?_
    replace Z:=Z.sp 54 (.bool (!(jV l k).all λq=>e.after q)) rfl (Kn g (by first|exact iff_of_true rfl om|exact iff_of_false de om|exact decide_eq_true_iff.trans om))
    refine qd kr ?_
    replace Z:=Z.to [(54,.bool (!(jV l k).all λq=>e.after q)),(17,.bool false),(6,vI e.check),(4,vI k),(5,vP D 0),(10,.bool true),(9,vI k),(8,vI (abl l)),(7,.slice (some ⟨gA,o,none⟩) (abl l) c),(3,vI 0),(2,vI 0),(0,.slice (some ⟨gA,o,none⟩) (abl l) c)]
    exact ⟨Z.sub kr,b.pk [0]⟩
   have F:=of_decide_eq_false r
   refine ap Z (λ_=>f) [3,4,5,6,7,8,9,10,11,12,13,14,15,16,17,18,19,20,21,22,23,24,25,26,27,28,29,30,31,32,33] (bt 35 [34]) [(53,undef)] λa Z=>?_
   refine rQ Z (λ_=>f) (i:=34) rfl rfl (d:=54) rfl de kr (λ_ _ _ h=>h) (v:= .bool false) (λ_=>Yl.pure kr) λa Z=>?_
   replace Z:=Z.sp 54 (.bool (!(jV l k).all λq=>e.after q)) rfl (Kn g (by first|exact iff_of_true rfl om|exact iff_of_false de om|exact decide_eq_true_iff.trans om))
   refine qd kr ?_
   exact ⟨Z.sub kr,b.pk [0]⟩
  clear Z b;rintro a Y ⟨Z,b⟩
  refine Jb Z b (Ju (λI=>?_) λI=>?_)
  ·
   exact (JT∘JP∘Jp 3∘Jj∘JZ∘bG) λb=>Ny (m:=71) (t.trans (z.trans ((if_neg om).trans (if_pos (by simp_all))))) rfl b.below
  refine (JF∘aD∘JR∘bT 1∘Jp 1∘aK∘Jq) λa Z b=>?_
  exact ⟨_,om,k+1,by omega,(t.trans (z.trans ((if_neg om).trans ((if_neg (by simp_all)).trans (by rw [q75 u]))))),rfl,Z.sub kr,b.pk []⟩
 exact (JF∘JX∘JG∘JP∘Jp 2∘Jj∘JZ∘bG) λb=>Ny (m:=0) (t.trans (zd9 om)) rfl b.below
theorem q1t (b:Bs) (e:Ev) (a:e.Ok) {l:List Nat} (h:mP b e=0) (hb:zy b e=l) (B:Nat) (w:World) (c:Laid B w) (d:B≤w.heap.size):Calls abm 244 #[.agg b.cells,.agg e.cells] w (ze w 0 l):=by
 have k:=q77 b e a B w c d
 have f:sM b e=l:=by unfold sM;rw [if_pos h,hb]
 rwa [h,f] at k
def Vh (A:Option Addr) (c:Nat) (l:List Ev) (a:∀e∈l,e.Ok) (B:Nat) (w:World) (b:Laid B w) (d:B≤w.heap.size) (hr:Rd w w.heap.size 11 A (abl l) (l.flatMap gZ)) (f:abl l≤140737488355328) {v:Int} {m:Nat} (h:gD l=(v,m)):Calls abm 171 #[.slice A (abl l) c] w (Is w (.tuple #[.int .i64 v,.int .i64 (m:Int)])):=by
 have k:=q78 A c l a B w b d hr f
 rwa [h] at k
def qsx (b:Bs) (A:Option Addr) (c:Nat) (l:List Ev) (I:∀e∈l,e.Ok) (B:Nat) (w:World) (hL:Laid B w) (R:B≤w.heap.size) (hr:Rd w w.heap.size 11 A (abl l) (l.flatMap gZ)) (hn:abl l≤1000000000000):Calls abm 228 #[.agg b.cells,.slice A (abl l) c] w (ze w (zo b l) (qR b l)):=by
 refine (iX Tryz.func228 56) ?_
 refine (JP∘JE) λw2 S=>(Jp 2∘Jq) ?_
 obtain ⟨ri,T,q⟩:∃ri T,gD l=(ri,T):=⟨_,_,rfl⟩
 refine (JG∘JQ∘JP∘Jp 1∘JI (h:=by exact λg=>Vh A c l I B _ (hL.mem g R) (g.le R) (g.old hr) om q)) λw15 z=>(Jp 1∘Jx∘Jx∘Jp 2∘aG∘Jr∘Jp 2∘aK∘Jj) (Jh (λJ=>?_) λJ=>?_)
 ·
  exact (JT∘JP∘Jp 3∘Jj∘JZ∘bG) λg=>EF (qx0 q om) rfl g.below
 obtain ⟨G,r⟩:∃e,l.getD 0 Ev.zero=e:=⟨_,rfl⟩
 refine (JF∘aD∘JQ) λa Z g=>?_
 refine q9 (λU V=>Fr U 56 [] [(36,.bool (!(b.right&&l.head?.all b.behind))),(19,.bool false),(7,vI T),(5,vI 0),(4,.slice none 0 0),(2,vP S 0),(1,.slice A (abl l) c)]∧Mem w V [.blk S b.cells 110]) ?_ ?_
 ·
  refine Jb Z g ((Vs .n []) λwd4=>(qF 0 jM O0∘VI 1 .n (h:=by exact λg=>U9 b _)) λNC z=>(Vp [2,3]) λa Z g o=>?_)
  rcases Z.tf 24 rfl with ⟨K,Z⟩|⟨K,Z⟩
  ·
   refine Vb Z g o ((Vq [4,5,6,7,8,9,10,11,12,13,14] [(35,undef)]∘Vq [15] [(36,.bool true)]∘Vo (.bool (!(b.right&&l.head?.all b.behind))) (by exact AQ (by rw [r];first|exact iff_of_true rfl (by simp_all)|exact iff_of_false de (by simp_all;omega)|simp_all))∘Vd∘aG) λa Z g=>?_)
   exact ⟨Z.sub kr,g.pk [0]⟩
  refine ap Z (λ_=>o) [4] (bf 16 [0,1,2,3,4]) [(25,.slice A (abl l) c)] λa Z=>?_
  refine xw Z o 5 λa Z=>?_
  refine ap Z (λ_=>o) [6,7] (bf 16 [0,1,2,3,4,5,6,7]) [(28,.bool (decide ((abl l:Int)>(0:Int))))] λa Z=>?_
  refine Jb Z g (Ji (λM=>?_) λM=>?_)
  ·
   intro a Z g
   refine ap Z (λ_=>o) [9] (bt 16 [8,10,11,12,13,14,15]) [(30,.slice A (abl l) c)] λa Z=>?_
   refine jG Z o 8 rfl (v:= .agg b.cells) (Pe rfl rfl jM rfl (λ_ h=>qi (h.blk (i:=0) rfl))) λa Z=>?_
   revert g;revert a;repeat (first|clear Z|clear g)
   intro a Z g
   obtain ⟨gA,W,rfl,_⟩:=hr.sat 0
   refine jG Z o 10 rfl (v:=vP gA W) (Yl.indexAddr (ad:=⟨gA,W,none⟩) (y:=0) (sz:=11) rfl rfl rfl om kr) λa Z=>?_
   refine jG Z o 11 rfl (v:= .agg ((l.getD 0 Ev.zero).cells)) (Pe rfl rfl wJ rfl (λ_ h=>(h.old hr).Ay wo ((getD_at Ev.zero (k:=0) om)))) λa Z=>?_
   replace Z:=Z.sp 32 (.agg G.cells) rfl (by rw [r])
   refine s_on Z 12 rfl (iR Z g [.agg b.cells,.agg G.cells] (.bool (b.behind G)) rfl rfl (Ve b G _) λKo z g a Z=>?_)
   refine ay (g.pk [0]) (λo=>?_)
   refine ap Z (λ_=>o) [13,14] (bt 16 [15]) [(35,.bool (!(b.behind G)))] λa Z=>?_
   refine rQ Z (λ_=>o) (i:=15) rfl rfl (d:=36) rfl de kr (λ_ _ _ h=>h) (v:= .bool (!(b.behind G))) (λ_=>Yl.pure kr) λa Z=>?_
   replace Z:=Z.sp 36 (.bool (!(b.right&&l.head?.all b.behind))) rfl (AQ (by rw [r];first|exact iff_of_true rfl (by simp_all)|exact iff_of_false de (by simp_all;omega)|simp_all))
   refine qd kr ?_
   exact ⟨Z.sub kr,g.pk [0]⟩
  intro a Z g
  refine ap Z (λ_=>o) [8,9,10,11,12,13,14] (bt 16 [15]) [(35,.bool false)] λa Z=>?_
  refine rQ Z (λ_=>o) (i:=15) rfl rfl (d:=36) rfl de kr (λ_ _ _ h=>h) (v:= .bool false) (λ_=>Yl.pure kr) λa Z=>?_
  replace Z:=Z.sp 36 (.bool (!(b.right&&l.head?.all b.behind))) rfl (AQ (by rw [r];first|exact iff_of_true rfl (by simp_all)|exact iff_of_false de (by simp_all;omega)|simp_all))
  refine qd kr ?_
  exact ⟨Z.sub kr,g.pk [0]⟩
 clear Z g;rintro a w4 ⟨Z,g⟩
 refine Jb Z g (Ju (λp=>?_) λp=>?_)
 ·
  exact (JT∘JP∘Jp 2∘Jj∘JZ∘bG) λg=>EF (qsw q om (λh=>by rw [h] at p;exact absurd p de)) rfl g.below
 have N:(b.right&&l.head?.all b.behind)=true:=by simpa using p
 refine (JF∘aD∘JP∘Jp 1∘Jq∘JC (h:=by exact λg=>g.nil 5 1)∘JG∘JQ∘JP∘Jp 1∘Jl∘Jp 1∘Jj∘JB) λa Z g=>?_
 refine qg (λmS U V=>∃(k:Nat) (pre:List Nat) (H:Bs) (X:Option Addr) (co:Nat),(k≤abl l)∧(abl pre≤61*k)∧(H=Aq b l k)∧(recs b l=pre++recs H (l.drop k))∧(abl pre≤co)∧mS=abl l-k∧Fr U 56 [] [(39,vI k),(38,vI (abl l)),(37,.slice A (abl l) c),(8,.slice X (abl pre) co),(36,.bool false),(19,.bool false),(7,vI T),(5,vI 0),(4,.slice none 0 0),(2,vP S 0),(1,.slice A (abl l) c)]∧Mem w V [.row (.slice X (abl pre) co) (abl pre) (pre.map B8) 5 1,.blk S H.cells 110]) (m:=abl l-0) ⟨0,[],b,none,0,abw _,abw _,rfl,rfl,abw _,rfl,Z.sub kr,g.pk [0,1]⟩ ?_
 clear Z g;rintro mS a w_ ⟨k,pre,H,X,co,hk,hpl,Y,O,hco,rfl,Z,g⟩
 refine Jb Z g ((JP∘Jp 1∘Jj∘JQ) (Ji (λP=>?_) λP=>?_))
 ·
  have C:k<abl l:=by omega
  obtain ⟨e,D⟩:∃e,l.getD k Ev.zero=e:=⟨_,rfl⟩
  have tY:e.Ok:=I e (by rw [←D];exact qe Ev.zero C)
  have s:=q1s q om N C Y D
  obtain ⟨u,Q⟩:∃u,zy H e=u:=⟨_,rfl⟩
  rw [Q] at s
  refine (JT∘aD∘JQ∘JB∘JP) ?_
  obtain ⟨gA,W,rfl,_⟩:=hr.sat k
  refine (gV k 11∘oK Ev.cells wo hr wJ k Ev.zero (hk:=C)∘Jo (.agg e.cells) (by rw [D])∘JA #[vI 0,vI 0,vB 0,vB 0,vI 0,vI 0,vI 0,vI 0,vI 0,vQ 0,vI 0]) λtZ g10=>(JV wJ aT (h1:=by exact Jz e)) λND=>(bH∘Jr∘d9 jM O2∘d9 wJ O0∘JK (h:=by exact λg=>q1t H e tY s.1 Q B _ (hL.mem g R) (g.le R))) λAr cr EG hcr=>(Jp 1∘Jx∘Jx∘Jp 2∘mW∘Jj∘Vs (.t (.t (.f .n))) [6]) λNG=>(Vp [0,1]∘qF 3 wJ O1) λa Z g o=>?_
  refine s_on Z 2 rfl (p9 Z g (i:=2) rfl aV rfl rfl rfl (news:=(u.map B8)) (g.rd (i:=0) rfl) (rR _) om om rfl de ?_)
  clear Z g;intro a w51 E F Z g x
  refine ay (g.pk [0,1,3]) (λo=>?_)
  refine Vb Z g o ((VI 4 (.t (.t (.f .n))) (h:=by exact λg=>zh2 e _)) λVi z=>(Vp [5]) λa Z g o=>?_)
  refine s_on Z 6 rfl (cK Z g 3 rfl rfl rfl rfl rfl jM rfl rfl (MP e.at) λVj g=>?_)
  refine dJ kr ?_
  refine qd kr ?_
  have j:(abl pre+abl u)=abl (pre++u):=by rw [abn]
  rw [j] at x
  replace g:=g.aY (i:=2) (ys:=(pre++u).map B8) rfl j (by rw [abV])
  replace Z:=Z.sp 8 (.slice E (abl (pre++u)) F) rfl (iy j)
  replace Z:=Z.sp 51 (.slice E (abl (pre++u)) F) rfl (iy j)
  refine Jb Z g ((JG∘JR∘bT 1∘Jp 1∘aK∘Jq) λa Z g=>?_)
  exact ⟨_,om,k+1,(pre++u),e.at,E,F,by omega,by rw [abn];omega,s.2.2.1,(O.trans (by rw [s.2.1,aby])),x,rfl,Z.sub kr,g.pk [2,3]⟩
 exact (JF∘JX∘JG∘JP∘Jp 3∘Jj∘JZ∘bG) λg=>U6 (L:=pre) (qx1 q om N O om) (g.own (i:=0) rfl) hco g.below
def q79 (b:Bs) (A:Option Addr) (n c:Nat) (l:List Ev) (a:∀e∈l,e.Ok) (B:Nat) (w:World) (d:Laid B w) (f:B≤w.heap.size) (hr:Rd w w.heap.size 11 A n (l.flatMap gZ)) (g:n≤1000000000000) {er:Nat} {R:List Nat} (h1:zo b l=er) (h2:qR b l=R):
  Calls abm 228 #[.agg b.cells,.slice A n c] w (ze w er R):=by
 obtain rfl:abl l=n:=Ub hr
 subst h1;subst h2
 exact qsx b A c l a B w d f hr g
def zh3 (A:Option Addr) (n c:Nat) (l:List Ev) (a:∀e∈l,e.Ok) (B:Nat) (w:World) (b:Laid B w) (d:B≤w.heap.size) (hr:Rd w w.heap.size 11 A n (l.flatMap gZ)) (f:n≤140737488355328) {i:Int} {er:Nat} (h:gD l=(i,er)):
  Calls abm 171 #[.slice A n c] w (Is w (.tuple #[.int .i64 i,.int .i64 (er:Int)])):=by
 obtain rfl:abl l=n:=Ub hr
 exact Vh A c l a B w b d hr f h
section
variable {xs l:List Nat} {q k x m e:Nat}
end
section
variable {b:Bs} {cpu kd:Nat} {l xs:List Nat} {q e:Nat}
end
section
variable {b bk:Bs} {cpu m a mm er:Nat} {l rest:List Nat} {es:List Ev} {e:Ev}
end
section
variable {b:Bs} {cpu:Nat} {n:Int} {l:List Nat}
end
structure Bk where
 kind:Nat
 cpu:Nat
 lost:Int
 next:Int
 evs:List Ev
structure Bk.Ok (b:Bk):Prop where
 kind:b.kind<256
 cpu:b.cpu<256
 lost:aR b.lost
 next:aR b.next
 evs:∀e∈b.evs,e.Ok
def Bk.zero:Bk:=⟨0,0,0,0,[]⟩
def Bk.CZ (b:Bk):Bool:=match b.evs with
 |[]=>decide (0<b.lost)
 |e::_=>decide (e.cpu=b.cpu)
def Bk.oM (b:Bk):Bool:=decide ((gD b.evs).2=0∧b.cpu<64∧0≤b.lost∧b.lost≤281474976710656∧b.next=0∧b.CZ=true)
def Bk.uf (b:Bk):Bool:=decide (1≤b.next∧b.next≤281474976710657∧b.cpu=0∧b.lost=0∧abl b.evs=0)
def Bk.fits (b:Bk):Bool:=if b.kind=1 then b.oM else if b.kind=2 then b.uf else false
def Bk.base (b:Bk):Bs:=(b.evs.headD Ev.zero).at
def Bk.body (b:Bk):List Nat:=
 if b.kind=2 then au b.next.toNat
 else au b.cpu++au b.lost.toNat++au (abl b.evs)++(if abl b.evs=0 then [] else au b.base.seq.toNat++au b.base.time.toNat++recs b.base b.evs)
def Bk.raw (b:Bk):List Nat:=qB (12+abl b.body)++[113,116,1,b.kind]++b.body
def Bk.err (b:Bk):Nat:=if b.fits=false then 107 else if 4096<12+abl b.body then 3 else 0
def Bk.out (b:Bk):List Nat:=if b.err=0 then bA b.raw else []
def aU (l:List Nat):Nat×Nat:=if abl l<4 then (0,100) else if jU l<13∨4096<jU l then (0,101) else if abl l<jU l then (0,100) else (jU l,0)
def jg (most:Nat) (l:List Nat):Bool:=decide ((aB l).2.2=0∧(aB l).1≤most)
def q5 (l:List Nat):List Nat:=l.drop (aB l).2.1
def bJ (most:Nat) (l:List Nat):Nat:=if most<(aB l).1 then most else (aB l).1
def ug (l:List Nat):Option Bk:=
 if jg 281474976710657 l=true∧abl (q5 l)=0∧Bk.fits ⟨2,0,0,bJ 281474976710657 l,[]⟩=true then some ⟨2,0,0,bJ 281474976710657 l,[]⟩ else none
def q1x (cpu lost:Nat) (l:List Nat) (q:List Ev×Nat×Nat):Option Bk:=
 if q.2.2=0∧(q.1.headD Ev.zero).seq=bJ 281474976710656 l∧(q.1.headD Ev.zero).time=bJ 281474976710656 (q5 l)∧jg 281474976710656 l=true∧jg 281474976710656 (q5 l)=true∧abl ((q5 (q5 l)).drop q.2.1)=0∧Bk.fits ⟨1,cpu,lost,0,q.1⟩=true then some ⟨1,cpu,lost,0,q.1⟩ else none
def VB (l:List Nat):Bool:=jg 63 l&&jg 281474976710656 (q5 l)&&jg 4096 (q5 (q5 l))
def q8c (l:List Nat):Option Bk:=
 if VB l=true∧0<bJ 4096 (q5 (q5 l)) then
  q1x (bJ 63 l) (bJ 281474976710656 (q5 l)) (q5 (q5 (q5 l)))
   (Eb ⟨bJ 281474976710656 (q5 (q5 (q5 l))),bJ 281474976710656 (q5 (q5 (q5 (q5 l))))⟩ (bJ 63 l) (bJ 4096 (q5 (q5 l))) (q5 (q5 (q5 (q5 (q5 l))))))
 else if VB l=true∧abl (q5 (q5 (q5 l)))=0∧Bk.fits ⟨1,bJ 63 l,bJ 281474976710656 (q5 l),0,[]⟩=true then some ⟨1,bJ 63 l,bJ 281474976710656 (q5 l),0,[]⟩ else none
def C8 (kind:Nat) (l:List Nat):Option Bk:=if kind=2 then ug l else q8c l
def fH (l:List Nat):Option Bk×Nat:=
 if zl l=false then (none,102)
 else if ¬(l.getD 4 0=113∧l.getD 5 0=116) then (none,103)
 else if l.getD 6 0≠1 then (none,104)
 else if l.getD 7 0≠1∧l.getD 7 0≠2 then (none,105)
 else match C8 (l.getD 7 0) ((l.take (abl l-4)).drop 8) with
  |none=>(none,106)
  |some b=>(some b,0)
def dw (l:List Nat):Bk×Nat×Nat:=
 if (aU l).2≠0 then (Bk.zero,0,(aU l).2)
 else match (fH (l.take (aU l).1)).1 with
  |some b=>(b,(aU l).1,0)
  |none=>(Bk.zero,0,(fH (l.take (aU l).1)).2)
def qx3 (a:∀x∈l,x<256):∀x∈q5 l,x<256:=λx b=>a x (abZ b)
variable {b:Bk}
def q8d (h:b.fits=true) (hk:b.kind=2):b.uf=true:=by unfold Bk.fits at h;rwa [if_neg om,if_pos hk] at h
theorem NI (h:b.fits=true) (hk:b.kind≠2):b.kind=1∧b.oM=true:=by grind [Bk.fits]
theorem q1y (b:Bs) (e:Ev):abl (zy b e)≤61:=by grind [Ev.vals,zk,zy,yN,D9,Al]
theorem VD:∀(l:List Ev) (b:Bs),abl (recs b l)≤61*abl l:=by intro x;induction x<;>grind [q1y,recs]
def NJ {cpu:Nat}:∀(es:List Ev) (p:Option Ev) (b:Bs) (i:Nat),(∀e∈es,e.Ok)→b.right=true→(∀e∈es.head?,b.behind e=true∧e.cpu=cpu)→(∀q,p=some q→b=q.at∧q.cpu=cpu)→(gL p i es).2=0→Chain cpu p b es
 |[],_,_,_,_,_,_,_,_=>trivial
 | e :: r, p, b, i, a, g, j, l, h => by
  rw [gL] at h
  split at h
  ·rename_i h1;exact absurd h h1
  ·rename_i h1
   split at h
   ·cases h
   ·rename_i h2
    have hc:e.check=0:=by omega
    obtain ⟨k,f⟩:=j e (by simp)
    refine ⟨⟨g,hc,a e (by simp),k⟩,f,?_,?_⟩
    ·grind [Ev.after]
    ·refine NJ r (some e) e.at (i+1) (λx c=>a x (by simp [c])) (EJ hc) ?_ (λq d=>by injection d with d;subst d;exact ⟨rfl,f⟩) h
     intro x c
     cases r with
     |nil=>cases c
     |cons y r=>
      grind [Bs.behind,Ev.after,Ev.at,gL]
def VE {l:List Ev} (h:(gD l).2=0) (a:l.head?=some e):e.check=0:=by
 cases l with
 |nil=>cases a
 |cons x r=>
  grind [gL,gD]
theorem VF (e:Ev):e.at.behind e=true:=by grind [Bs.behind,Ev.at]
structure AU (b:Bk) (e:Ev) (r:List Ev):Prop where
 evs:b.evs=e::r
 cpu:e.cpu=b.cpu
 base:b.base=e.at
 check:e.check=0
 right:e.at.right=true
 chain:Chain b.cpu none e.at b.evs
def VG (c:b.Ok) (h:b.oM=true) (d:abl b.evs≠0):∃e r,AU b e r:=by
 unfold Bk.oM at h
 rw [decide_eq_true_eq] at h
 obtain ⟨h1,h2,h3,h4,h5,h6⟩:=h
 cases hev:b.evs with
 |nil=>rw [hev] at d;simp at d
 |cons e r=>
  have hc:e.check=0:=VE h1 (by rw [hev];rfl)
  have a:e.cpu=b.cpu:=by unfold Bk.CZ at h6;rw [hev] at h6;simpa using h6
  refine ⟨e,r,hev,a,by unfold Bk.base;rw [hev];rfl,hc,EJ hc,?_⟩
  refine NJ b.evs none e.at 0 c.evs (EJ hc) ?_ (λq f=>by cases f) h1
  grind [VF]
def qx4 (a:b.Ok) (h:b.oM=true) (c:abl b.evs≠0):zo b.base b.evs=0∧qR b.base b.evs=recs b.base b.evs:=by
 obtain ⟨e,r,g⟩:=VG a h c
 rw [g.base]
 obtain ⟨_,h1,h2⟩:=Vz g.right g.chain
 exact ⟨h1,h2⟩
theorem q1z (h:x≤281474976710657):aR (x:Int):=by unfold aR;omega
def Wh (h:(aU l).2=0):jU l=(aU l).1∧13≤(aU l).1∧(aU l).1≤4096∧(aU l).1≤abl l:=by
 unfold aU at h⊢
 split at h
 ·cases h
 ·split at h
  ·cases h
  ·split at h
   ·cases h
   ·rename_i h1 h2 h3
    rw [if_neg h1,if_neg h2,if_neg h3]
    omega
def iF (l:List Nat):Prop:=∀i,7≤i→l.getD i 0≠1
theorem iF.drop (h:iF l) (p:Nat):iF (l.drop p):=λi hi=>by
 rw [abo,acI,←abo]
 exact h (p+i) om
theorem iF.take (h:iF l) (n:Nat):iF (l.take n):=λi hi=>by
 rw [abo,ado]
 split
 ·rw [←abo];exact h i hi
 ·decide
def zee (h:((l.drop 7).all λx=>x !=1)=true):iF l:=λi hi a=>by
 rw [abo] at a
 cases hx:l[i]? with
 |none=>rw [hx] at a;cases a
 |some x=>
  rw [hx] at a
  have a:x=1:=a
  have hm:x∈l.drop 7:=abM (i:=i-7) (by rw [acI,Nat.add_sub_cancel' hi];exact hx)
  have h1:=List.all_eq_true.1 h x hm
  rw [a] at h1
  cases h1
theorem Ky (f:α→List Value) (sz:Nat) (a:∀x,abl (f x)=sz):∀(l:List α) (k:Nat),(l.flatMap f).take (k*sz)=(l.take k).flatMap f
 |[],_=>by simp
 |_::_,0=>by simp
 |x::l,k+1=>by
  rw [abT,List.take_succ_cons,abT,List.take_append,abP (by rw [a,adj];omega),a,←Ky f sz a l k]
  congr 2
  rw [adj];omega
def qW (x:Sm):List Value:=x.cells.toList
theorem Db (x:Sm):abl (qW x)=11:=rfl
def uq:SI abm 280 11:=⟨by kernel_rfl,by kernel_rfl⟩
theorem zB:EI abm 111 280 (.agg (Sm.cells ⟨0,0,0,0,0,0,0,0,0,0,0⟩)) 11 48:=⟨by kernel_rfl,by kernel_rfl,rfl,by omega⟩
structure oN (w:World) (es:List Ev) (r:Ending) (w':World):Prop where
 ret:∃v,r= .returned v∧w'.ownsRow w.heap.size 73 11 v (abl es) (es.flatMap gZ)
 below:Below w.heap.size w w'
theorem zh9 (n:Nat) (l:List Sm) (h:abl l=n):abQ .i64 (if ((200:Int)<(n:Int)) then 200 else (n:Int))= .int .i64 ((abl (l.take 200):Nat):Int):=by
 congr 1
 rw [abr]
 split<;>omega
def Wv {t:TypeId} {a b d:Nat} (h:w.heap[g]?=some (.cells #[.int .i64 (a:Int),.int .i64 (b:Int),.int .i64 (c:Int),.int .i64 (d:Int)] t (0,0))) {k r:Nat} (hk:k<4) (hr:(if k=0 then a else if k=1 then b else if k=2 then c else d)=r):w.cell? ⟨g,k*1,none⟩=some (.int .i64 (r:Int)):=by
 subst hr
 unfold World.cell?
 rw [h]
 obtain rfl|rfl|rfl|rfl:k=0∨k=1∨k=2∨k=3:=by omega
 all_goals rfl
def qyc (k:Nat):0<qV k∧qV k≤4294967296:=by unfold qV;split<;>(try split)<;>(try split)<;>omega
def q2o (k:Nat):0<stepT k∧stepT k≤4294967296:=by unfold stepT;split<;>(try split)<;>(try split)<;>omega
def go_step {cpu:Nat} {a:Bs} {L:List Sm} {x y:Sm} {z:Ev} (b:L[k]?=some x) (hy:({x with cpu:=cpu}:Sm)=y) (hz:y.ev.moved (a.step x).seq (a.step x).time=z):uo cpu a (L.drop k)=z::uo cpu (a.step x) (L.drop (k+1)):=by
 obtain ⟨c,d⟩:=abv.1 b
 rw [acn c,d,uo,hy,hz]
def qyd (cpu:Nat) (D:cpu<256) (b:Bs) (hb:b.Ok) (A:Option Addr) (c:Nat) (l:List Sm) (hl:∀x∈l,x.Ok) (w:World) (hr:Rd w w.heap.size 11 A (abl l) (l.flatMap qW)) (hc:abl l≤c) (hn:abl l≤9223372036854775807):
    Calls abm 104 #[.int .u8 (cpu:Int),.agg b.cells,.slice A (abl l) c] w (oN w (kZ cpu b l)):=by
 refine (xD Tryz.func104 74) ?_
 refine (JP∘JE) λw4 g4=>(Jp 1∘Jq) ?_
 obtain ⟨_,hb1,hb2,hb3,hb4⟩:=Oe b
 obtain ⟨L,r⟩:∃L,l.take 200=L:=⟨_,rfl⟩
 have O:abl L≤abl l∧abl L≤200:=by rw [←r,abr];omega
 have P:∀x∈L,x.Ok:=λx E=>hl x (acg (by rw [r];exact E))
 have F:Rd w w.heap.size 11 A (abl L) (L.flatMap qW):=by have h:=hr.upto (k:=abl L) O.1;rwa [Ky qW 11 Db,show l.take (abl L)=L by rw [←r,abr];rcases Nat.le_total 200 (abl l) with h|h;rw [Nat.min_eq_left h];rw [Nat.min_eq_right h,abP (abq _),abP h]] at h
 refine (JG∘JP∘d9 jM O0∘JL (h:=by exact λe=>q2l b hb _)) ?_
 rintro e _ wL ⟨rfl,B⟩
 refine ⟨_,rfl,_,e.call B,?_⟩
 refine (JA #[vI 0,vI 0]) λw7 g7=>(JV jM aT (h1:=by exact MP b.based)) λOh=>(bH∘Jr∘Jg 0 O0∘Jp 1∘Jo (vI (b.based.seq-1)) (by exact ou ⟨by omega,by omega⟩)∘Jf 0) λa Z e=>?_
 refine fo Z 4 rfl rfl ?_
 refine pQ Z e (i:=0) rfl rfl rfl rfl kr rfl rfl (by simp [Bs.cells]) λafI e=>?_
 refine Jb Z e ((ow∘Jr∘Jp 1∘Jq∘JC (h:=by exact λe=>e.nil 73 11)∘JG∘JQ∘JP∘Jp 2∘Jl∘Jy (v:=vI (if (200:Int)<(abl l:Int) then 200 else (abl l:Int))) (h:=by exact Yl.min rfl rfl rfl)∘Jo (vI (abl L)) (by rw [←r];exact zh9 _ _ rfl)∘Jy (h:=by exact aag zB (j:=abl L) rfl rfl rfl om)∘Jl∘Jp 1∘Jj∘JB) λa Z e=>?_)
 refine qg (λmS aS G=>∃(k:Nat) (pre:List Ev) (g:Bs) (Q:Option Addr) (co:Nat),(k≤abl L)∧(uo cpu b.start L=pre++uo cpu g (L.drop k))∧(abl pre=k)∧(abl pre≤co)∧(0≤g.seq∧g.seq≤1099511627776+4294967296*(k:Int)∧0≤g.time∧g.time≤1099511627776+4294967296*(k:Int))∧mS=abl L-k∧Fr aS 74 [] [(24,vI k),(23,vI (abl L)),(22,.slice A (abl L) c),(8,.slice Q (abl pre) co),(7,vP g7 0),(6,.slice none 0 0),(0,vB cpu)]∧Mem w G [.row (.slice Q (abl pre) co) (abl pre) (pre.flatMap gZ) 73 11,.blk g7 g.cells 110]) (m:=abl L-0) ⟨0,[],b.start,none,0,abw _,rfl,rfl,abq _,by show 0≤b.based.seq-1∧b.based.seq-1≤_∧0≤b.based.time∧b.based.time≤_;omega,rfl,Z.sub kr,e.pk [0,1]⟩ ?_
 clear Z e;rintro mS a w_ ⟨k,pre,g,Q,co,hk,H,R,hco,ha,rfl,Z,e⟩
 refine Jb Z e ((JP∘Jp 1∘Jj∘JQ) (Ji (λI=>?_) λI=>?_))
 ·
  have C:k<abl L:=by omega
  obtain ⟨x,E⟩:∃x,L[k]?=some x:=⟨_,abp C⟩
  have s:=P x (abM E)
  obtain ⟨y,T⟩:∃y,({x with cpu:=cpu}:Sm)=y:=⟨_,rfl⟩
  have U:y.Ok:=by rw [←T];exact {s with cpu:=D}
  have V:=qyc x.kind
  have W:=q2o x.kind
  have hm1:=adr x.seq V.1
  have hm2:=adr x.time W.1
  obtain ⟨z,hz⟩:∃z,y.ev.moved (g.step x).seq (g.step x).time=z:=⟨_,rfl⟩
  intro a Z e
  have X:=go_step (a:=g) E T hz
  have hxk:=s.kind
  have hxs:=s.seq
  have hxt:=s.time
  refine Jb Z e ((JT∘aD∘JQ∘JB∘JP) ?_)
  obtain ⟨gA,oA,rfl,_⟩:=F.sat k (hk:=C)
  refine (gV k 11 (hy:=C)∘Jy (v:= .agg x.cells) (h:=by exact Pe rfl rfl uq rfl (λ_ h=>(h.old F).Ay Db (E)))∘JA #[vB 0,vB 0,vW 0,vW 0,vW 0,vW 0,vW 0,vW 0,vW 0,vW 0,vQ 0]) λtZ g10=>(JV uq aT (h1:=by exact zeg x)) λOi=>(bH∘Jr∘Jp 1∘Jf 1) λa Z e=>?_
  refine fo Z 2 rfl rfl ?_
  refine pQ Z e (i:=0) rfl rfl rfl rfl kr rfl rfl (by simp [Sm.cells]) λOj e=>?_
  refine Jb Z e ((mI∘Jr∘Jy (v:= .agg #[vB x.kind,vB cpu,vW x.seq,vW x.time,vW x.task,vW x.group,vW x.to,vW x.weight,vW x.ticks,vW x.got,vQ x.mask]) (h:=by exact Pe rfl rfl uq rfl (λ_ h=>qi (h.blk (i:=0) rfl)))∘Jo (.agg y.cells) (by rw [←T];try rfl)∘JL (h:=by exact λe=>q2m y U _)) ?_)
  rintro e _ Kz ⟨rfl,B⟩
  refine ⟨_,rfl,_,e.call B,?_⟩
  refine (JA #[vI 0,vI 0,vB 0,vB 0,vI 0,vI 0,vI 0,vI 0,vI 0,vQ 0,vI 0]) λwK g11=>(JV ⟨kr,kr⟩ aT (h1:=by exact Jz y.ev)) λafJ=>(bH∘Jj) λa Z e=>?_
  refine wp_seq ?_
  refine Jb Z e ((Vs .n [16]) λOl=>(Vf 0 0∘Vf 2 2∘Vf 6 0∘Vc 1 O3∘Vc 3 O1∘Vw 4 .i64∘Vc 7 O1∘Vp [8]∘Vo (vB (x.kind/16:Nat)) (by exact sN .u8 x.kind (j:=4) (q:=16) rfl rfl)∘Vp [9]∘Vo (vB ((x.kind/16)%4:Nat)) (by exact za .u8 _ 4)) λa Z e o=>?_)
  refine s_on Z 5 rfl (iT Z e zu [(0,vI 1),(1,vI 3),(2,vI 200),(3,vI 4294967296)] #[vI 1,vI 3,vI 200,vI 4294967296] ?_)
  clear Z e;intro a Dc Y Z e
  refine ay (e.pk [1,2,3,4]) (λo=>?_)
  refine Vb Z e o ((Vy 10 (h:=by exact Yl.iw Y (x.kind/2^4%4) 1 rfl rfl rfl)) λa Z e o=>?_)
  refine s_on Z 11 rfl ?_
  refine Yl.wp (S:=λG=>Mem w G _) (v:=vI (qV x.kind)) (Pd rfl rfl kr (λ_ h=>Wv (a:=1) (b:=3) (c:=200) (d:=4294967296) (h.blk (i:=0) rfl) om rfl)) Z e rfl de λa Z=>?_
  refine ay o (λo=>?_)
  refine Vb Z e o ((Vy 12 (v:=vI (x.seq% (qV x.kind):Nat)) (h:=by exact aat (m:=x.seq) (n:=(qV x.kind)) rfl rfl rfl om)∘Vp [13]∘Vo (vI (1+(x.seq% (qV x.kind)):Nat)) (by exact q7 om om)∘Vp [14]∘Vo (vI ((g.step x).seq)) (by exact ou (x:=g.seq+((1+x.seq%qV x.kind:Nat):Int)) ⟨by omega,by omega⟩)∘Vf 15 0) λa Z e o=>?_)
  refine s_on Z 16 rfl ?_
  refine pQ Z e (i:=4) rfl rfl rfl rfl kr rfl rfl (by simp [Bs.cells]) λWw e=>?_
  refine dJ kr ?_
  refine qd kr ?_
  refine wp_seq ?_
  refine Jb Z e ((Vs .n [14]) λqI=>(Vf 0 1∘Vf 2 3∘Vf 6 0∘Vc 1 O4∘Vc 3 O2∘Vw 4 .i64∘Vc 7 O2∘Vp [8]∘Vo (vB (x.kind/64:Nat)) (by exact sN .u8 x.kind (j:=6) (q:=64) rfl rfl)) λa Z e o=>?_)
  refine s_on Z 5 rfl (iT Z e zu [(0,vI 1),(1,vI 300),(2,vI 100000),(3,vI 4294967296)] #[vI 1,vI 300,vI 100000,vI 4294967296] ?_)
  clear Z e;intro a Vi g53 Z e
  refine ay (e.pk [1,2,3,4,5]) (λo=>?_)
  refine Vb Z e o ((Vy 9 (h:=by exact Yl.iw g53 (x.kind/2^6) 1 rfl rfl rfl)) λa Z e o=>?_)
  refine s_on Z 10 rfl ?_
  refine Yl.wp (S:=λG=>Mem w G _) (v:=vI (stepT x.kind)) (Pd rfl rfl kr (λ_ h=>Wv (a:=1) (b:=300) (c:=100000) (d:=4294967296) (h.blk (i:=0) rfl) om rfl)) Z e rfl de λa Z=>?_
  refine ay o (λo=>?_)
  refine Vb Z e o ((Vy 11 (v:=vI (x.time% (stepT x.kind):Nat)) (h:=by exact aat (m:=x.time) (n:=(stepT x.kind)) rfl rfl rfl om)∘Vp [12]∘Vo (vI ((g.step x).time)) (by exact ou (x:=g.time+((x.time%stepT x.kind:Nat):Int)) ⟨by omega,by omega⟩)∘Vf 13 1) λa Z e o=>?_)
  refine s_on Z 14 rfl ?_
  refine pQ Z e (i:=5) rfl rfl rfl rfl kr rfl rfl (by simp [Bs.cells]) λN e=>?_
  refine dJ kr ?_
  refine qd kr ?_
  refine wp_seq ?_
  refine Jb Z e ((Vs (.t (.t (.f .n))) [7]) λNG=>(Vf 0 0∘Vf 2 1∘Vc 1 O4∘Vf 4 0∘Vc 3 O4) λa Z e o=>?_)
  refine s_on Z 5 rfl ?_
  refine pQ Z e (i:=2) rfl rfl rfl rfl kr rfl rfl (by simp [Ev.cells]) λWx e=>?_
  refine ay (e.pk [0,1,3,4,5]) (λo=>?_)
  refine Vb Z e o ((Vf 6 1) λa Z e o=>?_)
  refine s_on Z 7 rfl ?_
  refine pQ Z e (i:=2) rfl rfl rfl rfl kr rfl rfl (by simp [Ev.cells]) λWy e=>?_
  refine dJ kr ?_
  refine qd kr ?_
  refine Jb Z e ((JR∘Jp 1∘Jy (v:= .agg #[vI ((g.step x).seq),vI ((g.step x).time),vB y.ev.cpu,vB y.ev.kind,vI y.ev.task,vI y.ev.group,vI y.ev.to,vI y.ev.weight,vI y.ev.ticks,vQ y.ev.mask,vI y.ev.got]) (h:=by exact Pe rfl rfl ⟨kr,kr⟩ rfl (λ_ h=>qi (h.blk (i:=2) rfl)))∘Jo (.agg z.cells) (by rw [←hz];try rfl)∘JU yP z.cells) λw70 g70=>(JD (gZ z) 5 (λ_ _=>tX) yP (hr:=by exact λe=>e.aX (i:=0) (n:=1) (size:=11) rfl rfl) (h1:=by exact Jz z)) λw71 J K u=>(Jp 1∘aG∘Jq) ?_)
  have p:(abl pre+1)=abl (pre++[z]):=by rw [abn];rfl
  rw [p] at u
  refine (JC (h:=by exact λe=>e.aY (i:=5) (ys:=(pre++[z]).flatMap gZ) rfl p (by rw [ab2,List.flatMap_singleton]))∘Jk 8 (.slice J (abl (pre++[z])) K) (h:=by exact iy p)∘JG∘JR∘bT 1∘Jp 1∘aK∘Jq) λa Z e=>?_
  exact ⟨_,om,k+1,(pre++[z]),(g.step x),J,K,by omega,by rw [H,X,aby];rfl,by rw [abn,R];rfl,u,by show 0≤g.seq+((1+x.seq%qV x.kind:Nat):Int)∧g.seq+((1+x.seq%qV x.kind:Nat):Int)≤_∧0≤g.time+((x.time%stepT x.kind:Nat):Int)∧g.time+((x.time%stepT x.kind:Nat):Int)≤_;omega,rfl,Z.sub kr,e.pk [5,6]⟩
 have M:uo cpu b.start L=pre:=by rw [H,adf om];exact abU _
 exact (JF∘JX∘JG∘JP∘Jp 2∘aK∘Jj∘JZ∘aZ) λe=>by exact ⟨⟨_,rfl,by unfold kZ;rw [r,M];exact e.own (i:=0) rfl⟩,e.below⟩
def Wz (cpu:Nat) (a:cpu<256) (b:Bs) (hb:b.Ok) (A:Option Addr) (n c:Nat) (l:List Sm) (d:∀x∈l,x.Ok) (w:World) (hr:Rd w w.heap.size 11 A n (l.flatMap qW)) (hc:n≤c) (e:n≤9223372036854775807):
  Calls abm 104 #[.int .u8 (cpu:Int),.agg b.cells,.slice A n c] w (oN w (kZ cpu b l)):=by
 obtain rfl:abl l=n:=by have:=hr.len;rw [pO qW 11 Db] at this;omega
 exact qyd cpu a b hb A c l d w hr hc e
instance Vk:DecidableEq Ev:=λ⟨c,d,e,f,g,h,i,j,k,l,a⟩ ⟨m,n,p,q,r,s,t,u,v,w,b⟩=>
 decidable_of_iff (c=m∧d=n∧e=p∧f=q∧g=r∧h=s∧i=t∧j=u∧k=v∧l=w∧a=b) (by rw [Ev.mk.injEq])
section
variable {P:Program} {S:World→Prop} {σ:List (Nat×Value)} {o:Oper}
end
def Bk.cells (b:Bk) (A:Option Addr) (c:Nat):Array Value:= #[.int .u8 (b.kind:Int),.int .u8 (b.cpu:Int),.int .i64 b.lost,.int .i64 b.next,.slice A (abl b.evs) c]
theorem sQ (b:Bk) (A:Option Addr) (c:Nat):∀v∈(b.cells A c).toList,v.oneCell'=true:=by intro v a;simp [Bk.cells] at a;rcases a with rfl|rfl|rfl|rfl|rfl<;>rfl
theorem aL:SI abm 85 5:=⟨by kernel_rfl,by kernel_rfl⟩
def EK:EI abm 402 30 (.slice none 0 0) 1 24:=⟨by kernel_rfl,by kernel_rfl,rfl,by omega⟩
theorem yZ:SI abm 287 2:=⟨by kernel_rfl,by kernel_rfl⟩
structure aM (B:Nat) (w:World):Prop where
 laid:Laid B w
 halves:∀k,k<16→w.cell? ⟨1,k,none⟩=some (.int .u32 ((rU.getD k 0:Nat):Int))
 EL:1<B
 qG:w.cell? ⟨0,0,none⟩=some (.int .u8 113)
 qH:w.cell? ⟨0,1,none⟩=some (.int .u8 116)
 AV:0<B
def aM.pK (h:aM B w) (hk:∀p:Addr,p.block<B→W.cell? p=w.cell? p):aM B W:=
 ⟨h.laid.pK hk,λk a=>(hk _ h.EL).trans (h.halves k a),h.EL,(hk _ h.AV).trans h.qG,(hk _ h.AV).trans h.qH,h.AV⟩
theorem aM.mem (h:aM B W) (a:Mem W w fs) (b:B≤W.heap.size):aM B w:=h.pK λ_ c=>a.below.cell om
theorem aM.below (h:aM B w) (hb:Below c w W) (a:B≤c):aM B W:=h.pK λp b=>hb.cell om
theorem VJ (h:aM B W) (a:Mem W w fs) (b:B≤W.heap.size) {k:Nat} (hk:k<16):w.cell? ⟨1,k*1,none⟩=some (.int .u32 ((rU.getD k 0:Nat):Int)):=by
 rw [acX];exact (h.mem a b).halves k hk
theorem q8e (h:aM B W) (b:Mem W w fs) (c:B≤W.heap.size):w.rangeAt 0 0 (#[abQ .u8 113,.int .u8 116]:Array Value).toList:=λj v a=>by
 have h1:=(h.mem b c).qG
 have h2:=(h.mem b c).qH
 rcases j with _|_|j
 ·simp at a;subst a;exact h1
 ·simp at a;subst a;exact h2
 ·simp at a
theorem VL (h:abl b.evs≠0):b.CZ=decide ((b.evs.getD 0 Ev.zero).cpu=b.cpu):=by grind [Bk.CZ]
theorem VN (h:abl b.evs=0):b.CZ=decide (0<b.lost):=by
 unfold Bk.CZ
 rw [List.length_eq_zero_iff] at h
 rw [h]
theorem q10 (b:Bk):b.base=⟨(b.evs.getD 0 Ev.zero).seq,(b.evs.getD 0 Ev.zero).time⟩:=by
 unfold Bk.base Ev.at
 cases b.evs<;>rfl
def zh4 (k:Nat):k=1∨k=2∨(k≠1∧k≠2):=by omega
def q8f (a:b.Ok) (h:b.fits=true) (hk:b.kind≠2) (c:abl b.evs≠0):0≤b.base.seq∧b.base.seq≤281474976710656∧0≤b.base.time∧b.base.time≤281474976710656:=by
 obtain ⟨e,r,g⟩:=VG a (NI h hk).2 c
 have:=g.right
 rw [←g.base] at this
 have h4:1≤b.base.seq∧b.base.seq≤281474976710656∧0≤b.base.time∧b.base.time≤281474976710656:=by simpa [Bs.right] using this
 omega
def q11 (h:b.fits=true) (hk:b.kind≠2):b.kind=1∧0≤b.lost∧b.lost≤281474976710656∧b.cpu<64∧b.next=0:=by grind [Bk.oM,NI]
def q12 (h:b.fits=true) (hk:b.kind=2):1≤b.next∧b.next≤281474976710657∧b.cpu=0∧b.lost=0∧abl b.evs=0:=by
 have h2:=q8d h hk
 unfold Bk.uf at h2
 rw [decide_eq_true_eq] at h2
 exact h2
section
open Go.ChangeShapes Go.WideShapes
def q8g {B:List Value} {p:List MemPlace}
  (h:DataW.trod (λ_=>()) abm W 0 (λ_=>true) false m 38 B=some (.slice (l.map λz:Nat=> .lit (.int .i64 (z:Int))) [],p)):
  ∃A c,B=[.slice A (abl l) c]∧Rd W W.heap.size 1 A (abl l) (l.map dD):=by
 obtain ⟨a,cap,g,r,d⟩:=open_row (e:=3) kr kr h
 have b:∀i z,l[i]?=some z→W.cell? (a.add i)=some (dD z):=by
  intro i z hz
  obtain ⟨v,n,q,hc,ht⟩:=d i (.lit (.int .i64 (z:Int))) (by rw [ac3,hz];rfl)
  obtain ⟨s,e1,e2,_⟩:=DataW.trod_int (k:= .i64) kr ht
  injection e1 with e1
  injection e2 with e2
  subst e1
  simp only [DataW.lit.injEq,Lit.int.injEq,true_and] at e2
  rw [hc,←e2]
  rfl
 refine ⟨some a,cap,by rw [g,abu],by simp,λo=>⟨a,rfl,?_,?_⟩⟩
 ·cases l with
  |nil=>simp at o
  |cons z l=>
   have:=ad1 W _ (b 0 z rfl)
   simpa [Addr.add] using this
 ·intro j u f
  rw [ac3] at f
  cases hz:l[j]? with
  |none=>simp [hz] at f
  |some z=>rw [hz] at f;cases f;exact b j z hz
def qsy (h:laidMetH abm Rows.archiveOneRow.laid W):Laid W.heap.size W:=by
 rw [MakeChecks.laidMetH_plain _ _ _ kr] at h
 obtain ⟨R, S, m, T, U, o, p, r, t⟩ := Lib.laidMet.reads h (n := "quantum/event.fields") (d := Rows.laid_quantum_event_fields) (acs ..)
 obtain ⟨V, X, u, Y, Z, w, x, y, B⟩ := Lib.laidMet.reads h (n := "quantum/event.uses") (d := Rows.laid_quantum_event_uses) (aci _ (acs ..))
 have f : Tryz.prog.globalNamed "quantum/event.fields" = some 3 := by kernel_rfl
 have g : Tryz.prog.globalNamed "quantum/event.uses" = some 2 := by kernel_rfl
 obtain rfl:=Option.some.inj (f.symm.trans o)
 obtain rfl:=Option.some.inj (g.symm.trans w)
 have C:(Tryz.prog.globals[3]?).map (·.type)=some 459:=by kernel_rfl
 have D:(Tryz.prog.globals[2]?).map (·.type)=some 410:=by kernel_rfl
 obtain rfl:=Option.some.inj (C.symm.trans p)
 obtain rfl:=Option.some.inj (D.symm.trans x)
 have j:Tryz.prog.cellsOf 9=1:=by kernel_rfl
 have l:Tryz.prog.cellsOf 38=1:=by kernel_rfl
 have M:∀i v,m.toList[i]?=some v→W.cell? ⟨3,i,none⟩=some v:=λi v E=>by
  rw [agj f r i];simpa using E
 have K:∀i v,u.toList[i]?=some v→W.cell? ⟨2,i,none⟩=some v:=λi v E=>by
  rw [agj g y i];simpa using E
 have b:∀(F:List Value) (i:Nat) (v:Value),(F.drop (i*1)).take 1=[v]→F[i]?=some v:=by
  intro F i v h
  have:=congrArg (·[0]?) h
  simpa [ado,acI] using this
 have str:∀i,i<7→∃s:ByteArray,W.cell? ⟨3,i,none⟩=some (.string s):=by
  intro i hi
  obtain ⟨N,d,q,_,ht⟩:=agF (n:=7) (e:=9) kr t i hi
  rw [j] at ht
  obtain ⟨s,hs,_⟩:=DataW.trod_string kr ht
  exact ⟨s,M i _ (b _ _ _ hs)⟩
 have row:∀k,k<11→∃A c,W.cell? ⟨2,k,none⟩=some (.slice A (aQ k).length c)∧Rd W W.heap.size 1 A (aQ k).length ((aQ k).map dD):=by
  intro k O
  obtain ⟨N,d,q,G,ht⟩:=agF (n:=11) (e:=38) kr B k O
  rw [l] at ht
  by_cases h0:k=0
  ·subst h0
   simp only [List.getElem?_cons_zero,Option.some.injEq] at G
   subst G
   rcases DataW.trod_slice (e:=3) kr ht with ⟨hc,_⟩|⟨a,len,cap,H,L,n,_,_,P,_⟩
   ·exact ⟨none,0,K 0 _ (b _ _ _ hc),Rd.nil⟩
   ·simp at P
  ·have I:d= .slice ((aQ k).map λz:Nat=> .lit (.int .i64 (z:Int))) []:=by
    have J:k=1∨k=2∨k=3∨k=4∨k=5∨k=6∨k=7∨k=8∨k=9∨k=10:=by omega
    rcases J with rfl|rfl|rfl|rfl|rfl|rfl|rfl|rfl|rfl|rfl<;>exact (Option.some.inj G).symm
   subst I
   obtain ⟨A,c,hc,Q⟩:=q8g ht
   exact ⟨A,c,K k _ (b _ _ _ hc),Q⟩
 refine ⟨row,?_,str,?_⟩
 ·obtain ⟨A,c,h1,_⟩:=row 0 om
  exact ad1 W _ h1
 ·obtain ⟨s,h1⟩:=str 0 om
  exact ad1 W _ h1
def VO:Tryz.prog.underlying 61=some (.int .u32):=by kernel_rfl
set_option maxRecDepth 100000 in
theorem qp4 (h:laidMetH Tryz.prog Rows.archiveOneRow.laid W):aM W.heap.size W:=by
 have I:=qsy h
 rw [MakeChecks.laidMetH_plain _ _ _ kr] at h
 obtain ⟨M, N, p, O, P, r, s, t, u⟩ := Lib.laidMet.reads h (n := "quantum/crc.halves") (d := Rows.laid_quantum_crc_halves) (List.mem_cons_of_mem _ (List.mem_cons_of_mem _ (List.mem_cons_self ..)))
 obtain ⟨Q, R, w, S, T, x, y, A, B⟩ := Lib.laidMet.reads h (n := "quantum/block.magic") (d := Rows.laid_quantum_block_magic) (List.mem_cons_of_mem _ (List.mem_cons_of_mem _ (List.mem_cons_of_mem _ (List.mem_cons_self ..))))
 have f : Tryz.prog.globalNamed "quantum/crc.halves" = some 1 := by kernel_rfl
 have g : Tryz.prog.globalNamed "quantum/block.magic" = some 0 := by kernel_rfl
 obtain rfl:=Option.some.inj (f.symm.trans r)
 obtain rfl:=Option.some.inj (g.symm.trans x)
 have C:(Tryz.prog.globals[1]?).map (·.type)=some 405:=by kernel_rfl
 have D:(Tryz.prog.globals[0]?).map (·.type)=some 287:=by kernel_rfl
 obtain rfl:=Option.some.inj (C.symm.trans s)
 obtain rfl:=Option.some.inj (D.symm.trans y)
 have j:Tryz.prog.cellsOf 61=1:=by kernel_rfl
 have l:Tryz.prog.cellsOf 5=1:=by kernel_rfl
 have J:∀i v,p.toList[i]?=some v→W.cell? ⟨1,i,none⟩=some v:=λi v E=>by
  rw [World.var?_cell f t i];simpa using E
 have K:∀i v,w.toList[i]?=some v→W.cell? ⟨0,i,none⟩=some v:=λi v E=>by
  rw [World.var?_cell g A i];simpa using E
 have m:∀(F:List Value) (i:Nat) (v:Value),(F.drop (i*1)).take 1=[v]→F[i]?=some v:=by
  intro F i v h
  have:=congrArg (·[0]?) h
  simpa [List.getElem?_take,List.getElem?_drop] using this
 have o:∀k,k<16→W.cell? ⟨1,k,none⟩=some (.int .u32 ((rU.getD k 0:Nat):Int)):=by
  intro k G
  obtain ⟨L,d,q,H,ht⟩:=Lib.array_elem (n:=16) (e:=61) kr u k G
  rw [j] at ht
  have a:d= .lit (.int .u32 ((rU.getD k 0:Nat):Int)):=by
   have b:k=0∨k=1∨k=2∨k=3∨k=4∨k=5∨k=6∨k=7∨k=8∨k=9∨k=10∨k=11∨k=12∨k=13∨k=14∨k=15:=by omega
   rcases b with rfl|rfl|rfl|rfl|rfl|rfl|rfl|rfl|rfl|rfl|rfl|rfl|rfl|rfl|rfl|rfl<;>exact (Option.some.inj H).symm
  subst a
  obtain ⟨z,e1,e2,_⟩:=DataW.trod_int VO ht
  have e2:=congrArg Prod.fst e2
  simp only [DataW.lit.injEq,Lit.int.injEq,true_and] at e2
  exact J k _ (by rw [m _ _ _ e1,←e2])
 have c:∀k,k<2→W.cell? ⟨0,k,none⟩=some (.int .u8 (([113,116].getD k 0:Nat):Int)):=by
  intro k G
  obtain ⟨L,d,q,H,ht⟩:=Lib.array_elem (n:=2) (e:=5) kr B k G
  rw [l] at ht
  have a:d= .lit (.int .u8 (([113,116].getD k 0:Nat):Int)):=by
   have b:k=0∨k=1:=by omega
   rcases b with rfl|rfl<;>exact (Option.some.inj H).symm
  subst a
  obtain ⟨z,e1,e2,_⟩:=DataW.trod_int Ec ht
  have e2:=congrArg Prod.fst e2
  simp only [DataW.lit.injEq,Lit.int.injEq,true_and] at e2
  exact K k _ (by rw [m _ _ _ e1,←e2])
 exact ⟨I,o,World.block_lt_of_cell? W _ (o 0 om),c 0 om,c 1 om,World.block_lt_of_cell? W _ (c 0 om)⟩
end
def q8h (n:Nat) (q:n≤1000000000000) (w:World):
    Calls abm 276 #[vN,vI n] w λr f=>(∃A c,r= .returned (.slice A 0 c)∧f.ownsRow w.heap.size 5 1 (.slice A 0 c) 0 [])∧Below w.heap.size w f:=by
 refine (iX Tryz.func276 27) ?_
 refine (JP∘Jp 1∘Jj∘JQ∘JP∘Jp 2∘aK∘Jj) (Ji (λe=>?_) λe=>?_)
 ·
  intro a Z b
  omega
 refine (JF∘aD∘JQ∘JP∘Jp 2∘Jy (h:=by exact Yl.cap rfl rfl kr)∘Jp 1∘Jl∘Jv 2 [(14,vI (IntKind.i64.wrap ((n:Int)-0)))]∘Jo (vI n) (by exact q7 om om)∘Jp 1∘aG∘Jr∘Jp 2∘aK∘Jj) (Ji (λd=>?_) λd=>?_)
 ·
  refine (JT∘JR∘Jp 2∘Jy (h:=by exact Yl.cap rfl rfl kr)∘Jy (h:=by exact aag aV (j:=0) rfl rfl rfl om)∘Jp 1) λa Z b=>?_
  refine fo Z 5 rfl rfl ?_
  refine qno Z b (kn:= .i64) (m:=n) rfl aV kr rfl rfl om om om rfl de ?_
  clear Z b;intro a l o p Z b g
  exact Jb Z b ((Jp 1∘Jl∘Jy (h:=by exact aag aV (j:=0) rfl rfl rfl om)∘Jp 1∘aG∘Jq∘JC (h:=by exact λb=>(b.shrink (i:=0) (k:=0) rfl (abw _) (λh=>by cases h)).bR (i:=0) (ys:=[]) rfl (by simp))∘JG∘JP∘Jp 2∘aK∘Jj∘JZ∘aZ) λb=>by exact ⟨⟨_,_,rfl,b.own (i:=0) rfl⟩,b.below⟩)
 exact (JF∘aD∘JP∘Jp 2∘aK∘Jj∘JZ∘aZ) λb=>by exact ⟨⟨_,_,rfl,acK _ _ _ _⟩,b.below⟩
def qx5 (A:Option Addr) (n c:Nat) (ps:List Part) (w:World) (hr:Rd w w.heap.size 1 A n (ps.map aay)) (L:abl ps=n) (T:n≤1000000) (u:∀p∈ps,Rd w w.heap.size 1 p.A (abl p.l) (p.l.map B8)) (H:abl (ps.flatMap (·.l))≤1000000000000):
    Calls abm 229 #[.slice A n c] w (qU w (ps.flatMap (·.l))):=by
 refine (dV Tryz.func229 36) ?_
 refine (JP∘Jp 1∘Jr∘Jp 1∘Jj∘JQ∘JP∘Jp 1∘Jl∘Jp 1∘Jj∘JB) λa Z b=>?_
 refine qg (λg y z=>∃(k:Nat),(k≤n)∧g=n-k∧Fr y 36 [] [(11,vI k),(10,vI n),(9,.slice A n c),(3,vI (abl ((ps.take k).flatMap (·.l)))),(2,vN),(0,.slice A n c)]∧Mem w z []) (m:=n-0) ⟨0,abw _,rfl,Z.sub kr,b.pk []⟩ ?_
 clear Z b;rintro g a M ⟨k,N,rfl,Z,b⟩
 have O:=Et (l:=ps) k
 have I:=Et (l:=ps) (k+1)
 refine Jb Z b ((JP∘Jp 1∘Jj∘JQ) (Ji (λj=>?_) λj=>?_))
 ·
  have J:k<n:=by omega
  refine (JT∘aD∘JQ∘JB∘JP) ?_
  obtain ⟨gA,P,rfl,_⟩:=hr.sat k
  refine (gV k 1∘Jy (v:= .slice ((ps.getD k (⟨none,0,[]⟩:Part)).A) ((ps.getD k (⟨none,0,[]⟩:Part)).l.length) ((ps.getD k (⟨none,0,[]⟩:Part)).c)) (h:=by exact Pd rfl rfl kr (λ_ h=>(h.old hr).Er (k:=k) (xg (F:=aay) (k:=k) (x:=(ps.getD k (⟨none,0,[]⟩:Part))) ((getD_at (⟨none,0,[]⟩:Part) (k:=k) (by first|omega|(simp;omega)))))))∘Jp 1∘bH∘Jr∘Jp 2∘Jl∘Jp 1∘Jo (vI (abl ((ps.take (k+1)).flatMap (·.l)))) (by exact q7 (by rw [Es (d:=(⟨none,0,[]⟩:Part)) om,abn];omega) (by have:=Et (l:=ps) (k+1);omega))∘Jp 1∘gu∘Jr∘Jp 2∘aK∘Jj) (Ji (λo=>?_) λo=>?_)
  ·
   intro a Z b
   omega
  refine (JF∘aD∘JR∘bT 1∘Jp 1∘aK∘Jq) λa Z b=>?_
  exact ⟨_,om,k+1,by omega,rfl,Z.sub kr,b.pk []⟩
 obtain rfl:n=k:=by omega
 refine (JF∘JX∘JG∘JP∘Jp 1∘JL (h:=by exact λb=>q8h _ om _)) ?_
 rintro b _ Q ⟨⟨B,C,rfl,R⟩,D⟩
 refine ⟨_,rfl,_,b.bL D R,?_⟩
 refine (Jp 1∘bH∘Jj∘JQ∘JP∘Jp 1∘Jl∘Jp 1∘Jj∘JB) λa Z b=>?_
 refine qg (λg y z=>∃(k:Nat) (E:Option Addr) (t:Nat),(k≤n)∧(abl ((ps.take k).flatMap (·.l))≤t)∧g=n-k∧Fr y 36 [] [(27,vI k),(26,vI n),(25,.slice A n c),(6,abh E ((ps.take k).flatMap (·.l)) t),(12,.bool false),(11,vI n),(10,vI n),(9,.slice A n c),(3,vI (abl ((ps.take n).flatMap (·.l)))),(2,vN),(0,.slice A n c)]∧Mem w z [abj E ((ps.take k).flatMap (·.l)) t B8 5 1]) (m:=n-0) ⟨0,B,C,abw _,abw _,rfl,Z.sub kr,b.pk [0]⟩ ?_
 clear Z b;rintro g a M ⟨k,E,t,N,G,rfl,Z,b⟩
 refine Jb Z b ((JP∘Jp 1∘Jj∘JQ) (Ji (λq=>?_) λq=>?_))
 ·
  have K:k<n:=by omega
  refine (JT∘aD∘JQ∘JB∘JP) ?_
  obtain ⟨gA,P,rfl,_⟩:=hr.sat k
  refine (gV k 1∘Jy (v:= .slice ((ps.getD k (⟨none,0,[]⟩:Part)).A) ((ps.getD k (⟨none,0,[]⟩:Part)).l.length) ((ps.getD k (⟨none,0,[]⟩:Part)).c)) (h:=by exact Pd rfl rfl kr (λ_ h=>(h.old hr).Er (k:=k) (xg (F:=aay) (k:=k) (x:=(ps.getD k (⟨none,0,[]⟩:Part))) ((getD_at (⟨none,0,[]⟩:Part) (k:=k) (by first|omega|(simp;omega)))))))∘Jp 1∘bH∘Jj∘JR∘Jp 2∘JD ((ps.getD k (⟨none,0,[]⟩:Part)).l.map B8) 0 (λ_ _=>aT) aV (hr:=by exact λb=>b.old (u _ (qe _ om))) (h1:=by exact rR _) (hb:=by have:=Et (l:=ps) (k+1);rw [Es (d:=(⟨none,0,[]⟩:Part)) om,abn] at this;omega) (h63:=by have:=Et (l:=ps) (k+1);rw [Es (d:=(⟨none,0,[]⟩:Part)) om,abn] at this;omega)) λS r s f=>(Jp 1∘dQ∘Jq) ?_
  have e:abl ((ps.take k).flatMap (·.l))+(ps.getD k (⟨none,0,[]⟩:Part)).l.length=abl ((ps.take (k+1)).flatMap (·.l)):=by rw [Es (d:=(⟨none,0,[]⟩:Part)) om,abn]
  rw [e] at f
  refine (JC (h:=by exact λb=>b.aY (i:=0) (ys:=((ps.take (k+1)).flatMap (·.l)).map B8) rfl e (by rw [Es (d:=(⟨none,0,[]⟩:Part)) om,abV]))∘Jk 6 (.slice r (abl ((ps.take (k+1)).flatMap (·.l))) s) (h:=by exact iy e)∘JG∘JR∘bT 1∘Jp 1∘aK∘Jq) λa Z b=>?_
  exact ⟨_,om,k+1,r,s,by omega,f,rfl,Z.sub kr,b.pk [0]⟩
 obtain rfl:n=k:=by omega
 exact (JF∘JX∘JG∘JP∘Jp 2∘aK∘Jj∘JZ∘aZ) λb=>qpw (b.own (i:=0) rfl) G (by rw [abP om]) (by rw [abP om]) b.below
def qx6 (c:Nat) (hc:c<4294967296) (A:Option Addr) (n cp:Nat) (l:List Nat) (B:Nat) (w:World) (g:aM B w) (i:B≤w.heap.size) (hr:Rd w w.heap.size 1 A n (l.map B8)) (r:abl l=n) (z:n≤140737488355328) (o:∀b∈l,b<256):
    Calls abm 238 #[vW c,.slice A n cp] w (Is w (vW (zf c l:Int))):=by
 refine (iX Tryz.func238 33) ?_
 refine (JP∘Jp 1∘Jj∘JQ∘JP∘Jp 1∘Jl∘Jp 1∘Jj∘JB) λa Z d=>?_
 refine qg (λp s t=>∃(k:Nat),(k≤n)∧p=n-k∧Fr s 33 [] [(9,vI k),(8,vI n),(7,.slice A n cp),(4,vW 0),(0,vW (zf c (l.take k)))]∧Mem w t []) (m:=n-0) ⟨0,abw _,rfl,Z.sub kr,d.pk []⟩ ?_
 clear Z d;rintro p a C ⟨k,D,rfl,Z,d⟩
 have f:=Ki (l.take k) hc (tQ o k)
 refine Jb Z d ((JP∘Jp 1∘Jj∘JQ) (Ji (λe=>?_) λe=>?_))
 ·
  refine (JT∘aD∘JQ∘JB∘JP) ?_
  obtain ⟨gA,E,rfl,_⟩:=hr.sat k
  refine (gV k 1∘JH (getD_lt o (k:=k) (by first|omega|(simp;omega)))) λu=>(Jy (h:=by exact aad hr k 0 (by first|omega|(simp;omega)) rfl rfl)∘Jp 1∘bH∘Jr∘Jp 2∘Jw .u32∘Jp 1∘Jo (vW ((zf c (l.take k))^^^ (l.getD k 0):Nat)) (by exact Kc (m:=zf c (l.take k)) (n:=(l.getD k 0)) om om)∘Jp 1∘gu∘Jq) ?_
  have x:=Ez f (show l.getD k 0<4294967296 by omega)
  refine (JG∘JP∘Jp 2∘Jo (vW (((zf c (l.take k))^^^ (l.getD k 0))/16:Nat)) (by exact sN .u32 ((zf c (l.take k))^^^ (l.getD k 0)) (j:=4) (q:=16) rfl rfl)∘Jp 2∘Jo (vW (((zf c (l.take k))^^^ (l.getD k 0))%16:Nat)) (by exact Uu (n:=15) (j:=4) rfl de om)∘Jy (v:=vP 1 ((((zf c (l.take k))^^^ (l.getD k 0))%16)*1)) (h:=by exact (Yl.tN (ad:=⟨1,0,none⟩) (m:=16) (y:=((zf c (l.take k))^^^ (l.getD k 0))%16) (sz:=1) rfl rfl rfl kr om).as (by rw [acN,acj]))∘Jy (v:=vW (rU.getD (((zf c (l.take k))^^^ (l.getD k 0))%16) 0)) (h:=by exact Pd rfl rfl kr (λ_ h=>VJ g h i (k:=(((zf c (l.take k))^^^ (l.getD k 0))%16)) om))∘Jp 1∘Jo (vW (qA (zf c (l.take k)^^^l.getD k 0))) (by have h:=Kc (m:=(zf c (l.take k)^^^l.getD k 0)/16) (n:=rU.getD ((zf c (l.take k)^^^l.getD k 0)%16) 0) om (Nj _ om);exact h)∘Jp 1∘aG∘Jq) ?_
  have hz:=zh0 x
  refine (JG∘JR∘Jp 2∘Jo (vW ((qA (zf c (l.take k)^^^l.getD k 0))/16:Nat)) (by exact sN .u32 (qA (zf c (l.take k)^^^l.getD k 0)) (j:=4) (q:=16) rfl rfl)∘Jp 2∘Jo (vW ((qA (zf c (l.take k)^^^l.getD k 0))%16:Nat)) (by exact Uu (n:=15) (j:=4) rfl de om)∘Jy (v:=vP 1 (((qA (zf c (l.take k)^^^l.getD k 0))%16)*1)) (h:=by exact (Yl.tN (ad:=⟨1,0,none⟩) (m:=16) (y:=(qA (zf c (l.take k)^^^l.getD k 0))%16) (sz:=1) rfl rfl rfl kr om).as (by rw [acN,acj]))∘Jy (v:=vW (rU.getD ((qA (zf c (l.take k)^^^l.getD k 0))%16) 0)) (h:=by exact Pd rfl rfl kr (λ_ h=>VJ g h i (k:=((qA (zf c (l.take k)^^^l.getD k 0))%16)) om))∘Jp 1∘Jo (vW (zf c (l.take (k+1)))) (by have h:=Kc (m:=qA (zf c (l.take k)^^^l.getD k 0)/16) (n:=rU.getD (qA (zf c (l.take k)^^^l.getD k 0)%16) 0) om (Nj _ om);rw [qsn om];exact h)∘Jp 1∘aG∘Jj∘JR∘bT 1∘Jp 1∘aK∘Jq) λa Z d=>?_
  exact ⟨_,om,k+1,by omega,rfl,Z.sub kr,d.pk []⟩
 obtain rfl:n=k:=by omega
 exact (JF∘JX∘JG∘JP∘Jp 2∘aK∘Jj∘JZ∘aZ) λd=>by exact ⟨by rw [abP om],d.below⟩
def qx7 (c:Nat) (a:c<4294967296) (A:Option Addr) (n cp:Nat) (l:List Nat) (B:Nat) (w:World) (i:aM B w) (f:B≤w.heap.size) (hr:Rd w w.heap.size 1 A n (l.map B8)) (d:abl l=n) (j:n≤140737488355328) (g:∀b∈l,b<256):
    Calls abm 167 #[vW c,.slice A n cp] w (Is w (vW ((zf (c^^^4294967295) l^^^4294967295:Nat):Int))):=by
 refine (iX Tryz.func167 10) ?_
 refine (JP∘Jp 1∘Jq) ?_
 have hc:=Ez a (show 4294967295<4294967296 by decide)
 have k:=Ki l hc g
 exact (JG∘JP∘Jp 1∘Jy (v:=vW (c^^^4294967295:Nat)) (h:=by exact aaM (m:=c) rfl rfl om)∘Jp 1∘JI (h:=by exact λe=>qx6 _ hc _ _ _ l B _ (i.mem e f) (e.le f) (e.old hr) d j g)) λp o=>(Jy (v:=vW ((zf (c^^^4294967295) l)^^^4294967295:Nat)) (h:=by exact aaM (m:=zf (c^^^4294967295) l) rfl rfl om)∘Jp 1∘l8∘Jj∘JZ) sP
theorem VP (A:Option Addr) (n cp:Nat) (l:List Nat) (B:Nat) (w:World) (g:aM B w) (e:B≤w.heap.size) (hr:Rd w w.heap.size 1 A n (l.map B8)) (c:abl l=n) (i:n≤140737488355328) (f:∀b∈l,b<256):
    Calls abm 108 #[.slice A n cp] w (Is w (vW (zm l:Int))):=by
 refine (dV Tryz.func108 5) ?_
 refine (JP∘Jp 1∘Jr∘Jp 1∘JL (h:=by exact λa=>qx7 0 de _ _ _ l B _ (g.mem a e) (a.le e) (a.old hr) c i f)) ?_
 rintro a _ j ⟨rfl,d⟩
 rw [show (zf (0^^^4294967295) l^^^4294967295:Nat)=zm l from q7s (Ki l de f)]
 refine ⟨_,rfl,_,a.call d,?_⟩
 exact (Jp 1∘bH∘Jj∘JZ) sP
def zea (b:abl l=n) (a:W.ownsRow w.heap.size 5 1 (.slice A (0+n+4) c) (0+n+4) ([]++l.map B8++(qB (zm l)).map B8)) (hc:0+n+4≤c) (hb:Below w.heap.size w W):ze w 0 (bA l) (.returned (.tuple #[.slice A (0+n+4) c,vI 0])) W:=by
 have e:0+n+4=abl (bA l):=by rw [tT];omega
 rw [e] at a hc⊢
 refine ⟨⟨A,c,rfl,?_,hc⟩,hb⟩
 have e2:([]++l.map B8++(qB (zm l)).map B8)=(bA l).map B8:=by simp [bA]
 rw [e2] at a
 exact a
def NK (A:Option Addr) (n cp:Nat) (l:List Nat) (B:Nat) (w:World) (p:aM B w) (k:B≤w.heap.size) (hr:Rd w w.heap.size 1 A n (l.map B8)) (d:abl l=n) (I:n≤16777216) (r:∀b∈l,b<256):
    Calls abm 48 #[.slice A n cp] w (ze w 0 (bA l)):=by
 refine (dV Tryz.func48 31) ?_
 refine (JP∘Jp 2∘Jj∘JQ∘JP∘Jp 1∘Jl∘Jp 1∘bH∘Jj) (Ji (λg=>?_) λg=>?_)
 ·
  intro a Z c
  omega
 refine (JF∘aD∘JP∘Jp 1∘JI (h:=by exact λc=>VP _ _ _ l B _ (p.mem c k) (c.le k) (c.old hr) (d) om (r))) λs t=>(Jp 1∘bH∘Jq) ?_
 have u:=UL l
 refine (JG∘JP∘Jp 1∘Jl∘bT 4) λa Z c=>?_
 refine fo Z 3 rfl rfl ?_
 refine zd0 Z c (m:=(n+4)) rfl aV rfl rfl om om rfl de ?_
 clear Z c;intro a v x Z c
 exact Jb Z c ((Jp 1∘JD (l.map B8) 0 (λ_ _=>aT) aV (hr:=by exact λc=>c.old hr) (h1:=by exact rR _)) λy z C o=>(Jp 1∘aG∘Jr∘Jp 2∘Jv 1 [(19,vB (IntKind.u8.wrap (zm l:Int)))]∘Jo (vB ((zm l)%256:Nat)) (by exact CP (zm l))∘Jp 2∘Jo (vW ((zm l)/256:Nat)) (by exact sN .u32 (zm l) (j:=8) (q:=256) rfl rfl)∘Jv 1 [(22,vB (IntKind.u8.wrap (((zm l)/256:Nat):Int)))]∘Jo (vB (((zm l)/256)%256:Nat)) (by exact CP ((zm l)/256))∘Jp 2∘Jo (vW ((zm l)/65536:Nat)) (by exact sN .u32 (zm l) (j:=16) (q:=65536) rfl rfl)∘Jv 1 [(25,vB (IntKind.u8.wrap (((zm l)/65536:Nat):Int)))]∘Jo (vB (((zm l)/65536)%256:Nat)) (by exact CP ((zm l)/65536))∘Jp 2∘Jo (vW ((zm l)/16777216:Nat)) (by exact sN .u32 (zm l) (j:=24) (q:=16777216) rfl rfl)∘Jv 1 [(28,vB (IntKind.u8.wrap (((zm l)/16777216:Nat):Int)))]∘Jo (vB (((zm l)/16777216)%256:Nat)) (by exact CP ((zm l)/16777216))∘JU aV #[vB ((zm l)%256:Nat),vB (((zm l)/256)%256:Nat),vB (((zm l)/65536)%256:Nat),vB (((zm l)/16777216)%256:Nat)]) λD E=>(JD ((qB (zm l)).map B8) 1 (λ_ _=>fU) aV (hr:=by exact λc=>c.aX (i:=0) (n:=4) (size:=1) rfl rfl) (h1:=by exact rR _)) λF G H e=>(Jp 2∘Jj∘JZ∘JM (.f .n)∘bG) λc=>zea d (c.own (i:=0) rfl) e c.below)
theorem qx8 (b:abl l=n) (h:4≤n):(((zm (l.take (n-4)):Nat):Int)==((l.getD (n-4) 0+l.getD (n-4+1) 0*256+l.getD (n-4+2) 0*65536+l.getD (n-4+3) 0*16777216:Nat):Int))=zl l:=by
 subst b
 have a:∀i,(l.drop (abl l-4)).getD i 0=l.getD (abl l-4+i) 0:=λi=>by rw [abo,acI,←abo]
 unfold zl jU
 rw [a,a,a,a,ace,beq_iff_eq,decide_eq_true_eq]
 simp only [Nat.add_zero]
 constructor
 ·intro h1;exact ⟨h,by omega⟩
 ·intro h1;have:=h1.2;omega
theorem qp5 (a:abl l=n) (h:n<4):zl l=false:=by unfold zl;rw [decide_eq_false];omega
def jQ (l:List Nat):Nat→Nat
 |0=>0
 |k+1=>jQ l k*256+l.getD (3-k) 0
theorem VQ (l:List Nat):jQ l 4=jU l:=by simp [jQ,jU];omega
def VR (a:∀b∈l,b<256) (c:4≤abl l):∀k,k≤4→jQ l k<256^k
 |0,_=>by show 0<1;decide
 |k+1,h=>by
  have h1:=VR a c k om
  have h2:=getD_lt a (k:=3-k) om
  rw [jQ,agL]
  omega
def qsz (a:∀b∈l,b<256) (c:4≤abl l) {k:Nat} (h:k≤4):jQ l k<4294967296:=by
 have h1:=VR a c k h
 have h2:(256:Nat)^k≤256^4:=Nat.pow_le_pow_right de h
 omega
def NM (A:Option Addr) (n cp:Nat) (l:List Nat) (B:Nat) (w:World) (s:aM B w) (g:B≤w.heap.size) (hr:Rd w w.heap.size 1 A n (l.map B8)) (hc:n≤cp) (d:abl l=n) (x:n≤140737488355328) (e:∀b∈l,b<256):
    Calls abm 53 #[.slice A n cp] w (Is w (.bool (zl l))):=by
 refine (dV Tryz.func53 43) ?_
 refine (JP∘Jp 1∘Jr∘Jp 1∘Jl∘Jp 1∘Jo (vI ((n:Int)-4)) (by exact ou ⟨by omega,by omega⟩)∘Jp 1∘dQ∘Jj∘JQ∘JP∘Jp 2∘aK∘Jj) (Ji (λf=>?_) λf=>?_)
 ·
  exact (JT∘JP∘Jp 1∘Jj∘JZ∘aZ) λc=>by exact ⟨by rw [qp5 d om],c.below⟩
 refine (Jk 3 (vI ((n-4:Nat):Int)) (h:=by congr 1;omega)∘JF∘aD) λa Z c=>?_
 refine wp_seq ?_
 refine Jb Z c ((Vs .n []) λt=>(Vp [0,1,4,5,9,10,17,18,25,26]∘Vy 2 (h:=by exact aag aV (j:=n-4) rfl rfl rfl om)) ?_)
 obtain ⟨gA,y,rfl,_⟩:=hr.sat (n-4)
 exact (yY 6 (n-4) 1∘VH (getD_lt e (k:=(n-4)) (by first|omega|(simp;omega)))) λi=>(Vy 7 (h:=by exact aad hr (n-4) 0 (by first|omega|(simp;omega)) rfl rfl)∘Vw 8 .u32∘xE 11 1∘yY 12 ((n-4)+1) 1∘VH (getD_lt e (k:=((n-4)+1)) (by first|omega|(simp;omega)))) λo=>(Vy 13 (h:=by exact aad hr ((n-4)+1) 0 (by first|omega|(simp;omega)) rfl rfl)∘Vw 14 .u32∘Vp [15]∘Vo (vW ((l.getD ((n-4)+1) 0)*256:Nat)) (by exact AA (by rw [show (2:Int)^ (min (8:Int).toNat (afo).bits)=256 from rfl];omega) om)∘Vp [16]∘Vo (vW (l.getD (n-4) 0+l.getD (n-4+1) 0*256:Nat)) (by exact Na (m:=l.getD (n-4) 0) (n:=l.getD (n-4+1) 0) (j:=8) (p:=256) rfl om om)∘xE 19 2∘yY 20 ((n-4)+2) 1∘VH (getD_lt e (k:=((n-4)+2)) (by first|omega|(simp;omega)))) λq=>(Vy 21 (h:=by exact aad hr ((n-4)+2) 0 (by first|omega|(simp;omega)) rfl rfl)∘Vw 22 .u32∘Vp [23]∘Vo (vW ((l.getD ((n-4)+2) 0)*65536:Nat)) (by exact AA (by rw [show (2:Int)^ (min (16:Int).toNat (afo).bits)=65536 from rfl];omega) om)∘Vp [24]∘Vo (vW (l.getD (n-4) 0+l.getD (n-4+1) 0*256+l.getD (n-4+2) 0*65536:Nat)) (by exact Na (m:=l.getD (n-4) 0+l.getD (n-4+1) 0*256) (n:=l.getD (n-4+2) 0) (j:=16) (p:=65536) rfl om om)∘xE 27 3∘yY 28 ((n-4)+3) 1∘VH (getD_lt e (k:=((n-4)+3)) (by first|omega|(simp;omega)))) λr=>(Vy 29 (h:=by exact aad hr ((n-4)+3) 0 (by first|omega|(simp;omega)) rfl rfl)∘Vw 30 .u32∘Vp [31]∘Vo (vW ((l.getD ((n-4)+3) 0)*16777216:Nat)) (by exact AA (by rw [show (2:Int)^ (min (24:Int).toNat (afo).bits)=16777216 from rfl];omega) om)∘Vp [32]∘Vo (vW (l.getD (n-4) 0+l.getD (n-4+1) 0*256+l.getD (n-4+2) 0*65536+l.getD (n-4+3) 0*16777216:Nat)) (by exact Na (m:=l.getD (n-4) 0+l.getD (n-4+1) 0*256+l.getD (n-4+2) 0*65536) (n:=l.getD (n-4+3) 0) (j:=24) (p:=16777216) rfl om om)∘VI 3 .n (h:=by exact λc=>VP _ _ _ (l.take (n-4)) B _ (s.mem c g) (c.le g) ((c.old hr).Az om) (by rw [abr];omega) om (tQ e _))) λu v=>(Vp [33,34]∘Vd∘aG∘JZ∘aZ) λc=>by exact ⟨by rw [qx8 d om],c.below⟩
def EM {e:Nat} (h:aU l=(n,e)) (hb:Below w.heap.size w W):Is w (.tuple #[vI ((aU l).1:Int),vI ((aU l).2:Int)]) (.returned (.tuple #[vI n,vI e])) W:=by rw [h];exact ⟨rfl,hb⟩
def qx9 (A:Option Addr) (n cp:Nat) (l:List Nat) (w:World) (hr:Rd w w.heap.size 1 A n (l.map B8)) (r:abl l=n) (z:n≤9223372036854775807) (o:∀b∈l,b<256):
    Calls abm 181 #[.slice A n cp] w (Is w (.tuple #[vI ((aU l).1:Int),vI ((aU l).2:Int)])):=by
 refine (dV Tryz.func181 34) ?_
 refine (JP∘Jp 2∘Jj∘JQ∘JP∘Jp 1∘Jl∘Jp 1∘bH∘Jj) (Ji (λi=>?_) λi=>?_)
 ·
  exact (JT∘JP∘Jp 2∘Jj∘JZ∘bG) λc=>EM (by unfold aU;rw [if_pos om]) c.below
 refine (JF∘aD∘JP∘Jp 1∘Jj∘JQ∘JP∘Jp 1∘Jj∘JB) λa Z c=>?_
 refine qg (λq s t=>∃(k:Nat),(k≤4)∧q=4-k∧Fr s 34 [] [(5,vI (3- (k:Int))),(4,vI (jQ l k)),(8,.bool false),(3,vI 0),(2,vI 0),(0,.slice A n cp)]∧Mem w t []) (m:=4-0) ⟨0,abw _,rfl,Z.sub kr,c.pk []⟩ ?_
 clear Z c;rintro q a B ⟨k,u,rfl,Z,c⟩
 have v:=qsz o om u
 refine Jb Z c ((JQ∘JP∘Jp 2∘aK∘Jj) (Ji (λd=>?_) λd=>?_))
 ·
  have x:k≤3:=by omega
  refine (JT∘aD∘JQ∘JB∘JR∘Jp 2∘Jo (vI ((jQ l k)*256:Nat)) (by exact q7 (by rw [show (2:Int)^ (min (8:Int).toNat (IntKind.i64).bits)=256 from rfl];omega) om)∘Jp 2∘Jo (vI (3-k:Nat)) (by congr 1;omega)) ?_
  obtain ⟨gA,C,rfl,_⟩:=hr.sat (3-k)
  refine (gV (3-k) 1∘JH (getD_lt o (k:=(3-k)) (by first|omega|(simp;omega)))) λy=>(Jy (h:=by exact aad hr (3-k) 0 (by first|omega|(simp;omega)) rfl rfl)∘Jw .i64∘Jp 1∘Jo (vI (jQ l (k+1))) (by have h:=q7p (m:=jQ l k) (n:=l.getD (3-k) 0) (j:=8) (p:=256) rfl om om;exact h)∘Jp 1∘aG∘Jj∘JR∘Jp 2∘Jo (vI (3- ((k+1:Nat):Int))) (by rw [IntWalk.i64_in _ om];congr 1;omega)∘Jp 1∘bH∘Jq) λa Z c=>?_
  exact ⟨_,om,k+1,by omega,rfl,Z.sub kr,c.pk []⟩
 obtain rfl:k=4:=by omega
 refine (Jk 4 (vI (jU l:Int)) (h:=by rw [VQ])) ?_
 rw [VQ] at v
 refine (JF∘JX∘JG∘JQ∘JB∘JP∘Jp 3) (Ji (λe=>?_) λe=>?_)
 ·
  exact (Jp 4∘aG∘Jj∘JT∘JP∘Jp 2∘Jj∘JZ∘bG) λc=>EM (by unfold aU;rw [if_neg om,if_pos om]) c.below
 refine (Jp 4∘aG∘Jj) (Ji (λf=>?_) λf=>?_)
 ·
  exact (JT∘JP∘Jp 2∘Jj∘JZ∘bG) λc=>EM (by unfold aU;rw [if_neg om,if_pos om]) c.below
 refine (JF∘JP∘Jp 2∘Jl∘Jp 2∘gu∘Jj) (Ji (λg=>?_) λg=>?_)
 ·
  exact (JT∘JP∘Jp 2∘Jj∘JZ∘bG) λc=>EM (by unfold aU;rw [if_neg om,if_neg om,if_pos om]) c.below
 exact (JF∘aD∘JP∘Jp 3∘Jj∘JZ∘bG) λc=>EM (by unfold aU;rw [if_neg om,if_neg om,if_neg om]) c.below
def q14 (g:Nat) (b:Bk) (o:b.Ok) (A:Option Addr) (c B:Nat) (w:World) (r:aM B w) (p:B≤w.heap.size) (hr:Rd w w.heap.size 11 A (abl b.evs) (b.evs.flatMap gZ)) (u:abl b.evs≤1000000) (hb:w.heap[g]?=some (.cells (b.cells A c) 85 (0,0))):
    Calls abm 225 #[vP g 0] w (Is w (.bool b.oM)):=by
 refine (dV Tryz.func225 47) ?_
 refine (JP∘Jp 1∘Jj∘JQ∘JP∘Jf 4∘Jy (v:= .slice A (abl b.evs) c) (h:=by exact Pd rfl rfl kr (λ_ h=>h.zr hb rfl))∘JI (h:=by exact λd=>zh3 A (abl b.evs) c b.evs o.evs B _ (r.mem d p).laid (d.le p) (d.old hr) om (i:=(gD b.evs).1) (er:=(gD b.evs).2) rfl)) λx s=>(Jp 1∘Jx∘Jx∘Jp 2∘aG∘Jr∘Jp 3) (Jh (λe=>?_) λe=>?_)
 ·
  exact (Jv 19 [(31,.bool true)]∘l8∘Jj∘JT∘JP∘Jp 1∘Jj∘JZ∘aZ) λd=>by exact ⟨by rw [show b.oM=false from decide_eq_false om],d.below⟩
 refine (Jf 1∘Jy (v:=vB b.cpu) (h:=by exact Pd rfl rfl kr (λ_ h=>h.zr hb rfl))∘Jp 3) (Ji (λf=>?_) λf=>?_)
 ·
  exact (Jv 14 [(31,.bool true)]∘aG∘Jj∘JT∘JP∘Jp 1∘Jj∘JZ∘aZ) λd=>by exact ⟨by rw [show b.oM=false from decide_eq_false om],d.below⟩
 refine (Jf 2∘Jy (v:=vI b.lost) (h:=by exact Pd rfl rfl kr (λ_ h=>h.zr hb rfl))∘Jp 3) (Ji (λj=>?_) λj=>?_)
 ·
  exact (Jv 9 [(31,.bool true)]∘aG∘Jj∘JT∘JP∘Jp 1∘Jj∘JZ∘aZ) λd=>by exact ⟨by rw [show b.oM=false from decide_eq_false om],d.below⟩
 refine (Jf 2∘Jy (v:=vI b.lost) (h:=by exact Pd rfl rfl kr (λ_ h=>h.zr hb rfl))∘Jp 3) (Ji (λk=>?_) λk=>?_)
 ·
  exact (Jp 4∘aG∘Jj∘JT∘JP∘Jp 1∘Jj∘JZ∘aZ) λd=>by exact ⟨by rw [show b.oM=false from decide_eq_false om],d.below⟩
 refine (Jf 3∘Jy (v:=vI b.next) (h:=by exact Pd rfl rfl kr (λ_ h=>h.zr hb rfl))∘Jp 2∘aG∘Jj) (Jh (λl=>?_) λl=>?_)
 ·
  exact (JT∘JP∘Jp 1∘Jj∘JZ∘aZ) λd=>by exact ⟨by rw [show b.oM=false from decide_eq_false om],d.below⟩
 refine (JF∘aD∘JQ∘JP∘Jf 4∘Jy (v:= .slice A (abl b.evs) c) (h:=by exact Pd rfl rfl kr (λ_ h=>h.zr hb rfl))∘Jl∘Jp 1∘dQ∘Jj) (Je (λm=>?_) λm=>?_)
 ·
  exact (JT∘JP∘Jf 2∘Jy (v:=vI b.lost) (h:=by exact Pd rfl rfl kr (λ_ h=>h.zr hb rfl))∘Jp 2∘dQ∘Jj∘JZ∘aZ) λd=>by exact ⟨by rw [ace.2 (show (decide ((b.lost:Int)>(0:Int)))=true↔b.oM=true by unfold Bk.oM;rw [VN om];simp only [decide_eq_true_eq,beq_iff_eq];omega)],d.below⟩
 refine (JF∘aD) λa Z d=>?_
 refine wp_seq ?_
 refine Jb Z d ((Vs .n []) λt=>(Vf 0 4∘Vf 5 1∘Vy 1 (v:= .slice A (abl b.evs) c) (h:=by exact Pd rfl rfl kr (λ_ h=>h.zr hb rfl))) ?_)
 obtain ⟨gA,q,rfl,_⟩:=hr.sat 0
 exact (Vy 2 (v:=vP gA q) (h:=by exact Yl.indexAddr (ad:=⟨gA,q,none⟩) (y:=0) (sz:=11) rfl rfl rfl om kr)∘Vf 3 2∘EC 4 wo hr 2 0 Ev.zero (hk:=by first|omega|(simp;omega))∘Vy 6 (v:=vB b.cpu) (h:=by exact Pd rfl rfl kr (λ_ h=>h.zr hb rfl))∘Vp [7,8]∘Vd∘aG∘JZ∘aZ) λd=>by exact ⟨by rw [ace.2 (show (((b.evs.getD 0 Ev.zero).cpu:Int)==(b.cpu:Int))=true↔b.oM=true by unfold Bk.oM;rw [VL om];simp only [decide_eq_true_eq,beq_iff_eq];omega)],d.below⟩
def q15 (g:Nat) (b:Bk) (A:Option Addr) (c:Nat) (w:World) (hb:w.heap[g]?=some (.cells (b.cells A c) 85 (0,0))):
    Calls abm 226 #[vP g 0] w (Is w (.bool b.uf)):=by
 refine (dV Tryz.func226 26) ?_
 refine (JP∘Jp 1∘Jr∘Jf 3∘Jy (v:=vI b.next) (h:=by exact Pd rfl rfl kr (λ_ h=>h.zr hb rfl))∘Jp 2) (Ji (λi=>?_) λi=>?_)
 ·
  refine (Jf 3∘Jy (v:=vI b.next) (h:=by exact Pd rfl rfl kr (λ_ h=>h.zr hb rfl))∘Jp 3) (Ji (λd=>?_) λd=>?_)
  ·
   refine (Jf 1∘Jy (v:=vB b.cpu) (h:=by exact Pd rfl rfl kr (λ_ h=>h.zr hb rfl))∘Jp 3) (Je (λe=>?_) λe=>?_)
   ·
    refine (Jf 2∘Jy (v:=vI b.lost) (h:=by exact Pd rfl rfl kr (λ_ h=>h.zr hb rfl))∘Jp 3) (Je (λf=>?_) λf=>?_)
    ·
     exact (Jf 4∘Jy (v:= .slice A (abl b.evs) c) (h:=by exact Pd rfl rfl kr (λ_ h=>h.zr hb rfl))∘Jl∘Jp 3∘aG∘Jj∘JZ∘aZ) λa=>by exact ⟨by rw [ace.2 (show ((abl b.evs:Int)==(0:Int))=true↔b.uf=true by unfold Bk.uf;simp only [decide_eq_true_eq,beq_iff_eq];omega)],a.below⟩
    exact (Jp 6∘aG∘Jj∘JZ∘aZ) λa=>by exact ⟨by rw [show b.uf=false from decide_eq_false om],a.below⟩
   exact (Jv 11 [(1,.bool false)]∘aG∘Jj∘JZ∘aZ) λa=>by exact ⟨by rw [show b.uf=false from decide_eq_false om],a.below⟩
  exact (Jv 16 [(1,.bool false)]∘aG∘Jj∘JZ∘aZ) λa=>by exact ⟨by rw [show b.uf=false from decide_eq_false om],a.below⟩
 exact (Jv 21 [(1,.bool false)]∘gu∘Jj∘JZ∘aZ) λa=>by exact ⟨by rw [show b.uf=false from decide_eq_false om],a.below⟩
def VT (b:Bk) (l:b.Ok) (A:Option Addr) (c B:Nat) (w:World) (s:aM B w) (p:B≤w.heap.size) (hr:Rd w w.heap.size 11 A (abl b.evs) (b.evs.flatMap gZ)) (t:abl b.evs≤1000000):
    Calls abm 164 #[.agg (b.cells A c)] w (Is w (.bool b.fits)):=by
 refine (dV Tryz.func164 19) ?_
 refine (JP∘JE) λu e=>(Jp 1∘Jr) λa Z d=>?_
 refine fo Z 0 rfl rfl ?_
 refine q1a Z d rfl rfl de ?_
 clear Z d;intro a x y Z d
 refine Jb Z d ((Jy (h:=by exact Yl.makeFunc (fst:=[]) (caps:=[vP e 0]) rfl rfl rfl)) λa Z d=>?_)
 refine fo Z 2 rfl rfl ?_
 refine Uq Z d (i:=0) (kt:=5) (et:=23) (kd:= .int .u8) (Or.inr rfl) rfl kr kr rfl rfl rfl rfl (by first|trivial|rfl) (rfl) λq d=>?_
 refine Jb Z d ((Jy (h:=by exact Yl.makeFunc (fst:=[]) (caps:=[vP e 0]) rfl rfl rfl)) λa Z d=>?_)
 refine fo Z 4 rfl rfl ?_
 refine Uq Z d (i:=0) (kt:=5) (et:=23) (kd:= .int .u8) (Or.inr rfl) rfl kr kr rfl rfl rfl rfl (by first|trivial|rfl) (rfl) λr d=>?_
 refine Jb Z d ((Jp 2∘gu∘Jq) λa Z d=>?_)
 rcases zh4 b.kind with g|g|⟨g,m⟩
 ·
  refine Jb Z d ((JG∘JP∘Jp 1∘Jg 0 O1∘Jy (v:= .func (.func 225) #[] #[vP e 0]) (h:=by exact aaL (kt:=5) (et:=23) (kd:= .int .u8) (j:=0) (es:=(#[].push {key:=vB 1,val:= .func (.func 225) #[] #[vP e 0],born:=0}).push {key:=vB 2,val:= .func (.func 226) #[] #[vP e 0],born:=0+1}) (clock:=0+1+1) rfl kr kr rfl rfl (λ_ h=>h.iV (i:=0) rfl) (by first|trivial|rfl) (by rw [g];rfl))∘Jp 1∘gu∘Jr∘Jp 1∘Jy (v:= .bool true) (h:=by exact aaO rfl rfl rfl kr)∘Jp 2) λa Z d=>?_)
  refine fo Z 4 rfl rfl ?_
  refine mU Z (f:=225) (vs:=[]) (fst:=[]) (caps:=[vP e 0]) rfl rfl rfl kr rfl de (q14 _ b l A c B _ (s.mem d p) (d.le p) (d.old hr) t (d.blk (i:=1) rfl)) ?_
  rintro _ o ⟨rfl,k⟩
  refine ⟨_,rfl,?_⟩
  replace d:=d.call k
  clear Z;intro a Z
  exact Jb Z d ((Jp 2∘aG∘Jj∘JZ∘JM (.f .n)∘aZ) λd=>by exact ⟨by unfold Bk.fits;rw [if_pos g],d.below⟩)
 ·
  refine Jb Z d ((JG∘JP∘Jp 1∘Jg 0 O1∘Jy (v:= .func (.func 226) #[] #[vP e 0]) (h:=by exact aaL (kt:=5) (et:=23) (kd:= .int .u8) (j:=1) (es:=(#[].push {key:=vB 1,val:= .func (.func 225) #[] #[vP e 0],born:=0}).push {key:=vB 2,val:= .func (.func 226) #[] #[vP e 0],born:=0+1}) (clock:=0+1+1) rfl kr kr rfl rfl (λ_ h=>h.iV (i:=0) rfl) (by first|trivial|rfl) (by rw [g];rfl))∘Jp 1∘gu∘Jr∘Jp 1∘Jy (v:= .bool true) (h:=by exact aaO rfl rfl rfl kr)∘Jp 2) λa Z d=>?_)
  refine fo Z 4 rfl rfl ?_
  refine mU Z (f:=226) (vs:=[]) (fst:=[]) (caps:=[vP e 0]) rfl rfl rfl kr rfl de (q15 _ b A c _ (d.blk (i:=1) rfl)) ?_
  rintro _ o ⟨rfl,k⟩
  refine ⟨_,rfl,?_⟩
  replace d:=d.call k
  clear Z;intro a Z
  exact Jb Z d ((Jp 2∘aG∘Jj∘JZ∘JM (.f .n)∘aZ) λd=>by exact ⟨by unfold Bk.fits;rw [if_neg om,if_pos g],d.below⟩)
 ·
  exact Jb Z d ((JG∘JP∘Jp 1∘Jg 0 O1∘Jy (v:= .nilFunc) (h:=by exact abe (kt:=5) (et:=23) (kd:= .int .u8) (es:=(#[].push {key:=vB 1,val:= .func (.func 225) #[] #[vP e 0],born:=0}).push {key:=vB 2,val:= .func (.func 226) #[] #[vP e 0],born:=0+1}) (clock:=0+1+1) rfl kr kr rfl rfl (λ_ h=>h.iV (i:=0) rfl) (by first|trivial|rfl) (by have e1:((b.kind:Int)==1)=false:=(by rw [beq_eq_false_iff_ne];omega);have e2:((b.kind:Int)==2)=false:=(by rw [beq_eq_false_iff_ne];omega);simp [Instr.findNow,Instr.sameNow,e1,e2]) kr)∘Jp 1∘gu∘Jr∘Jp 1∘Jy (v:= .bool false) (h:=by exact aa0 rfl rfl rfl kr)∘Jp 5∘aG∘Jj∘JZ∘JM (.f .n)∘aZ) λd=>by exact ⟨by unfold Bk.fits;rw [if_neg g,if_neg m],d.below⟩)
def q8i (b:Bk) (A:Option Addr) (c:Nat) (w:World) (hr:Rd w w.heap.size 11 A (abl b.evs) (b.evs.flatMap gZ)) (h0:abl b.evs≠0):
    Calls abm 172 #[.agg (b.cells A c)] w (Is w (.agg b.base.cells)):=by
 refine (dV Tryz.func172 14) ?_
 refine (JP∘JE) λk l=>(JA #[vI 0,vI 0]) λm o=>(Jj) λa Z d=>?_
 refine wp_seq ?_
 refine Jb Z d ((Vs .n [11]) λj=>(Vf 0 4∘Vf 5 4∘Vc 1 O1) ?_)
 obtain ⟨gA,e,rfl,_⟩:=hr.sat 0
 refine (Vy 2 (v:=vP gA e) (h:=by exact Yl.indexAddr (ad:=⟨gA,e,none⟩) (y:=0) (sz:=11) rfl rfl rfl om kr)∘Vf 3 0∘U2 4 wo hr 0 Ev.zero (hk:=by first|omega|(simp;omega))∘Vc 6 O1∘Vy 7 (v:=vP gA e) (h:=by exact Yl.indexAddr (ad:=⟨gA,e,none⟩) (y:=0) (sz:=11) rfl rfl rfl om kr)∘Vf 8 1∘EC 9 wo hr 1 0 Ev.zero (hk:=by first|omega|(simp;omega))∘Vy 10 (v:= .agg #[vI ((b.evs.getD 0 Ev.zero).seq),vI ((b.evs.getD 0 Ev.zero).time)]) (h:=by exact Yl.build (vs:=[(0,vI ((b.evs.getD 0 Ev.zero).seq)),(1,vI ((b.evs.getD 0 Ev.zero).time))]) rfl kr kr)) λa Z d p=>?_
 refine s_on Z 11 rfl (cK Z d 0 rfl rfl rfl rfl rfl ⟨kr,kr⟩ rfl rfl (by simp [acd]) λg d=>?_)
 refine dJ kr ?_
 refine qd kr ?_
 refine Jb Z d ((JM (.t (.f .n))∘JZ) λa Z d=>?_)
 exact iq rfl Z (.cellS (i:=0) Z d rfl rfl ⟨kr,kr⟩ rfl) (⟨by rw [q10];rfl,d.below⟩)
def NP (x:Nat) (c:x<18446744073709551616) (w:World):
    Calls abm 227 #[vQ x] w (qU w (au x)):=by
 refine (dV Tryz.func227 5) ?_
 exact (JP∘Jp 1∘Jr∘Jp 1∘JK (h:=by exact λa=>qxz c)) λd e f b=>(Jp 1∘bH∘Jj∘JZ∘aZ) λa=>by exact ⟨⟨_,_,rfl,a.own (i:=0) rfl,b⟩,a.below⟩
def NQ {a b c d:Part} (f:Rd w w.heap.size 1 a.A (abl a.l) (a.l.map B8)) (hb:Rd w w.heap.size 1 b.A (abl b.l) (b.l.map B8)) (hc:Rd w w.heap.size 1 c.A (abl c.l) (c.l.map B8)) (g:Rd w w.heap.size 1 d.A (abl d.l) (d.l.map B8)):∀p∈[a,b,c,d],Rd w w.heap.size 1 p.A (abl p.l) (p.l.map B8):=by
 intro p e
 simp only [ab0,acr,or_false] at e
 rcases e with rfl|rfl|rfl|rfl
 ·exact f
 ·exact hb
 ·exact hc
 ·exact g
def q8j (b:Bk) (g:b.Ok) (A:Option Addr) (c B:Nat) (w:World) (N:aM B w) (F:B≤w.heap.size) (hr:Rd w w.heap.size 11 A (abl b.evs) (b.evs.flatMap gZ)) (hn:abl b.evs≤1000000) (C:b.fits=true):
    Calls abm 165 #[.agg (b.cells A c)] w (qU w b.body):=by
 have G:=g.cpu
 refine (dV Tryz.func165 52) ?_
 refine (JP∘JE) λw1 g1=>(Jp 1∘Jj∘JQ∘JP∘Jg 0 O0∘Jp 1∘aK∘Jj) (Je (λD=>?_) λD=>?_)
 ·
  have s:b.kind=2:=by omega
  obtain ⟨n1,n2,n3,n4,n5⟩:=q12 C s
  exact (JT∘JP∘Jg 3 O0∘Jv 1 [(12,vQ (IntKind.u64.wrap b.next))]∘Jo (vQ b.next.toNat) (by exact wE om om)∘JK (h:=by exact λe=>NP b.next.toNat om _)) λO P Q u=>(Jp 1∘dQ∘Jj∘JZ∘aZ) λe=>by exact qU.as ⟨⟨_,_,rfl,e.own (i:=0) rfl,u⟩,e.below⟩ (by unfold Bk.body;rw [if_pos s])
 have s:b.kind≠2:=by omega
 obtain ⟨m0,m1,m2,m3,m4⟩:=q11 C s
 refine (JF∘aD∘JP∘Jg 1 O0∘Jw .u64∘Jg 2 O0∘Jv 1 [(19,vQ (IntKind.u64.wrap b.lost))]∘Jo (vQ b.lost.toNat) (by exact wE om om)∘Jg 4 O0∘Jl∘Jw .u64∘JU kK #[vQ b.cpu,vQ b.lost.toNat,vQ (abl b.evs)]) λR S=>(JK (h:=by exact λe=>Kl _ 3 _ [b.cpu,b.lost.toNat,abl b.evs] _ (e.aX (i:=0) (n:=3) (size:=1) rfl rfl) (by intro x T;simp only [ab0,acr,or_false] at T;omega) om)) λj k U v=>(Jp 1∘aG∘Jj∘JQ∘JP∘Jg 4 O2∘Jl∘Jp 1∘bH∘Jj) (Je (λy=>?_) λy=>?_)
 ·
  exact (JT∘JP∘Jp 2∘aK∘Jj∘JZ∘JM (.t (.f .n))∘aZ) λe=>by exact qU.as ⟨⟨_,_,rfl,e.own (i:=0) rfl,v⟩,e.below⟩ (by unfold Bk.body;rw [if_neg s,if_pos om];simp)
 have H:=qx4 g (NI C s).2 om
 obtain ⟨q1,q2,q3,q4⟩:=q8f g C s om
 refine (JF∘aD∘JP∘d9 aL O2∘JI (h:=by exact λe=>q8i b A c _ (e.old hr) om)) λV W=>(JA #[vI 0,vI 0]) λw4 g4=>(JV ⟨kr,kr⟩ aT (h1:=by exact MP b.base)) λI=>(bH∘Jr∘d9 ⟨kr,kr⟩ O0∘Jg 4 O3∘JK (h:=by exact λe=>q79 b.base A (abl b.evs) c b.evs g.evs B _ (N.mem e F).laid (e.le F) (e.old hr) om H.1 H.2)) λl m X J=>(Jp 1∘Jx∘Jx∘Jp 2∘mW∘Jj) λa Z e=>?_
 refine wp_seq ?_
 refine Jb Z e ((Vs .n []) λY=>(Vp [0]∘Vf 1 0∘Vf 5 1∘Vp [9]∘Vc 2 O1∘Vq [3] [(43,vQ (IntKind.u64.wrap b.base.seq))]∘Vo (vQ b.base.seq.toNat) (by exact wE om om)∘Vc 6 O1∘Vq [7] [(47,vQ (IntKind.u64.wrap b.base.time))]∘Vo (vQ b.base.time.toNat) (by exact wE om om)∘VK 4 .n (h:=by exact λe=>NP b.base.seq.toNat om _)) λo p NR K=>(VK 8 (.f .n) (h:=by exact λe=>NP b.base.time.toNat om _)) λq r C9 L=>λa Z e M=>?_)
 refine s_on Z 10 rfl (iT Z e EK [(0,abh j ([b.cpu,b.lost.toNat,abl b.evs].flatMap au) k),(1,abh o (au b.base.seq.toNat) p),(2,abh q (au b.base.time.toNat) r),(3,abh l (recs b.base b.evs) m)] #[abh j ([b.cpu,b.lost.toNat,abl b.evs].flatMap au) k,abh o (au b.base.seq.toNat) p,abh q (au b.base.time.toNat) r,abh l (recs b.base b.evs) m] ?_)
 clear Z e;intro a VU g50 Z e
 refine ay (e.pk [3,4,5,6,7]) (λM=>?_)
 have E:=NQ (a:=⟨j,k,[b.cpu,b.lost.toNat,abl b.evs].flatMap au⟩) (b:=⟨o,p,au b.base.seq.toNat⟩) (c:=⟨q,r,au b.base.time.toNat⟩) (d:=⟨l,m,recs b.base b.evs⟩) (e.rd (i:=5) rfl) (e.rd (i:=2) rfl) (e.rd (i:=1) rfl) (e.rd (i:=3) rfl)
 exact Vb Z e M ((VK 11 (.f (.f (.f .n))) (h:=by exact λe=>(qx5 _ 4 _ [⟨j,k,[b.cpu,b.lost.toNat,abl b.evs].flatMap au⟩,⟨o,p,au b.base.seq.toNat⟩,⟨q,r,au b.base.time.toNat⟩,⟨l,m,recs b.base b.evs⟩] _ (e.aX (i:=0) (n:=4) (size:=1) rfl rfl) rfl om E (by have h1:=zk [b.cpu,b.lost.toNat,abl b.evs];have h2:=Al b.base.seq.toNat;have h3:=Al b.base.time.toNat;have h4:=VD b.evs b.base;simp only [abT,List.flatMap_nil,abn,abU,ab1,adL] at h1⊢;omega)).mono (λ_ _ h=>h.as (R':=au b.cpu++au b.lost.toNat++au (abl b.evs)++(au b.base.seq.toNat++au b.base.time.toNat++recs b.base b.evs)) (by simp)))) λA51 c51 w51 z=>(Vp [12]∘Vd∘aG∘JM (.t (.f (.f (.f (.f (.t (.t (.f .n))))))))∘JZ∘aZ) λe=>by exact qU.as ⟨⟨_,_,rfl,e.own (i:=0) rfl,z⟩,e.below⟩ (by unfold Bk.body;rw [if_neg s,if_neg om]))
instance VW:DecidableEq Bk:=λ⟨a,b,c,d,e⟩ ⟨f,g,h,i,j⟩=>
 decidable_of_iff (a=f∧b=g∧c=h∧d=i∧e=j) (by simp)
theorem q16 (h:8+abl b.body+4≤4096):(#[abQ .u8 (((8+abl b.body+4)%256:Nat):Int),.int .u8 (((8+abl b.body+4)/256%256:Nat):Int),.int .u8 0,.int .u8 0,.int .u8 113,.int .u8 116,.int .u8 1,.int .u8 (b.kind:Int)]:Array Value).toList++b.body.map B8=b.raw.map B8:=by
 have a:8+abl b.body+4=12+abl b.body:=by omega
 have e1:(12+abl b.body)/65536%256=0:=by omega
 have e2:(12+abl b.body)/16777216%256=0:=by omega
 unfold Bk.raw qB
 rw [a,e1,e2]
 simp [B8]
def qs0 {b:Bs} (h:e.kind<256):∀x∈zy b e,x<256:=by
 intro x a
 unfold zy at a
 rcases ab0.1 a with rfl|a
 ·exact h
 ·obtain ⟨y,_,c⟩:=acE.1 a
  exact xq y x c
def VX:∀(l:List Ev) (b:Bs),(∀e∈l,e.Ok)→∀x∈recs b l,x<256
 |[],_,_,x,c=>by simp [recs] at c
 |e::r,b,a,x,c=>by
  rw [recs] at c
  rcases ab5.1 c with h|h
  ·exact qs0 (a e (by simp)).kind x h
  ·exact VX r e.at (λy d=>a y (by simp [d])) x h
def zeb (c:b.Ok):∀x∈b.body,x<256:=by
 intro x a
 unfold Bk.body at a
 split at a
 ·exact xq _ x a
 ·rcases ab5.1 a with h|h
  ·rcases ab5.1 h with h|h
   ·rcases ab5.1 h with h|h
    ·exact xq _ x h
    ·exact xq _ x h
   ·exact xq _ x h
  ·split at h
   ·cases h
   ·rcases ab5.1 h with h|h
    ·rcases ab5.1 h with h|h
     ·exact xq _ x h
     ·exact xq _ x h
    ·exact VX _ _ c.evs x h
def VY (a:b.Ok):∀x∈b.raw,x<256:=by
 intro x c
 unfold Bk.raw at c
 rcases ab5.1 c with h|h
 ·rcases ab5.1 h with h|h
  ·exact UM _ x h
  ·simp only [ab0,acr,or_false] at h
   have:=a.kind
   omega
 ·exact zeb a x h
theorem VZ (b:Bk):abl b.raw=8+abl b.body:=by unfold Bk.raw qB;simp;omega
def NS (b:Bk):abl b.body≤50+61*abl b.evs:=by grind [Bk.body,VD,Al]
def V3 (h:b.err=er) (a:er≠0) (hb:Below w.heap.size w W):ze w b.err b.out (.returned (.tuple #[.slice none 0 0,.int .i64 (er:Int)])) W:=by
 have h2:b.out=[]:=by unfold Bk.out;rw [if_neg om]
 rw [h,h2]
 exact ⟨⟨none,0,rfl,acK _ _ _ _,abq _⟩,hb⟩
theorem zh5 (h:b.err=0):b.out=bA b.raw:=by unfold Bk.out;rw [if_pos h]
theorem NT (b:Bk):abl b.out≤4096:=by grind [Bk.err,Bk.out,VZ,tT]
def zh6 (a:b.Ok):∀x∈b.out,x<256:=by
 unfold Bk.out
 split
 ·exact Nl (VY a)
 ·intro x c;cases c
def y5 (most:Nat) (l:List Nat):bJ most l≤most:=by unfold bJ;split<;>omega
theorem Da (most:Nat) (l:List Nat):(if ((most:Nat):Int)<(((aB l).1:Nat):Int) then ((most:Nat):Int) else (((aB l).1:Nat):Int))=((bJ most l:Nat):Int):=by unfold bJ;split<;>split<;>omega
theorem Kr (l:List Nat):abl (q5 l)=abl l- (aB l).2.1:=by unfold q5;rw [abN]
def q18 (l:List Nat):abl (q5 l)≤abl l:=by rw [Kr];omega
theorem V4 {most:Nat} (h:(aB l).2.2≠0):jg most l=false:=by unfold jg;rw [decide_eq_false];omega
def V5 (W:World) (d e:Nat) (l:List Nat) (a:Bool) (most:Nat) (fr:List Fact) (r:Ending) (f:World):Prop:=
 r= .returned (.int .i64 ((bJ most l:Nat):Int))∧∃b c,Rd W W.heap.size 1 b (abl (q5 l)) ((q5 l).map B8)∧abl (q5 l)≤c∧
  Mem W f (.blk d #[.slice b (abl (q5 l)) c] 30:: .blk e #[.bool (a&&jg most l)] 4::fr)
theorem NU {most:Nat} {a b:Bool} (hr:Rd W W.heap.size 1 A (abl l) (l.map B8)) (hc:abl l≤c) (h2:(a&&jg most l)=b) (d:n=abl l)
  (e:Mem W w (.blk m #[.slice (if c=(aB l).2.1 then A else A.map (·.add ((aB l).2.1*1))) (n- (aB l).2.1) (c- (aB l).2.1)] 30:: .blk g #[.bool b] 4::fr)):
  V5 W m g l a most fr (.returned (.int .i64 ((bJ most l:Nat):Int))) w:=by
 subst h2;subst d
 refine ⟨rfl,(if c=(aB l).2.1 then A else A.map (·.add ((aB l).2.1*1))),c- (aB l).2.1,?_,?_,?_⟩
 ·rw [Kr]
  exact hr.M8 (yO l) hc
 ·rw [Kr];omega
 ·rw [Kr];exact e
def AX (w:World) (q:Option Bk) (r:Ending) (d:World):Prop:=
 (∃ a : Array Value, r = .returned (.tuple #[.agg a, .bool q.isSome]) ∧ a.size = 5 ∧ (∀ v ∈ a.toList, v.oneCell' = true) ∧
  (∀b,q=some b→∃A c,a=b.cells A c∧d.ownsRow w.heap.size 73 11 (.slice A (abl b.evs) c) (abl b.evs) (b.evs.flatMap gZ)∧abl b.evs≤c))∧Below w.heap.size w d
variable {q:Option Bk}
def qp8 {C:Array Value} (h:q=none) (hs:C.size=5) (h1:∀v∈C.toList,v.oneCell'=true) (hb:Below w.heap.size w W):AX w q (.returned (.tuple #[.agg C,.bool false])) W:=by
 subst h
 exact ⟨⟨C,rfl,hs,h1,λb h=>by cases h⟩,hb⟩
def qp9 (h:q=some b) (a:W.ownsRow w.heap.size 73 11 (.slice A (abl b.evs) c) (abl b.evs) (b.evs.flatMap gZ)) (hc:abl b.evs≤c) (hb:Below w.heap.size w W):AX w q (.returned (.tuple #[.agg (b.cells A c),.bool true])) W:=by
 subst h
 exact ⟨⟨_,rfl,rfl,sQ _ _ _,λd h=>by injection h with h;subst h;exact ⟨A,c,rfl,a,hc⟩⟩,hb⟩
theorem NV (l:List Nat):C8 2 l=ug l:=by unfold C8;rw [if_pos rfl]
def y7 (h:x≤281474976710657):Bk.Ok ⟨2,0,0,(x:Int),[]⟩:=⟨by show 2<256;decide,by show 0<256;decide,by unfold aR;simp,q1z h,by simp⟩
theorem NW (l:List Nat):(ug l).isSome=(jg 281474976710657 l&& (decide (abl (q5 l)=0)&&Bk.fits ⟨2,0,0,(bJ 281474976710657 l:Int),[]⟩)):=by grind [ug]
theorem V6 (h:(ug l).isSome=true):ug l=some ⟨2,0,0,(bJ 281474976710657 l:Int),[]⟩:=by grind [ug]
theorem AX.none {r:Ending} (h:AX w q r W) (b:q=none):(∃a:Array Value,r= .returned (.tuple #[.agg a,.bool false])∧a.size=5∧(∀v∈a.toList,v.oneCell'=true))∧Below w.heap.size w W:=by
 subst b
 obtain ⟨⟨a,h1,h2,h3,_⟩,h4⟩:=h
 exact ⟨⟨a,h1,h2,h3⟩,h4⟩
theorem AX.some {r:Ending} (h:AX w q r W) (a:q=some b):(∃A c,r= .returned (.tuple #[.agg (b.cells A c),.bool true])∧W.ownsRow w.heap.size 73 11 (.slice A (abl b.evs) c) (abl b.evs) (b.evs.flatMap gZ)∧abl b.evs≤c)∧Below w.heap.size w W:=by
 subst a
 obtain ⟨⟨d,h1,h2,h3,h5⟩,h4⟩:=h
 grind
def NY (T:TypeId) (w:World) (q:Bk×Nat×Nat) (r:Ending) (a:World):Prop:=
 (∃A c,r= .returned (.tuple #[.agg (q.1.cells A c),.int .i64 (q.2.1:Int),.int .i64 (q.2.2:Int)])∧a.ownsRow w.heap.size T 11 (.slice A (abl q.1.evs) c) (abl q.1.evs) (q.1.evs.flatMap gZ)∧abl q.1.evs≤c)∧Below w.heap.size w a
def y8 {T:TypeId} {q:Bk×Nat×Nat} (h:q=(Bk.zero,0,er)) (hb:Below w.heap.size w W):NY T w q (.returned (.tuple #[.agg #[.int .u8 0,.int .u8 0,.int .i64 0,.int .i64 0,.slice none 0 0],.int .i64 0,.int .i64 (er:Int)])) W:=by
 subst h
 exact ⟨⟨none,0,rfl,acK _ _ _ _,abq _⟩,hb⟩
def V7 {T:TypeId} {q:Bk×Nat×Nat} (h:q=(b,m,0)) (a:W.ownsRow w.heap.size T 11 (.slice A (abl b.evs) c) (abl b.evs) (b.evs.flatMap gZ)) (hc:abl b.evs≤c) (hb:Below w.heap.size w W):NY T w q (.returned (.tuple #[.agg (b.cells A c),.int .i64 (m:Int),.int .i64 0])) W:=by
 subst h
 exact ⟨⟨A,c,rfl,a,hc⟩,hb⟩
def q19 (h:(aU l).2≠0):dw l=(Bk.zero,0,(aU l).2):=by unfold dw;rw [if_pos h]
def AY {e:Nat} (h:(aU l).2=0) (a:L=l.take (aU l).1) (hb:fH L=(none,e)):dw l=(Bk.zero,0,e):=by unfold dw;rw [if_neg om,←a,hb]
def V8 {e:Nat} (h:(aU l).2=0) (a:L=l.take (aU l).1) (hb:fH L=(some b,e)):dw l=(b,(aU l).1,0):=by unfold dw;rw [if_neg om,←a,hb]
def q2e (h:(fH l).1=none):(fH l).2≠0:=by grind [fH]
theorem Kt (h:dw l=(b,m,0)):13≤m∧m≤abl l∧(fH (l.take m)).1=some b:=by
 unfold dw at h
 split at h
 ·rename_i h0;simp only [Prod.mk.injEq] at h;exact absurd h.2.2 h0
 ·rename_i h0
  obtain ⟨_,h2,_,h4⟩:=Wh (show (aU l).2=0 by omega)
  split at h
  ·rename_i c a
   simp only [Prod.mk.injEq] at h
   obtain ⟨rfl,rfl,_⟩:=h
   exact ⟨h2,h4,a⟩
  ·rename_i a
   simp only [Prod.mk.injEq] at h
   exact absurd h.2.2 (q2e a)
def q2f (hk:iF l) (h:dw l=(b,m,0)):b.Ok∧b.evs=[]:=by
 obtain ⟨_,_,h⟩:=Kt h
 have h7:=hk.take m 7 (abq 7)
 generalize l.take m=L at h h7
 unfold fH at h
 split at h
 ·cases h
 ·split at h
  ·cases h
  ·split at h
   ·cases h
   ·split at h
    ·cases h
    ·rename_i h2
     have h2:L.getD 7 0=2:=by omega
     rw [h2,NV] at h
     split at h
     ·cases h
     ·rename_i c hc
      injection h with h
      rw [V6 (by rw [hc];rfl)] at hc
      injection hc with hc
      subst h hc
      exact ⟨y7 (y5 _ _),rfl⟩
structure Ku (l:List Nat) (b:Bk) (m:Nat):Prop where
 ok:b.Ok
 fits:b.fits=true
 err:b.err=0
 out:b.out=l.take m
 len:m≤abl l
 evs:abl b.evs≤4096
 least:13≤m
 most:m≤4096
theorem EP (x:Nat):1≤abl (au x):=by grind [Cz,Cy,au]
def Wi (h:b.fits=true) (h2:12+abl b.body≤4096):b.err=0:=by
 unfold Bk.err
 rw [if_neg (by simp [h]),if_neg om]
def zK {x:aC} (h:ShAt x):∀i,i<abl x.ts→(i:Int)+1≤(x.ts.getD i Tk.zero).id
 |0,hi=>(oW (h.tk 0 hi)).1
 |i+1,hi=>by
  have h1:=zK h i om
  have h2:=(Dg (h.tk (i+1) hi)).1
  rw [aec] at h2
  omega
def ziq {x:aC} (h:ShAt x):abl x.ts≤65535:=by
 rcases ab7 65535 (abl x.ts) with h1|h1
 ·have h2:=zK h 65535 h1
  have h3:=(oW (h.tk 65535 h1)).2
  omega
 ·exact h1
def ze3 (g:Nat) (z:Sp):abl (mJ g z)≤3:=by unfold mJ;split<;>simp
def ze4 (g:Nat) (l:List Sp):abl (ni g l)≤3*abl l:=Fu (λc=>ze3 g (l.getD c Sp.zero)) _
variable {a s:cO}
theorem XH (h:ShAt s.st):abl (aF s 0)=1∧abl (aF s 1)=3∧abl (aF s 2)≤512∧abl (aF s 3)≤64∧abl (aF s 4)≤64∧abl (aF s 5)≤524281∧abl (aF s 6)≤49152:=by
 obtain ⟨b,c,_,a⟩:=lX h.cfg
 obtain ⟨d,e,_,_⟩:=qp a
 have j:=h.cl
 have k:=h.cu
 have n:=h.rs
 have ht:=ziq h
 refine ⟨rfl,rfl,?_,?_,?_,?_,?_⟩
 ·have:=Fu (f:=sS s.st.gs) (m:=2) (λi=>abq 2) (abl s.st.gs-1)
  show abl (dS (abl s.st.gs-1) (sS s.st.gs))≤512
  omega
 ·show abl (s.st.cl.map aH)≤64
  rw [abu];omega
 ·show abl (s.st.cu.map aH)≤64
  rw [abu];omega
 ·have:=Fu (f:=λi=>lY (qo s.st.ts i) (s.st.ts.getD i Tk.zero)) (m:=8) (λi=>abq 8) (abl s.st.ts)
  show abl (dS (abl s.st.ts) λi=>lY (qo s.st.ts i) (s.st.ts.getD i Tk.zero))+1≤524281
  omega
 ·have:=Xr (f:=λg=>ni g (s.st.rs.getD g Rw.zero).l) (m:=192) (abl s.st.rs) (λg a=>by
   have h1:=ze4 g (s.st.rs.getD g Rw.zero).l
   have h2:=(Bj a (h.row g a)).1
   omega)
  show abl (dS (abl s.st.rs) λg=>ni g (s.st.rs.getD g Rw.zero).l)≤49152
  omega
theorem Dj (s:cO):dU s=aF s 0++aF s 1++aF s 2++aF s 3++aF s 4++aF s 5++aF s 6:=by simp_all [dU,qz,Bn]
def OY {f:Nat→List α} (h:i≤k):abl (dS i f)≤abl (dS k f):=by induction k<;>grind [qz]
theorem OZ (h:ShAt s.st):abl (dU s)≤600000:=by grind [Dj,XH]
theorem XI (h:ShAt s.st) {i:Nat} (hi:i≤7):abl (dS i (aF s))≤600000:=Nat.le_trans (OY hi) (OZ h)
def q87 (h:ShAt s.st) {i:Nat} (hi:i<7):abl (aF s i)≤600000:=by
 have:=XI h (show i+1≤7 by omega)
 rw [qz,abn] at this
 omega
def zir {p:Int} (ht:t.Ok):∀x∈lY p t,x<18446744073709551616:=by
 intro x a
 have h1:=ht.mask
 have h2:=ht.v
 have h3:=ht.r
 simp only [lY,ab0,acr,or_false] at a
 grind [Bo]
def zis (hz:z.Ok):∀x∈mJ g z,x<18446744073709551616:=by
 intro x a
 have h1:=hz.v
 have h2:=hz.r
 have h3:=hz.floor
 grind [mJ]
def ze5 (b:s.st.av.Ok) (e:bN s.st):∀i,∀x∈aF s i,x<18446744073709551616:=by
 have h:=e.g
 have j:=e.t
 have d:=b.aj
 intro i
 match i with
 |0=>intro x a;simp only [aF,ab0,acr,or_false] at a;subst a;exact Bo _
 |1=>
  intro x a
  simp only [aF,ab0,acr,or_false] at a
  rcases a with rfl|rfl|rfl
  ·exact Bo _
  ·exact d
  ·omega
 |2=>
  refine Dh _ λi _ x a=>?_
  grind [sS,Bo]
 |3=>intro x a;obtain ⟨y,_,rfl⟩:=ab6.1 a;exact Bo _
 |4=>intro x a;obtain ⟨y,_,rfl⟩:=ab6.1 a;exact Bo _
 |5=>
  intro x a
  rcases ab0.1 a with rfl|a
  ·omega
  ·exact Dh (p:=λx=>x<18446744073709551616) _ (λi hi=>zir (b.ts _ (qe Tk.zero hi))) x a
 |6=>
  refine Dh _ λg f=>Dh _ λc hc=>zis ?_
  refine b.sp _ (qe [] (show g<abl s.st.av.sp from by rw [kQ];exact f)) _ ?_
  rw [jR f]
  exact qe Sp.zero hc
 |k+7=>intro x a;cases a
theorem KT (a:s.st.av.Ok) (b:bN s.st):∀x∈dU s,x<18446744073709551616:=Dh 7 λi _=>ze5 a b i
def XJ:∀b∈l.flatMap au,b<256:=by
 intro b a
 obtain ⟨x,_,c⟩:=acE.1 a
 exact xq x b c
def XK (s:cO):∀b∈dx s,b<256:=by
 intro b a
 rcases ab5.1 a with a|a
 ·grind
 ·exact XJ b a
theorem KU (s:cO):abl (dx s)=3+abl ((dU s).flatMap au):=by unfold dx;rw [abn];rfl
theorem XL (h:s.next<1∨281474976710657<s.next):bV s=330:=if_pos h
theorem q3j (h:¬(s.next<1∨281474976710657<s.next)) (hr:kG s.st.av=false):bV s=331:=by unfold bV;rw [if_neg h,if_pos hr]
theorem XM (h:¬(s.next<1∨281474976710657<s.next)) (hr:kG s.st.av=true):bV s=0:=by unfold bV;rw [if_neg h,if_neg (by rw [hr];decide)]
def xQ (h:bV s=0):(1≤s.next∧s.next≤281474976710657)∧kG s.st.av=true:=by grind [bV,kG]
theorem Dk (h:bV s=0):ShAt s.st:=by
 have:=(xQ h).2
 unfold kG at this
 rw [abF] at this
 exact uG this.1
def iP (s:cO):List Nat:=if bV s=0 then dU s else []
theorem zL (h:bV s=0):iP s=dU s:=if_pos h
def q88 (h:bV s≠0):iP s=[]:=if_neg h
theorem Dl (h:bV s=0):cZ s=bA (dx s):=if_pos h
theorem XO (h:bV s≠0):cZ s=[]:=if_neg h
theorem O9 (h:ShAt s.st):abl (bA (dx s))≤6000007:=by grind [KU,zk,dU,OZ,tT]
def Pb (w:World) (er:Nat) (R:List Nat) (r:Ending) (a:World):Prop:=
 (∃A c,r= .returned (.tuple #[.slice A (abl R) c,.int .i64 (er:Int)])∧a.ownsRow w.heap.size 41 1 (.slice A (abl R) c) (abl R) (R.map bq)∧abl R≤c)∧Below w.heap.size w a
def qyu {q:List Nat} (a:rY=er) (h:q=R) (b:W.ownsRow w.heap.size 41 1 (.slice A (abl q) c) (abl q) (q.map bq)) (hc:abl q≤c) (hb:Below w.heap.size w W):Pb w er R (.returned (.tuple #[.slice A (abl q) c,.int .i64 (rY:Int)])) W:=by
 subst h;subst a
 exact ⟨⟨A,c,rfl,b,hc⟩,hb⟩
def qyv (e:Int) (a:e=er) (h:R=[]) (hb:Below w.heap.size w W):Pb w er R (.returned (.tuple #[.slice none 0 0,.int .i64 e])) W:=by
 subst h;subst a
 exact ⟨⟨none,0,rfl,acK _ _ _ _,abq _⟩,hb⟩
def qyw (e:Int) (a:e=er) (h:R=[]) (hb:Below w.heap.size w W):ze w er R (.returned (.tuple #[.slice none 0 0,.int .i64 e])) W:=by
 subst h;subst a
 exact ⟨⟨none,0,rfl,acK _ _ _ _,abq _⟩,hb⟩
def q89 (s:cO):0<abl ((dU s).flatMap au):=by grind [Dj,aF,aH,EP]
def qyx (h:bV s=0):([113,115,1]:List Nat).map B8++((iP s).flatMap au).map B8=(dx s).map B8:=by
 rw [zL h];exact List.map_append.symm
def zit (h:bV s=0):3+abl ((iP s).flatMap au)=abl (dx s):=by rw [KU,zL h]
def q9a (h:ShAt s.st):abl (dx s)≤6000003:=by
 have h1:=O9 h
 rw [tT] at h1
 omega
def qyy {q:List Nat} (a:rY=er) (h:q=R) (b:W.ownsRow w.heap.size 5 1 (.slice A (abl q) c) (abl q) (q.map B8)) (hc:abl q≤c) (hb:Below w.heap.size w W):ze w er R (.returned (.tuple #[.slice A (abl q) c,.int .i64 (rY:Int)])) W:=by
 subst h;subst a
 exact ⟨⟨A,c,rfl,b,hc⟩,hb⟩
def XP (l:List jl):∀u∈l.flatMap gF,u.oneCell'=true:=by
 intro u b
 obtain ⟨x,_,a⟩:=acE.1 b
 simp only [gF,ab0,acr,or_false] at a
 rcases a with rfl|rfl|rfl<;>rfl
def qf:jl:=⟨⟨#[104,101,97,100]⟩,0,3⟩
theorem FM {f:Nat→List α} (h:∀i,abl (f i)=m):∀k,abl (dS k f)=m*k
 |0=>rfl
 |k+1=>by rw [qz,abn,aev,FM h k,h k]
structure Hb where
 b:Bk
 A:Option Addr
 c:Nat
def Hb.zero:Hb:=⟨Bk.zero,none,0⟩
def hbL (h:Hb):List Value:=(h.b.cells h.A h.c).toList
theorem NZ (h:Hb):abl (hbL h)=5:=rfl
def Hb.own (h:Hb):Own:=⟨h.A,abl h.b.evs,h.c,h.b.evs.flatMap gZ⟩
def gW (t:TypeId) (q:List Hb):List Fact:=iW t 11 (q.map Hb.own)
def nS (w:World) (q:List Hb):Prop:=∀h∈q,Rd w w.heap.size 11 h.A (abl h.b.evs) (h.b.evs.flatMap gZ)
section
variable {W w w':World} {fs gs a b:List Fact} {t bt:TypeId} {q:List Hb}
theorem q8k (h:Hb):gW t (q++[h])=gW t q++[.row (.slice h.A (abl h.b.evs) h.c) (abl h.b.evs) (h.b.evs.flatMap gZ) t 11]:=by
 unfold gW iW
 rw [abV,abV]
 rfl
def zec {h:Hb} (d:h∈q):afG (.slice h.A (abl h.b.evs) h.c) (abl h.b.evs) (h.b.evs.flatMap gZ) t 11∈gW t q:=ac1 (ac1 d)
theorem Mem.N7 (h:Mem W w fs) (hs:∀f∈gW t q,f∈fs):nS w q:=λ_ c=>h.jO (hs _ (zec c))
theorem nS.old (h:nS W q) (c:Mem W w fs):nS w q:=λx d=>c.old (h x d)
theorem nS.at (h:nS w q) (hk:k<abl q):Rd w w.heap.size 11 (q.getD k Hb.zero).A (q.getD k Hb.zero).b.evs.length ((q.getD k Hb.zero).b.evs.flatMap gZ):=by
 refine h _ ?_
 rw [abo,abp hk]
 exact aeb hk
def aaQ {x:Bk} (h:Mem W w (.row (.slice A (abl x.evs) c) (abl x.evs) (x.evs.flatMap gZ) t 11::(a++(gW t q++b)))):Mem W w (a++(gW t (q++[⟨x,A,c⟩])++b)):=by
 refine h.perm ?_
 rw [q8k]
 have h1:(afG (.slice A (abl x.evs) c) (abl x.evs) (x.evs.flatMap gZ) t 11::(a++(gW t q++b))).Perm (a++afG (.slice A (abl x.evs) c) (abl x.evs) (x.evs.flatMap gZ) t 11::(gW t q++b)):=(adh).symm
 refine h1.trans (List.Perm.append_left a ?_)
 rw [aby]
 exact (adh (l₁:=gW t q) (l₂:=b)).symm
def aaP {f:Fact} (h:Mem W w (a++b)) (k:Mem w w' (f::gW t q)):Mem W w' (f::(a++(gW t q++b))):=by
 refine (h.join k).perm (List.Perm.cons f ?_)
 show (gW t q++(a++b)).Perm _
 rw [←aby,←aby]
 exact List.Perm.append_right b ac7
end
def AZ (t bt:TypeId) (w:World) (er:Nat) (bs:List Bk):Ending→World→Prop:=λr w'=>∃A c q,r= .returned (.tuple #[.slice A (abl bs) c,.int .i64 (er:Int)])∧q.map Hb.b=bs∧abl bs≤c∧Mem w w' (.row (.slice A (abl bs) c) (abl bs) (q.flatMap hbL) bt 5::gW t q)
section
variable {W w:World} {fs a:List Fact} {t bt:TypeId} {q:List Hb}
theorem Mem.only (h:Mem W w fs) {f:Fact} (d:f∈fs):Mem W w [f]:=⟨h.below,λk c=>by rw [aek] at c;subst c;exact h.holds k d,List.pairwise_singleton _ _⟩
def q8l {n:Int} (h:Mem W w fs) (c:n=er):AZ t bt W er [] (.returned (.tuple #[.slice none 0 0,.int .i64 n])) w:=by
 subst c
 exact ⟨none,0,[],rfl,rfl,abq _,Mem.nil ⟨h.below,λf d=>absurd d acr,.nil⟩ _ _⟩
theorem zed (h:Mem W w (.row (.slice A (abl q) c) (abl q) (q.flatMap hbL) bt 5::gW t q)) (hc:abl q≤c):AZ t bt W 0 (q.map Hb.b) (.returned (.tuple #[.slice A (abl q) c,.int .i64 0])) w:=
 ⟨A,c,q,by rw [abu];rfl,rfl,by rwa [abu],by rwa [abu]⟩
end
def jc (x:aC):List (List Sp):=x.rs.map aeB
theorem xR {x:aC} (h:g<abl x.rs):(jc x).getD g []=(x.rs.getD g Rw.zero).l:=jR h
theorem uN (x:aC):abl (jc x)=abl x.rs:=abu ..
def uO (a b:aC):Prop:=a.ak=b.ak∧a.aj=b.aj∧a.gs=b.gs
instance FN (a b:aC):Decidable (uO a b):=by unfold uO;infer_instance
def kC (a b:aC):Prop:=uO a b∧a.cl=b.cl∧a.cu=b.cu∧a.ts=b.ts∧jc a=jc b
instance FP (a b:aC):Decidable (kC a b):=by unfold kC;infer_instance
def eD (a b:cO):Prop:=a.next=b.next∧a.st.ak=b.st.ak∧a.st.aj=b.st.aj∧a.st.gs=b.st.gs∧a.st.cl=b.st.cl∧a.st.cu=b.st.cu∧a.st.ts=b.st.ts∧jc a.st=jc b.st
instance KV (a b:cO):Decidable (eD a b):=by unfold eD;infer_instance
theorem XQ {l:List Rw} (h:i<abl l):(l.map aeB).getD i []=(l.getD i Rw.zero).l:=by
 rw [abo,abo,ac3,abp h]
 rfl
section
variable {P:Program} {Q:Exit→Act→World→Prop} {a:Act} {W w:World} {n d:Nat} {D:List Deferred} {σ:List (Nat×Value)} {o:Oper} {K:Act→World→Prop} {fs:List Fact}
end
def kI (t:TypeId) (q:List Rw):List Fact:=iW t 3 (q.map Rw.own)
section
variable {W w w':World} {fs gs a T:List Fact} {t:TypeId} {q:List Rw}
theorem XR {x:Rw} (b:x∈q):afG (.slice x.A (abl x.l) x.c) (abl x.l) (x.l.flatMap iQ) t 3∈kI t q:=ac1 (ac1 b)
theorem aaH {l:List Sp} (h:Mem W w (.row (.slice A (abl l) c) (abl l) (l.flatMap iQ) t 3::(fs++kI t q))):Mem W w (fs++kI t (q++[⟨A,c,l⟩])):=by
 have h1:=Mem.zj9 h
 unfold kI
 rw [abV]
 exact h1
theorem Mem.oZ (h:Mem W w fs) (k:Mem w w' gs):Mem W w' (fs++gs):=(h.join k).perm ac7
end
def jr (x:aC):List Fact:=[.row (.slice x.gA (abl x.gs) x.gc) (abl x.gs) (x.gs.flatMap eO) 198 2,.row (.slice x.lA (abl x.cl) x.lc) (abl x.cl) (x.cl.map aP) 3 1,.row (.slice x.uA (abl x.cu) x.uc) (abl x.cu) (x.cu.map aP) 3 1,.row (.slice x.tA (abl x.ts) x.tc) (abl x.ts) (x.ts.flatMap bI) 232 8,.row (.slice x.sA (abl x.rs) x.sc) (abl x.rs) (x.rs.map aac) 176 1]++kI 200 x.rs
section
variable {W w w':World} {fs T:List Fact} {x:aC}
theorem Mem.Bz (h:Mem W w fs) (hs:∀f∈jr x,f∈fs):dZ w x:=
 ⟨h.jO (hs _ (abM (i:=0) (l:=jr x) rfl)),h.jO (hs _ (abM (i:=1) (l:=jr x) rfl)),h.jO (hs _ (abM (i:=2) (l:=jr x) rfl)),h.jO (hs _ (abM (i:=3) (l:=jr x) rfl)),h.jO (hs _ (abM (i:=4) (l:=jr x) rfl)),λy b=>h.jO (hs _ (ac5 _ (XR b)))⟩
theorem Mem.stL (n:Nat) (h:Mem W w fs) (b:fs.drop n=jr x++T):dZ w x:=h.Bz λf c=>abZ (b▸List.mem_append_left _ c)
theorem Mem.stX (n:Nat) (h:Mem W w fs) (b:fs.drop n=jr x):dZ w x:=h.Bz λf c=>abZ (b▸c)
end
def XT (w:World) (x:aC) (r:Ending) (w':World):Prop:=∃y:aC,r= .returned (.agg y.cells)∧kC x y∧eP y∧Mem w w' (jr y)
def FQ (l:List Gr):∀u∈l.flatMap eO,u.oneCell'=true:=by
 intro u c
 obtain ⟨x,_,b⟩:=acE.1 c
 simp only [eO,ab0,acr,or_false] at b
 rcases b with rfl|rfl<;>rfl
theorem Pf (l:List Sp):∀u∈l.flatMap iQ,u.oneCell'=true:=by
 intro u c
 obtain ⟨x,_,b⟩:=acE.1 c
 simp only [iQ,ab0,acr,or_false] at b
 rcases b with rfl|rfl|rfl<;>rfl
theorem FR (l:List Tk):∀u∈l.flatMap bI,u.oneCell'=true:=by
 intro u c
 obtain ⟨x,_,b⟩:=acE.1 c
 simp only [bI,ab0,acr,or_false] at b
 rcases b with rfl|rfl|rfl|rfl|rfl|rfl|rfl|rfl<;>rfl
def Pg (l:List Int):∀u∈l.map aP,u.oneCell'=true:=by
 intro u b
 obtain ⟨x,_,rfl⟩:=ab6.1 b
 rfl
def XU (l:List Rw):∀u∈l.map aac,u.oneCell'=true:=by
 intro u b
 obtain ⟨x,_,rfl⟩:=ab6.1 b
 rfl
theorem q9b {l:List Rw} (h:k<abl l):(l.take (k+1)).map aeB=(l.take k).map aeB++[(l.getD k Rw.zero).l]:=by rw [xH Rw.zero h,abV];rfl
theorem KW {a b:aC} (h:kC a b):b.av=a.av:=by
 obtain ⟨⟨h1,h2,h3⟩,h4,h5,h6,h7⟩:=h
 unfold aC.av
 rw [h1,h2,h3,h4,h5,h6,show a.rs.map aeB=b.rs.map aeB from h7]
theorem KX {b:cO} (h:eD a b):kC a.st b.st:=⟨⟨h.2.1,h.2.2.1,h.2.2.2.1⟩,h.2.2.2.2.1,h.2.2.2.2.2.1,h.2.2.2.2.2.2.1,h.2.2.2.2.2.2.2⟩
def uP {b:cO} (h0:a.next=b.next) (h:kC a.st b.st):eD a b:=⟨h0,h.1.1,h.1.2.1,h.1.2.2,h.2.1,h.2.2.1,h.2.2.2.1,h.2.2.2.2⟩
theorem XV {a b:aC} (h:jc a=jc b):abl a.rs=abl b.rs:=by rw [←uN a,h,uN]
theorem KY {f g:Nat→List α}:∀k,(∀i,i<k→f i=g i)→dS k f=dS k g
 |0,_=>rfl
 |k+1,h=>by rw [qz,qz,KY k (λi hi=>h i om),h k om]
def ziu {b:cO} (h:eD a b):∀i,aF b i=aF a i:=by
 obtain ⟨h0,h1,h2,h3,h4,h5,h6,h7⟩:=h
 intro i
 match i with
 |0=>show [aH b.next]=[aH a.next];rw [h0]
 |1=>show [aH b.st.ak,b.st.aj,abl b.st.gs]=[aH a.st.ak,a.st.aj,abl a.st.gs];rw [h1,h2,h3]
 |2=>show dS (abl b.st.gs-1) (sS b.st.gs)=dS (abl a.st.gs-1) (sS a.st.gs);rw [h3]
 |3=>show b.st.cl.map aH=a.st.cl.map aH;rw [h4]
 |4=>show b.st.cu.map aH=a.st.cu.map aH;rw [h5]
 |5=>show (abl b.st.ts::dS (abl b.st.ts) λi=>lY (qo b.st.ts i) (b.st.ts.getD i Tk.zero))=abl a.st.ts::dS (abl a.st.ts) λi=>lY (qo a.st.ts i) (a.st.ts.getD i Tk.zero);rw [h6]
 |6=>
  have c:=XV h7
  show (dS (abl b.st.rs) λg=>ni g (b.st.rs.getD g Rw.zero).l)=dS (abl a.st.rs) λg=>ni g (a.st.rs.getD g Rw.zero).l
  rw [c]
  exact KY _ λg e=>by rw [←xR e,←h7,xR om]
 |k+7=>rfl
theorem FT {b:cO} (h:eD a b):bV b=bV a:=by unfold bV;rw [KW (KX h),h.1]
theorem XW {b:cO} (h:eD a b):dU b=dU a:=KY 7 λi _=>ziu h i
def q9c {b:cO} (h:eD a b):iP b=iP a:=by unfold iP;rw [FT h,XW h]
theorem ze6 {b:cO} (h:eD a b):dx b=dx a:=by unfold dx;rw [XW h]
theorem XY {b:cO} (h:eD a b):cZ b=cZ a:=by unfold cZ;rw [FT h,ze6 h]
def qyz (a:aC):kC a a:=⟨⟨rfl,rfl,rfl⟩,rfl,rfl,rfl,rfl⟩
theorem XZ {a b:aC} (h:kC a b) (c:bN a):bN b:=by
 obtain ⟨⟨h1,h2,h3⟩,h4,h5,h6,h7⟩:=h
 refine ⟨h3▸c.g,h4▸c.l,h5▸c.u,h6▸c.t,by rw [←XV h7];exact c.s,λy f=>?_⟩
 have h8:y.l∈jc a:=by rw [h7];exact ac1 f
 obtain ⟨z,hz,e⟩:=ab6.1 h8
 rw [←e]
 exact c.r z hz
def FU (x:aC):Prop:=abl x.ts≤60∧abl x.gs≤12∧abl x.rs≤12∧abl x.cl≤8∧abl x.cu≤8∧∀k,k<abl x.rs→(x.rs.getD k Rw.zero).l.length≤8
instance Ph (x:aC):Decidable (FU x):=by unfold FU;infer_instance
def jl.zero:jl:=⟨⟨#[]⟩,0,0⟩
def jl.cells (x:jl):Array Value:= #[.string x.nm,.int .i64 (x.fr:Int),.int .i64 (x.to:Int)]
def Mv (a b c d e:Nat):cO:=⟨1,⟨1,0,some ⟨a,0,none⟩,1,[⟨0,1⟩],some ⟨b,0,none⟩,1,[0],some ⟨c,0,none⟩,1,[0],none,0,[],some ⟨e,0,none⟩,1,[⟨some ⟨d,0,none⟩,1,[⟨0,0,0⟩]⟩]⟩⟩
section
variable {w:World} {a b c d e f:Nat}
theorem wW {p:α→Prop} {x:α} (h:p x):∀y∈[x],p y:=λy g=>by rw [aek] at g;subst g;exact h
theorem zg7 {p:α→Prop}:∀y∈([]:List α),p y:=λy g=>by cases g
theorem zg8:Gr.Ok ⟨0,1⟩:=⟨by unfold aR;decide,by unfold aR;decide⟩
def zjz:(Mv a b c d e).st.av.Ok:=⟨show aR 1 by unfold aR;decide,show 0<18446744073709551616 by decide,wW zg8,wW (by unfold aR;decide),wW (by unfold aR;decide),zg7,wW (wW ⟨by decide,by decide,by decide⟩)⟩
def zg9:bN (Mv a b c d e).st:=⟨by show 1≤1000000;decide,by show 1≤1000000;decide,by show 1≤1000000;decide,by show 0≤1000000;decide,by show 1≤1000000;decide,wW (by show 1≤1000000;decide)⟩
def zha:eP (Mv a b c d e).st:=⟨abq 1,abq 1,abq 1,abq 0,abq 1,wW (abq 1)⟩
end
def fG (A:Option Addr) (n c:Nat) (l:List Gr):Fact:= .row (.slice A n c) n (l.flatMap eO) 198 2
def fI (A:Option Addr) (n c:Nat) (l:List Int):Fact:= .row (.slice A n c) n (l.map aP) 3 1
def fT (A:Option Addr) (n c:Nat) (l:List Tk):Fact:= .row (.slice A n c) n (l.flatMap bI) 232 8
def fS (A:Option Addr) (n c:Nat) (l:List Rw):Fact:= .row (.slice A n c) n (l.map aac) 176 1
def fR (q:List Rw):List Fact:=kI 200 q
def fM (gm:Nat) (cp:Int) (cr:Nat) (gA:Option Addr) (ng gc:Nat) (lA:Option Addr) (nl lc:Nat) (uA:Option Addr) (nu uc:Nat) (tA:Option Addr) (nt tc:Nat) (sA:Option Addr) (ns sc:Nat):Fact:=
 .blk gm #[.int .i64 cp,.int .u64 (cr:Int),.slice gA ng gc,.slice lA nl lc,.slice uA nu uc,.slice tA nt tc,.slice sA ns sc,.bool true] 273
def jm (gm:Nat) (x:aC) (ng nl nu nt ns:Nat):List Fact:=fM gm x.ak x.aj x.gA ng x.gc x.lA nl x.lc x.uA nu x.uc x.tA nt x.tc x.sA ns x.sc::fG x.gA ng x.gc x.gs::fI x.lA nl x.lc x.cl::fI x.uA nu x.uc x.cu::fT x.tA nt x.tc x.ts::fS x.sA ns x.sc x.rs::fR x.rs
structure qZ (x:aC) (ng nl nu nt ns:Nat):Prop where
 g:abl x.gs=ng
 l:abl x.cl=nl
 u:abl x.cu=nu
 t:abl x.ts=nt
 s:abl x.rs=ns
structure dz (x:aC) (ng nl nu nt ns:Nat):Prop where
 ok:x.av.Ok
 few:bN x
 sh:ShAt x
 ln:qZ x ng nl nu nt ns
section
variable {W w w':World} {F A T fs:List Fact} {x:aC} {ng nl nu nt ns gm g c n:Nat}
theorem X4:jm gm x (abl x.gs) (abl x.cl) (abl x.cu) (abl x.ts) (abl x.rs)=fM gm x.ak x.aj x.gA (abl x.gs) x.gc x.lA (abl x.cl) x.lc x.uA (abl x.cu) x.uc x.tA (abl x.ts) x.tc x.sA (abl x.rs) x.sc::jr x:=rfl
theorem Mem.sw (n:Nat) (h:Mem W w F) (b:F.drop n=jm gm x ng nl nu nt ns++T) (e:qZ x ng nl nu nt ns):dZ w x:=by
 obtain ⟨rfl,rfl,rfl,rfl,rfl⟩:=e
 exact h.stL (T:=T) (n+1) (by rw [←acV,b,X4];rfl)
theorem Mem.nK (n:Nat) (h:Mem W w F) (b:F.drop n=jm gm x ng nl nu nt ns++T) (e:qZ x ng nl nu nt ns):w.heap[gm]?=some (.cells #[.int .i64 x.ak,.int .u64 (x.aj:Int),.slice x.gA (abl x.gs) x.gc,.slice x.lA (abl x.cl) x.lc,.slice x.uA (abl x.cu) x.uc,.slice x.tA (abl x.ts) x.tc,.slice x.sA (abl x.rs) x.sc,.bool true] 273 (0,0)):=by
 obtain ⟨rfl,rfl,rfl,rfl,rfl⟩:=e
 have h1:fM gm x.ak x.aj x.gA (abl x.gs) x.gc x.lA (abl x.cl) x.lc x.uA (abl x.cu) x.uc x.tA (abl x.ts) x.tc x.sA (abl x.rs) x.sc∈F:=abZ (by rw [b,X4];exact acs ..)
 exact (h.holds _ h1).2
theorem Mem.front (n:Nat) (h:Mem W w F) (b:F.drop n=A++T):Mem W w (A++(F.take n++T)):=by
 have h2:Mem W w (F.take n++(A++T)):=by rw [←b,ab9];exact h
 exact h2.perm (ae3 ..)
theorem Mem.back (h:Mem W w (A++(F++T))):Mem W w (F++(A++T)):=h.perm (ae3 ..)
end
def aN (rs:List Rw) (g c:Nat) (z:Sp):List Rw:=rs.set g {rs.getD g Rw.zero with l:=(rs.getD g Rw.zero).l.set c z}
theorem zh (rs:List Rw) (g c:Nat) (z:Sp):abl (aN rs g c z)=abl rs:=abO ..
theorem q6 {l:List α} (d x:α) (h:k<abl l):(l.set k x).getD k d=x:=by
 rw [abo,List.getElem?_set_self h];rfl
theorem getD_set_ne {l:List α} {j:Nat} (d x:α) (h:k≠j):(l.set k x).getD j d=l.getD j d:=by grind
theorem X5 {l:List α} (d:α) (h:k<abl l):l.set k (l.getD k d)=l:=by simp_all
theorem q3q (b:g<abl rs):(aN rs g c z).map aac=rs.map aac:=by grind [aac,Rw.zero,aN,X5,abp,abu,abO,afv]
theorem ze7 (b:g<abl rs):(aN rs g c z).map aeB=(rs.map aeB).set g (((rs.map aeB).getD g []).set c z):=by simp_all [Rw.zero,XQ,aN]
theorem Dm (b:g<abl rs):(aN rs g c z).getD g Rw.zero={rs.getD g Rw.zero with l:=(rs.getD g Rw.zero).l.set c z}:=q6 _ _ b
theorem FW {h:Nat} (b:g≠h):(aN rs g c z).getD h Rw.zero=rs.getD h Rw.zero:=getD_set_ne _ _ b
theorem Pn {y:Sp} (b:g<abl rs):aN (aN rs g c z) g c y=aN rs g c y:=by simp_all [q6,aN]
section
variable {W w w':World} {F A T fs:List Fact} {rs:List Rw} {n g c:Nat}
def aaI (n:Nat) (e:F.drop n=fR rs++T) (b:g<abl rs):F[n+g]?=some (.row (.slice (rs.getD g Rw.zero).A (rs.getD g Rw.zero).l.length (rs.getD g Rw.zero).c) (rs.getD g Rw.zero).l.length ((rs.getD g Rw.zero).l.flatMap iQ) 200 3):=by
 have h1:F[n+g]?=(F.drop n)[g]?:=by rw [acI]
 have h:abl (fR rs)=abl rs:=by unfold fR kI iW;rw [abu,abu]
 rw [h1,e,List.getElem?_append_left om]
 unfold fR kI iW
 rw [ac3,ac3,abp b,abo,abp b]
 rfl
theorem Mem.jv (n:Nat) (h:Mem W w F) (b:F.drop n=fR rs++T) (e:g<abl rs) (hy:rs.getD g Rw.zero=⟨E,m,yl⟩) (h0:0<abl yl):∃i,E=some ⟨i,0,none⟩:=by
 have h1:=aaI n b e
 rw [hy] at h1
 exact zj (h.own h1) h0
theorem Mem.sU {m b c j:Nat} {v:Value} (n:Nat) (h:Mem W w F) (e:F.drop n=fR rs++T) (i:g<abl rs) (hy:rs.getD g Rw.zero=⟨some ⟨b,0,none⟩,m,yl⟩) (hz:yl[c]?=some z) (k:(iQ z)[j]?=some v):w.cell? ⟨b,c*3+j,none⟩=some v:=by
 have h1:=aaI n e i
 rw [hy] at h1
 exact h.qq Bf h1 hz k
theorem Mem.X6 {A:Option Addr} {size:Nat} {xs:List Value} {e:TypeId} (n:Nat) (h:Mem W w F) (b:F.drop n=fR rs++T) (j: .row (.slice A m k) m xs e size∈T):Rd w w.heap.size size A m xs:=
 h.jO (abZ (i:=n) (by rw [b];exact ac5 _ j))
def ziv {r:Rw}:(fR rs).set g (.row (.slice r.A (abl r.l) r.c) (abl r.l) (r.l.flatMap iQ) 200 3)=fR (rs.set g r):=by
 unfold fR kI iW
 rw [afv,afv]
 rfl
variable {P:Program} {Q:Exit→Act→World→Prop} {a:Act} {N d:Nat} {D:List Deferred} {σ:List (Nat×Value)} {o:Oper} {v:Value} {K:Act→World→Prop}
def qc1 (Z:Fr a N D σ) (h:Mem W w F) (n:Nat) {sA:Option Addr} {ns sc m e off:Nat} {yl:List Sp} {t:TypeId} {x y:Operand} (j:Nat) {z:Sp} (b:Sp) (i:o.op= .store t x y) (u:o.dst=none) (B:look σ x=some (.pointer (some ⟨e,off,none⟩))) (C:look σ y=some v) (hs:(P.info? t).map (·.size)=some 1) (h1:v.oneCell'=true)
  (p:F.drop n=fS sA ns sc rs::(fR rs++T)) (q:g<abl rs) (hy:rs.getD g Rw.zero=⟨some ⟨e,0,none⟩,m,yl⟩) (hz:yl[c]?=some z) (E:off=c*3+j) (G:j<3) (l:iQ b=(iQ z).set j v)
  (k:∀w',Mem W w' (F.take n++(fS sA ns sc (aN rs g c b)::(fR (aN rs g c b)++T)))→K a w'):o.wp P a w K Q:=by
 subst E
 have hi:=aaI (F:=F) (T:=T) (g:=g) (n+1) (by rw [←acV,p];rfl) q
 rw [hy] at hi
 have H:c<abl yl:=(abv.1 hz).1
 refine zd Z h i u B C hs h1 hi (by rw [pO iQ 3 Bf];show c*3+j<abl yl*3;omega) λw' h=>k w' ?_
 rw [tL iQ 3 Bf yl c z b hz j G v l] at h
 have h2:F=F.take n++(fS sA ns sc rs::(fR rs++T)):=by rw [←p,ab9]
 have s:abl (F.take n)=n:=by
  grind
 have h4:F.set (n+1+g) (.row (.slice (some ⟨e,0,none⟩) (abl yl) m) (abl yl) ((yl.set c b).flatMap iQ) 200 3)=F.take n++(fS sA ns sc rs::((fR rs).set g (.row (.slice (some ⟨e,0,none⟩) (abl yl) m) (abl yl) ((yl.set c b).flatMap iQ) 200 3)++T)):=by
  conv=>lhs;rw [h2]
  rw [afp,if_neg (by rw [s];omega),s,show n+1+g-n=g+1 by omega,List.set_cons_succ,afp,if_pos (by unfold fR kI iW;rw [abu,abu];exact q)]
 have h5:aN rs g c b=rs.set g ⟨some ⟨e,0,none⟩,m,yl.set c b⟩:=by unfold aN;rw [hy]
 have h6:=ziv (rs:=rs) (g:=g) (r:=⟨some ⟨e,0,none⟩,m,yl.set c b⟩)
 grind [fS,q3q]
end
section
variable {P:Program} {W w:World} {fs:List Fact} {f:Nat} {fn:Func} {c:Code} {R:Ending→World→Prop} {u1 u2 u3 u4:Value}
def Pp (b:Mem W w fs) (e:P.funcs[f]?=some fn) (N:Nat) (h:fn.ntmps=N:=by exact rfl) (hb:fn.body=some c:=by exact rfl) (i:decide (1≤N)=true:=by kernel_rfl) (k:JJ W w N [] [(0,u1)] fs (Code.wp P c (bodyPost P fn R))):Calls P f #[u1] w R:=
 wZ (vs:=[u1]) e hb h i rfl λa Z=>k a Z b
def lQ (b:Mem W w fs) (e:P.funcs[f]?=some fn) (N:Nat) (h:fn.ntmps=N:=by exact rfl) (hb:fn.body=some c:=by exact rfl) (i:decide (2≤N)=true:=by kernel_rfl) (k:JJ W w N [] [(0,u1),(1,u2)] fs (Code.wp P c (bodyPost P fn R))):Calls P f #[u1,u2] w R:=
 wZ (vs:=[u1,u2]) e hb h i rfl λa Z=>k a Z b
def xS (b:Mem W w fs) (e:P.funcs[f]?=some fn) (N:Nat) (h:fn.ntmps=N:=by exact rfl) (hb:fn.body=some c:=by exact rfl) (i:decide (3≤N)=true:=by kernel_rfl) (k:JJ W w N [] [(0,u1),(1,u2),(2,u3)] fs (Code.wp P c (bodyPost P fn R))):Calls P f #[u1,u2,u3] w R:=
 wZ (vs:=[u1,u2,u3]) e hb h i rfl λa Z=>k a Z b
end
def En.cells (x:En):Array Value:= #[.int .u64 (x.v:Int),.int .u32 (x.r:Int),.int .u32 (x.w:Int)]
def lS (x:En):∀v∈x.cells.toList,v.oneCell'=true:=by simp [En.cells,acd]
def En.Ok (x:En):Prop:=bK x.v x.r x.w=true∧x.v<18446744073709551616
def bC.cells (x:bC):Array Value:= #[.int .u8 (x.kind:Int),.int .i64 x.cpu,.int .i64 x.task,.int .i64 x.group,.int .i64 x.weight,.int .i64 x.to,.int .i64 x.ticks,.int .u64 (x.mask:Int)]
theorem X7 (x:bC):∀v∈x.cells.toList,v.oneCell'=true:=by simp [bC.cells,acd]
theorem mh:SI abm 214 8:=⟨by kernel_rfl,by kernel_rfl⟩
theorem ru:EI abm 211 214 (.agg #[.int .u8 0,.int .i64 0,.int .i64 0,.int .i64 0,.int .i64 0,.int .i64 0,.int .i64 0,.int .u64 0]) 8 64:=⟨by kernel_rfl,by kernel_rfl,rfl,by omega⟩
section
variable {W w:World} {F T:List Fact} {x:aC} {ng nl nu nt ns gm g c n:Nat}
theorem dz.sort (h:dz x ng nl nu nt ns):dW x.ts:=Xn h.sh
def FX (n:Nat) (e:Mem W w F) (h:F.drop n=jm gm x ng nl nu nt ns++T) (b:dz x ng nl nu nt ns) (id:Int):Calls abm 161 #[.pointer (some ⟨gm,0,none⟩),.int .i64 id] w (Is w (.int .i64 (fidx x.ts id))):=
 XC x gm id b.sort w (e.nK n h b.ln) (e.sw n h b.ln).t b.few.t
def q9d (n:Nat) (e:Mem W w F) (h:F.drop n=jm gm x ng nl nu nt ns++T) (b:dz x ng nl nu nt ns) (hc:(c:Int)<x.ak) (i:g<ns):Calls abm 162 #[.pointer (some ⟨gm,0,none⟩),.int .i64 (g:Int),.int .i64 (c:Int)] w (Is w (.tuple #[.agg (aJ bB (aO x.av g c)).cells,.bool (!(aO x.av g c).isEmpty)])):=
 KS x b.ok b.few b.sh gm c hc _ g (abq _) (by rw [b.ln.s];exact i) w (e.sw n h b.ln) (e.nK n h b.ln)
end
def Pq {a b:List α} (h:abl b=n):abl a+n=abl (a++b):=by rw [abn,h]
section
variable {s:aW} {c g:Nat}
theorem qts (b:∀i,0<i→i≤g→dP s.gs i) (h:g≤f):qK s c f g=qK s c g g:=by
 have key:∀(g f a:Nat),(∀i,0<i→i≤g→dP s.gs i)→g≤f→g≤a→qK s c f g=qK s c a g:=by
  intro g
  induction g using ae0 with
  | _ g j =>
   intro f a b h1 h2
   by_cases h0:g=0
   ·subst h0
    cases f<;>cases a<;>simp [qK]
   ·obtain ⟨f,rfl⟩:∃k,f=k+1:=⟨f-1,by omega⟩
    obtain ⟨a,rfl⟩:∃k,a=k+1:=⟨a-1,by omega⟩
    have d:=b g om (abq _)
    unfold dP at d
    simp only [qK,if_neg h0]
    have e:(s.par g).toNat<g:=by show (s.gs.getD g Gr.zero).parent.toNat<g;omega
    grind
 exact key g f g b h (abq _)
theorem X8 (a:∀i,0<i→i≤g→dP s.gs i) (h0:0<g) (hm:aO s g c=[]):kH s g c=g::kH s (s.gs.getD g Gr.zero).parent.toNat c:=by
 obtain ⟨k,rfl⟩:∃k,g=k+1:=⟨g-1,by omega⟩
 have b:=a (k+1) h0 (abq _)
 unfold dP at b
 show qK s c (k+1) (k+1)=_
 rw [qK,if_neg om,if_pos (by rw [hm];rfl)]
 show (k+1)::qK s c k (s.gs.getD (k+1) Gr.zero).parent.toNat=_
 rw [qts (λi hi d=>a i hi om) om]
 rfl
theorem qtt:kH s 0 c=[]:=rfl
theorem X9 (hm:aO s g c≠[]):kH s g c=[]:=by
 cases g with
 |zero=>rfl
 |succ k=>
  show qK s c (k+1) (k+1)=_
  grind [qK]
def Ya (b:∀i,0<i→i≤g→dP s.gs i):∀h∈kH s g c,0<h∧h≤g∧aO s h c=[]:=by
 induction g using ae0 with
 | _ g d =>
  intro h a
  rcases Nat.eq_zero_or_pos g with h0|h0
  ·subst h0;cases a
  ·by_cases hm:aO s g c=[]
   ·rw [X8 b h0 hm] at a
    have e:=b g h0 (abq _)
    unfold dP at e
    rcases ab0.1 a with rfl|a
    ·exact ⟨h0,abq _,hm⟩
    ·have:=d (s.gs.getD g Gr.zero).parent.toNat om (λi hi f=>b i hi om) h a
     exact ⟨this.1,by omega,this.2.2⟩
   ·rw [X9 hm] at a;cases a
theorem Yb:∀(l:List Mb) (b:Mb),aJ b l=b∨aJ b l∈l
 |[],b=> .inl rfl
 |m::r,b=>by
  show aJ (if m.lt b then m else b) r=b∨aJ (if m.lt b then m else b) r∈m::r
  rcases Yb r (if m.lt b then m else b) with h|h
  ·grind
  ·exact .inr (aci _ h)
def q9e {l:List Mb} (a:l≠[]) (ht:∀m∈l,m.lt bB=true):aJ bB l∈l:=by
 cases l with
 |nil=>exact absurd rfl a
 |cons m r=>
  show aJ (if m.lt bB then m else bB) r∈m::r
  grind [Yb]
theorem KZ {m:Mb} (hm:m∈aO s g c):(∃t∈s.ts,t.here g c=true∧m=⟨t.v,0,t.id.toNat⟩)∨(∃h,g<h∧h<abl s.sp∧s.par h=g∧aO s h c≠[]∧m=⟨(s.spot h c).v,1,h⟩):=by grind [kN,KH,uD,acB]
theorem xU (a:s.Ok) (g c:Nat):(s.spot g c).Ok:=by
 unfold aW.spot
 rcases ab7 g (abl s.sp) with h|h
 ·rcases ab7 c (abl (s.sp.getD g [])) with h2|h2
  ·exact a.sp _ (qe [] h) _ (qe Sp.zero h2)
  ·rw [abo (l:=s.sp.getD g []),ac6 h2]
   exact ⟨by decide,by decide,by decide⟩
 ·rw [abo (l:=s.sp),ac6 h]
  have e:(Option.none.getD ([]:List Sp)).getD c Sp.zero=Sp.zero:=rfl
  rw [e]
  exact ⟨by decide,by decide,by decide⟩
def q9f (a:s.Ok):∀m∈aO s g c,m.lt bB=true:=by
 intro m hm
 unfold Mb.lt
 rw [decide_eq_true_eq]
 show m.v<18446744073709551615∨m.v=18446744073709551615∧(m.k<18446744073709551615∨_)
 rcases KZ hm with ⟨t,ht,_,rfl⟩|⟨h,_,_,_,_,rfl⟩
 ·have:=(a.ts t ht).v
  show t.v<_∨t.v=_∧(0<_∨_)
  omega
 ·have:=(xU a h c).v
  grind
theorem Pt (a:s.Ok) (b:aO s g c≠[]):aJ bB (aO s g c)∈aO s g c:=q9e b (q9f a)
theorem K3 (a:s.Ok) (b:aO s g c≠[]):((aJ bB (aO s g c)).k=0∧∃t∈s.ts,t.here g c=true∧aJ bB (aO s g c)=⟨t.v,0,t.id.toNat⟩)∨((aJ bB (aO s g c)).k=1∧∃h,(aJ bB (aO s g c)).id=h∧g<h∧h<abl s.sp∧s.par h=g∧aO s h c≠[]∧(aJ bB (aO s g c)).v=(s.spot h c).v):=by grind [Pt,KZ]
def qtv (b:s.Ok):∀(n f a g:Nat),g<abl s.sp→abl s.sp-g≤n→n≤f→n≤a→wN s c f g=wN s c a g:=by
 intro n
 induction n with
 |zero=>intro f a g d e;omega
 |succ n h=>
  intro f a g d e h1 h2
  obtain ⟨f,rfl⟩:∃k,f=k+1:=⟨f-1,by omega⟩
  obtain ⟨a,rfl⟩:∃k,a=k+1:=⟨a-1,by omega⟩
  rw [wN,wN]
  by_cases hm:aO s g c=[]
  ·grind
  ·grind [K3,aO]
def uQ (s:aW) (c g:Nat):Nat:=wN s c (abl s.sp-g) g
theorem q3r:oD s c=uQ s c 0:=rfl
theorem Yc (b:g<abl s.sp) (hm:aO s g c=[]):uQ s c g=0:=by
 unfold uQ
 obtain ⟨k,a⟩:∃k,abl s.sp-g=k+1:=⟨abl s.sp-g-1,by omega⟩
 rw [a,wN,if_pos (by rw [hm];rfl)]
theorem Yd (a:g<abl s.sp) (hm:aO s g c≠[]) (h0:(aJ bB (aO s g c)).k=0):uQ s c g=(aJ bB (aO s g c)).id:=by
 unfold uQ
 obtain ⟨k,b⟩:∃k,abl s.sp-g=k+1:=⟨abl s.sp-g-1,by omega⟩
 grind [wN]
theorem Ye (a:s.Ok) (d:g<abl s.sp) (hm:aO s g c≠[]) (h0:(aJ bB (aO s g c)).k≠0):uQ s c g=uQ s c (aJ bB (aO s g c)).id∧g<(aJ bB (aO s g c)).id∧(aJ bB (aO s g c)).id<abl s.sp:=by
 rcases K3 a hm with ⟨h,_⟩|⟨h,j,h3,h4,h5,_⟩
 ·exact absurd h h0
 ·rw [h3]
  refine ⟨?_,h4,h5⟩
  unfold uQ
  obtain ⟨k,b⟩:∃k,abl s.sp-g=k+1:=⟨abl s.sp-g-1,by omega⟩
  rw [b,wN,if_neg (by simpa using hm),if_neg h0,h3]
  exact qtv a (abl s.sp-j) _ _ j h5 (abq _) om (abq _)
def gH (l:List Tk) (c:Nat):Int:=(l.map λt=>if t.ready&&decide (t.cpu=(c:Int)) then t.weight else (0:Int)).sum
def qy0 {l:List Tk} (h:k<abl l):gH (l.take (k+1)) c=gH (l.take k) c+(if (l.getD k Tk.zero).ready&&decide ((l.getD k Tk.zero).cpu=(c:Int)) then (l.getD k Tk.zero).weight else (0:Int)):=by grind [Tk.zero,gH,xH]
def Yf {l:List Tk} (a:∀t∈l,1≤t.weight∧t.weight≤65536):0≤gH l c∧gH l c≤65536*abl l:=by
 induction l with
 |nil=>exact ⟨ae7 _,ae7 _⟩
 |cons t r b=>
  have h1:=b λx d=>a x (aci _ d)
  grind [gH]
def Yg {l:List Tk} (a:∀t∈l,1≤t.weight∧t.weight≤65536) (k:Nat):0≤gH (l.take k) c∧gH (l.take k) c≤65536*abl l:=by
 have h1:=Yf (c:=c) (l:=l.take k) λt ht=>a t (acg ht)
 grind
theorem qy1 (h:k<abl l):fZ s (l.take (k+1)) c=lD c (fZ s (l.take k) c) (l.getD k 0):=by
 unfold fZ
 rw [xH 0 h,List.foldl_append]
 rfl
end
def dX (gs:List Gr) (cp:Int) (rs:List Rw):Prop:=∀g,g<abl rs→((rs.getD g Rw.zero).l.length:Int)=cp∧∀z∈(rs.getD g Rw.zero).l,z.Ok∧bK z.v z.r (gs.getD g Gr.zero).weight=true
section
variable {x:aC} {ng nl nu nt ns g c:Nat}
theorem dz.spots (h:dz x ng nl nu nt ns):dX x.gs x.ak x.rs:=λg a=>by
 have h1:=Bj a (h.sh.row g a)
 refine ⟨h1.1,λz hz=>?_⟩
 obtain ⟨c,hc,rfl⟩:=acB hz
 have e:(x.rs.getD g Rw.zero).l.getD c Sp.zero=(x.rs.getD g Rw.zero).l[c]:=by rw [abo,abp hc];rfl
 refine ⟨h.ok.sp _ (by rw [←jR a];exact qe [] (by rw [kQ];exact a)) _ (aeb hc),?_⟩
 have h2:=h1.2 c hc
 rw [e] at h2
 unfold dI at h2
 rw [abF] at h2
 exact h2.1
theorem dX.put {gs:List Gr} {cp:Int} (h:dX gs cp rs) (z:Sp) (hz:z.Ok) (d:bK z.v z.r (gs.getD g Gr.zero).weight=true):dX gs cp (aN rs g c z):=λk a=>by
 rw [zh] at a
 by_cases b:g=k
 ·subst b
  rw [Dm a]
  refine ⟨by show (abl ((rs.getD g Rw.zero).l.set c z):Int)=cp;rw [abO];exact (h g a).1,λy e=>?_⟩
  rcases ab3 e with h1|rfl
  ·exact (h g a).2 y h1
  ·exact ⟨hz,d⟩
 ·rw [FW b];exact h k a
theorem Pw (a:g<abl x.rs):({x with rs:=aN x.rs g c z}:aC).av=x.av.uI g c z:=by
 unfold aC.av aW.uI
 simp only [ze7 a]
theorem wP (a:g<abl x.rs) (hy:x.rs.getD g Rw.zero=⟨A,m,yl⟩) (hz:yl[c]?=some z):x.av.spot g c=z:=by
 rw [OE a,hy,abo,hz]
 rfl
theorem K4 (a:g<abl rs) (hy:rs.getD g Rw.zero=⟨A,m,yl⟩):(aN rs g c z).getD g Rw.zero=⟨A,m,yl.set c z⟩:=by rw [Dm a,hy]
theorem q3s {p:Nat} {h:Sp} {pc:Nat} {pl:List Sp} {e:En} (a:g<abl x.rs) (hy:x.rs.getD g Rw.zero=⟨A,n,yl⟩) (hz:yl[c]?=some z) (i:(x.gs.getD g Gr.zero).parent=(p:Int)) (b:p<abl x.rs) (d:x.rs.getD p Rw.zero=⟨E,pc,pl⟩) (f:pl[c]?=some h) (j:(x.gs.getD g Gr.zero).weight=(m:Int)) (k:(⟨z.v,z.r,m⟩:En).woken h.floor x.aj=e):
  ({x with rs:=aN x.rs g c {z with v:=e.v,r:=e.r}}:aC).av=lD c x.av g:=by
 rw [Pw a]
 unfold lD aW.uJ
 have e1:x.av.jW g c=⟨z.v,z.r,m⟩:=by
  unfold aW.jW
  rw [wP a hy hz,show (x.av.gs.getD g Gr.zero).weight=(m:Int) from j]
  rfl
 have e2:(x.av.par g).toNat=p:=by rw [show x.av.par g=(p:Int) from i];rfl
 rw [e1,e2,wP a hy hz,wP b d f,show x.av.aj=x.aj from rfl,k]
theorem qtx {d:Nat} {e:En} (a:g<abl x.rs) (hy:x.rs.getD g Rw.zero=⟨A,n,yl⟩) (hz:yl[c]?=some z) (b:(x.gs.getD g Gr.zero).weight=(m:Int)) (f:(⟨z.v,z.r,m⟩:En).add d=e):
  ({x with rs:=aN x.rs g c {z with v:=e.v,r:=e.r}}:aC).av=x.av.uJ g c ((x.av.jW g c).add d):=by
 rw [Pw a]
 unfold aW.uJ
 have e1:x.av.jW g c=⟨z.v,z.r,m⟩:=by
  unfold aW.jW
  rw [wP a hy hz,show (x.av.gs.getD g Gr.zero).weight=(m:Int) from b]
  rfl
 rw [e1,wP a hy hz,f]
theorem aav {e:En} (h:e.Ok) (d:Nat):(e.add d).Ok∧(e.add d).w=e.w:=by
 have h1:1≤e.w∧e.w≤65536∧e.r<e.w∧(e.v<18446744073709551615∨e.r=0):=by
  have:=h.1
  grind [bK]
 have a:=h.2
 have hm:=adr (d*1048576+e.r) (show e.w>0 by omega)
 unfold En.add
 have b:mZ=18446744073709551615:=rfl
 split
 ·refine ⟨⟨?_,by show mZ<_;omega⟩,rfl⟩
  grind [bK]
 ·refine ⟨⟨?_,by show e.v+_<_;omega⟩,rfl⟩
  grind [bK]
theorem aaw {e:En} (h:e.Ok) (a cr:Nat) (b:a<18446744073709551616):(e.woken a cr).Ok∧(e.woken a cr).w=e.w:=by
 unfold En.woken
 split
 ·refine ⟨⟨?_,by show a-cr<_;omega⟩,rfl⟩
  have h1:=h.1
  grind [bK]
 ·exact ⟨h,rfl⟩
theorem aaK {e:En} (h:e.Ok) (fr to:Nat) (a:to<18446744073709551616):(e.moved fr to).Ok∧(e.moved fr to).w=e.w:=by
 have h1:=h.1
 unfold bK at h1
 rw [decide_eq_true_eq] at h1
 have b:=h.2
 have d:mZ=18446744073709551615:=rfl
 have hm:r9 e.v fr to<18446744073709551616:=by
  grind [r9]
 refine ⟨⟨?_,hm⟩,rfl⟩
 unfold bK
 rw [decide_eq_true_eq]
 show (1:Int)≤(e.w:Int)∧(e.w:Int)≤65536∧(((if r9 e.v fr to=mZ then 0 else e.r:Nat):Int))<(e.w:Int)∧(r9 e.v fr to<18446744073709551615∨(if r9 e.v fr to=mZ then 0 else e.r)=0)
 grind
def Dn {l:List Gr} (h:bU l=true) (a:g<abl l):∃w:Nat,(l.getD g Gr.zero).weight=(w:Int)∧1≤w∧w≤65536:=by
 have:=oU h a
 exact ⟨(l.getD g Gr.zero).weight.toNat,by omega,by omega,by omega⟩
end
theorem Yi {s s':aW} (ht:s.ts=s'.ts) (b:s.gs=s'.gs) (a:abl s.sp=abl s'.sp) (e:∀h,(s.spot h c).v=(s'.spot h c).v) (g:Nat):aO s g c=aO s' g c:=by
 have key:∀f g,kP s c f g=kP s' c f g:=by
  intro f
  induction f with
  |zero=>intro g;show s.ts.filterMap _=s'.ts.filterMap _;rw [ht]
  |succ f i=>
   grind [aW.par,Oq,kN,kP]
 unfold aO
 rw [a]
 exact key _ g
section
variable {x:aC} {ng nl nu nt ns g c h d:Nat} {jE:List Rw}
def jd (x:aC) (jE:List Rw) (g c:Nat):Prop:=abl jE=abl x.rs∧(∀h,(jE.getD h Rw.zero).l.length=(x.rs.getD h Rw.zero).l.length)∧∀h d,h<abl x.rs→d<(x.rs.getD h Rw.zero).l.length→(jE.getD h Rw.zero).l.getD d Sp.zero=if h<g∨h=g∧d<c then gQ x.av h d ((x.rs.getD h Rw.zero).l.getD d Sp.zero) else (x.rs.getD h Rw.zero).l.getD d Sp.zero
def qy2:jd x x.rs 0 0:=⟨rfl,λ_=>rfl,λh d _ _=>by rw [if_neg om]⟩
theorem Yj (s:aW) (g c:Nat) (z:Sp):(gQ s g c z).v=z.v∧(gQ s g c z).r=z.r:=by
 unfold gQ
 split<;>exact ⟨rfl,rfl⟩
theorem Yk (y:aC) (h d:Nat):y.av.spot h d=(y.rs.getD h Rw.zero).l.getD d Sp.zero:=by grind [Rw.zero,aW.spot,kQ,OE]
theorem ze8 (a:jd x jE g c) (h d:Nat):(({x with rs:=jE}:aC).av.spot h d).v=(x.av.spot h d).v:=by
 rw [Yk,Yk]
 show ((jE.getD h Rw.zero).l.getD d Sp.zero).v=_
 rcases ab7 h (abl x.rs) with h1|h1
 ·rcases ab7 d (x.rs.getD h Rw.zero).l.length with h2|h2
  ·rw [a.2.2 h d h1 h2]
   split
   ·exact (Yj ..).1
   ·rfl
  ·have h3:=a.2.1 h
   grind
 ·have e1:jE.getD h Rw.zero=Rw.zero:=by rw [abo,ac6 (by rw [a.1];exact h1)];rfl
  grind
theorem q3u (a:jd x jE g c) (h d:Nat):aO ({x with rs:=jE}:aC).av h d=aO x.av h d:=
 Yi (s:=({x with rs:=jE}:aC).av) (s':=x.av) rfl rfl (by rw [kQ,kQ];exact a.1) (λk=>ze8 a k d) h
theorem sV {l:List α} {u:α} (d:α) (h:l[k]?=some u):l.getD k d=u:=by rw [abo,h];rfl
theorem qy3 (a:jd x jE g c) (f:g<abl x.rs) (hc:c<(x.rs.getD g Rw.zero).l.length) {z b:Sp} (hz:(jE.getD g Rw.zero).l[c]?=some z) (k:gQ x.av g c z=b):jd x (aN jE g c b) g (c+1):=by
 have h0:=a.2.2 g c f hc
 rw [if_neg om,sV Sp.zero hz] at h0
 refine ⟨by rw [zh];exact a.1,λh=>?_,λh d i j=>?_⟩
 ·by_cases e:g=h
  ·subst e
   rw [Dm (by rw [a.1];exact f)]
   show abl ((jE.getD g Rw.zero).l.set c b)=_
   rw [abO];exact a.2.1 g
  ·rw [FW e];exact a.2.1 h
 ·by_cases e:g=h
  ·subst e
   rw [Dm (by rw [a.1];exact f)]
   show ((jE.getD g Rw.zero).l.set c b).getD d Sp.zero=_
   by_cases e2:c=d
   ·grind
   ·rw [getD_set_ne _ _ e2,a.2.2 g d i j]
    grind
  ·rw [FW e,a.2.2 h d i j]
   grind
def qy4 (a:jd x jE g c) (hm:aO x.av g c=[]):jd x jE g (c+1):=by
 refine ⟨a.1,a.2.1,λh d b e=>?_⟩
 rw [a.2.2 h d b e]
 grind [gQ]
theorem q3v (a:jd x jE g c) (hc:(x.rs.getD g Rw.zero).l.length≤c):jd x jE (g+1) 0:=by
 refine ⟨a.1,a.2.1,λh d b e=>?_⟩
 rw [a.2.2 h d b e]
 grind
def q3w (a:jd x jE g 0) (i:abl x.rs≤g):({x with rs:=jE}:aC).av=eX x.av:=by
 have h1:jE.map aeB=(x.rs.map aeB).mapIdx λg l=>l.mapIdx λc z=>gQ x.av g c z:=by
  apply aen
  ·rw [abu,af0,abu,a.1]
  ·intro h h2 h3
   rw [abu] at h2
   have e:h<abl x.rs:=by rw [←a.1];exact h2
   rw [afc,afW,afc]
   have e1:jE.getD h Rw.zero=jE[h]:=by rw [abo,abp h2];rfl
   have e2:x.rs.getD h Rw.zero=x.rs[h]:=by rw [abo,abp e];rfl
   have b:=a.2.1 h
   rw [e1,e2] at b
   apply aen
   ·rw [af0,b]
   ·intro d h4 h5
    have f:d<x.rs[h].l.length:=by rw [←b];exact h4
    rw [afW]
    have h6:=a.2.2 h d e (by rw [e2];exact f)
    grind
 show (⟨x.ak,x.aj,x.gs,x.cl,x.cu,x.ts,jE.map aeB⟩:aW)=_
 rw [h1]
 rfl
def ze9 (a:bN x) (z:Sp):bN ({x with rs:=aN x.rs g c z}:aC):=by
 refine ⟨a.g,a.l,a.u,a.t,by show abl (aN x.rs g c z)≤_;rw [zh];exact a.s,λy i=>?_⟩
 rcases ab7 g (abl x.rs) with f|f
 ·rcases ab3 i with h1|rfl
  ·exact a.r y h1
  ·show abl ((x.rs.getD g Rw.zero).l.set c z)≤_
   rw [abO]
   exact a.r _ (qe Rw.zero f)
 ·have e:aN x.rs g c z=x.rs:=by unfold aN;exact List.set_eq_of_length_le f
  have b:y∈aN x.rs g c z:=i
  rw [e] at b
  exact a.r y b
theorem dz.put (h:dz x ng nl nu nt ns) (f:g<abl x.rs) (z:Sp) (hz:z.Ok) (hs:dI x.av g z=true):dz ({x with rs:=aN x.rs g c z}:aC) ng nl nu nt ns:=by
 have e:=Pw (x:=x) (c:=c) (z:=z) f
 have a:({x with rs:=aN x.rs g c z}:aC).av.sp.length=abl x.av.sp:=by rw [kQ,kQ];exact zh ..
 refine ⟨⟨h.ok.ak,h.ok.aj,h.ok.gs,h.ok.cl,h.ok.cu,h.ok.ts,λl j y m=>?_⟩,ze9 h.few z,⟨h.sh.cfg,h.sh.cl,h.sh.cu,by show abl (aN x.rs g c z)=_;rw [zh];exact h.sh.rs,h.sh.cls,λk n=>?_,λi hi=>?_⟩,⟨h.ln.g,h.ln.l,h.ln.u,h.ln.t,by show abl (aN x.rs g c z)=_;rw [zh];exact h.ln.s⟩⟩
 ·rw [e] at j
  rcases ab3 (show l∈x.av.sp.set g ((x.av.sp.getD g []).set c z) from j) with h1|rfl
  ·exact h.ok.sp l h1 y m
  ·rcases ab3 m with h2|rfl
   ·exact h.ok.sp _ (qe [] (by rw [kQ];exact f)) y h2
   ·exact hz
 ·have b:k<abl x.rs:=by have h1:k<abl (aN x.rs g c z):=n;rwa [zh] at h1
  have h1:=Bj b (h.sh.row k b)
  refine Xg n ?_ λd o=>?_
  ·grind [Rw.zero,aN,Dm,FW]
  ·have p:d<((aN x.rs g c z).getD k Rw.zero).l.length:=o
   show dI x.av k (((aN x.rs g c z).getD k Rw.zero).l.getD d Sp.zero)=true
   grind [Rw.zero,Sp.zero,getD_set_ne,q6,Dm,FW,dI]
 ·have h1:=h.sh.tk i hi
  unfold iN dH at h1⊢
  rw [a]
  exact h1
end
def Wd (b:Bk) (l:b.Ok) (A:Option Addr) (c B:Nat) (w:World) (p:aM B w) (g:B≤w.heap.size) (hr:Rd w w.heap.size 11 A (abl b.evs) (b.evs.flatMap gZ)) (u:abl b.evs≤1000000):
    Calls abm 106 #[.agg (b.cells A c)] w (ze w b.err b.out):=by
 refine (dV Tryz.func106 36) ?_
 refine (JP∘JE) λP Q=>(Jp 2∘Jj∘JQ∘JP∘d9 aL O0∘JI (h:=by exact λd=>VT b l A c B _ (p.mem d g) (d.le g) (d.old hr) u)) λR C=>(Jp 1∘bH∘Jj) (Ju (λo=>?_) λo=>?_)
 ·
  have e:b.fits=false:=by simpa using o
  exact (JT∘JP∘Jp 2∘Jj∘JZ∘bG) λd=>V3 (by unfold Bk.err;rw [if_pos e]) de d.below
 have e:b.fits=true:=by simpa using o
 have D:=NS b
 refine (JF∘aD∘JP∘d9 aL O0∘JK (h:=by exact λd=>q8j b l A c B _ (p.mem d g) (d.le g) (d.old hr) u e)) λE F G x=>(Jp 1∘bH∘Jr∘Jp 1∘Jl∘Jp 1∘Jo (vI (8+(abl (b.body)):Nat)) (by exact q7 om om)∘bT 4∘Jp 1∘gu∘Jj∘JQ∘JP∘Jp 2∘aK∘Jj) (Ji (λr=>?_) λr=>?_)
 ·
  exact (JT∘JP∘Jp 2∘Jj∘JZ∘bG) λd=>V3 (by unfold Bk.err;rw [if_neg (by simp [e]),if_pos om]) de d.below
 refine (JF∘aD∘JP∘Jp 1∘Jv 1 [(19,vB (IntKind.u8.wrap ((8+(abl (b.body))+4:Nat):Int)))]∘Jo (vB ((8+(abl (b.body))+4)%256:Nat)) (by exact CP (8+(abl (b.body))+4))∘Jp 2∘Jo (vI ((8+(abl (b.body))+4)/256:Nat)) (by exact sN .i64 (8+(abl (b.body))+4) (j:=8) (q:=256) rfl rfl)∘Jv 1 [(22,vB (IntKind.u8.wrap (((8+(abl (b.body))+4)/256:Nat):Int)))]∘Jo (vB (((8+(abl (b.body))+4)/256)%256:Nat)) (by exact CP ((8+(abl (b.body))+4)/256))∘Jy (v:=vP 0 0) (h:=by exact Yl.tN (ad:=⟨0,0,none⟩) (m:=2) (y:=0) (sz:=1) rfl rfl rfl kr de)∘Jy (v:=vB 113) (h:=by exact Pd rfl rfl kr (λ_ h=>(p.mem h g).qG))∘Jy (v:=vP 0 1) (h:=by exact Yl.tN (ad:=⟨0,0,none⟩) (m:=2) (y:=1) (sz:=1) rfl rfl rfl kr de)∘Jy (v:=vB 116) (h:=by exact Pd rfl rfl kr (λ_ h=>(p.mem h g).qH))∘Jg 0 O1∘JU aV #[vB ((8+(abl (b.body))+4)%256:Nat),vB (((8+(abl (b.body))+4)/256)%256:Nat),vB 0,vB 0,vB 113,vB 116,vB 1,vB b.kind]) λH I=>(Jp 1∘aG∘Jr∘Jp 2∘JC (h:=by exact λd=>d.dY (i:=0) (n:=8) (size:=1) rfl rfl de)∘JD (b.body.map B8) 0 (λ_ _=>aT) aV (hr:=by exact λd=>d.rd (i:=1) rfl) (h1:=by exact rR _)) λJ K L z=>λa Z d=>?_
 rw [show ((#[vB ((8+(abl (b.body))+4)%256:Nat),vB (((8+(abl (b.body))+4)/256)%256:Nat),vB 0,vB 0,vB 113,vB 116,vB 1,vB b.kind]).toList)++(b.body.map B8)=b.raw.map B8 from q16 om] at d
 refine Jb Z d ((JK (h:=by exact λd=>NK _ _ _ b.raw B _ (p.mem d g) (d.le g) (d.rd (i:=0) rfl) (VZ b) om (VY l))) λM N O s=>(Jx∘Jx∘Jp 2∘Jj∘JZ∘JM (.t (.f .n))) ?_)
 have k:b.err=0:=by unfold Bk.err;rw [if_neg (by simp [e]),if_neg om]
 exact (bG) λd=>by exact (by rw [k,zh5 k];exact ⟨⟨_,_,rfl,d.own (i:=0) rfl,s⟩,d.below⟩)
theorem qya (b:Bk) (a:b.Ok) (A:Option Addr) (c B:Nat) (w:World) (f:aM B w) (e:B≤w.heap.size) (hr:Rd w w.heap.size 11 A (abl b.evs) (b.evs.flatMap gZ)) (g:abl b.evs≤1000000):
    Calls abm 45 #[.agg (b.cells A c)] w (Is w (vI (b.err:Int))):=by
 refine (dV Tryz.func45 11) ?_
 exact (JP∘JE) λj k=>(Jp 1∘Jr∘d9 aL O0∘JK (h:=by exact λd=>Wd b a A c B _ (f.mem d e) (d.le e) (d.old hr) g)) λl m n i=>(Jp 1∘Jx∘Jx∘Jp 2∘aG∘Jr∘Jp 2∘bH∘Jj∘JZ) sP
def q2a (W w:World) (i k:Nat) (A:Option Addr) (n c:Nat) (l:List Nat) (o:Bool) (most:Nat) (fr:List Fact) (x:∀b∈l,b<256) (e:n=abl l) (D:n≤1000000000) (r:Rd W W.heap.size 1 A n (l.map B8)) (s:n≤c) (t:most≤281474976710657)
    (d:Mem W w (.blk i #[.slice A n c] 30:: .blk k #[.bool o] 4::fr)):
    Calls abm 249 #[vI most,vP i 0,vP k 0] w (V5 W i k l o most fr):=by
 have q:Rd W W.heap.size 1 A (abl l) (l.map B8):=e▸r
 have hc:abl l≤c:=e▸s
 refine qC Tryz.func249 [vI most,vP i 0,vP k 0] [(0,vI most),(1,vP i 0),(2,vP k 0)] λa Z=>?_
 refine Jb Z d ((JP∘Jp 1∘Jq) ?_)
 have y:=yO l
 have z:=Jm l x
 have B:=y5 most l
 refine (JG∘JP∘Jc O0∘JL (h:=by exact λd=>ML A n c l _ (e▸d.old q) x om)) ?_
 rintro d _ C ⟨rfl,u⟩
 refine ⟨_,rfl,_,d.call u,?_⟩
 refine (Jp 1∘Jx∘Jx∘Jx∘Jp 3∘Jr∘Jc O1∘Jp 1) (Ju (λf=>?_) λf=>?_)
 ·
  refine (Jp 4) (Je (λp=>?_) λp=>?_)
  ·
   exact (Jp 2∘Jw .u64∘Jp 2∘JW fU aT) λg=>(iE∘Jr∘Jc O0∘Jp 1∘Jy (h:=by exact aaf aV (j:=((aB l).2.1)) rfl rfl rfl om)∘JW aT aT) λm=>(iE∘Jr∘Jp 2∘Jw .u64∘Jy (v:=vQ (if (most:Int)<((aB l).1:Int) then (most:Int) else ((aB l).1:Int))) (h:=by exact Yl.min rfl rfl rfl)∘Jo (vQ (bJ most l)) (by rw [Da])∘Jw .i64∘Jp 1∘aG∘Jj∘JZ∘JC (h:=by exact λd=>d.pt (fs':=(.blk i #[.slice (if c=((aB l).2.1) then A else A.map (·.add (((aB l).2.1)*1))) (n- ((aB l).2.1)) (c- ((aB l).2.1))] 30:: .blk k #[.bool (decide (((aB l).1:Int)≤(most:Int)))] 4::fr)) 2 [0,1])∘aZ) λd=>NU q hc (by rw [f,acz];unfold jg;rw [ace];simp only [decide_eq_true_eq];omega) e d
  exact (Jp 5∘JW fU aT) λg=>(iE∘Jr∘Jc O0∘Jp 1∘Jy (h:=by exact aaf aV (j:=((aB l).2.1)) rfl rfl rfl om)∘JW aT aT) λm=>(iE∘Jr∘Jp 2∘Jw .u64∘Jy (v:=vQ (if (most:Int)<((aB l).1:Int) then (most:Int) else ((aB l).1:Int))) (h:=by exact Yl.min rfl rfl rfl)∘Jo (vQ (bJ most l)) (by rw [Da])∘Jw .i64∘Jp 1∘aG∘Jj∘JZ∘JC (h:=by exact λd=>d.pt (fs':=(.blk i #[.slice (if c=((aB l).2.1) then A else A.map (·.add (((aB l).2.1)*1))) (n- ((aB l).2.1)) (c- ((aB l).2.1))] 30:: .blk k #[.bool false] 4::fr)) 2 [0,1])∘aZ) λd=>NU q hc (by rw [V4 om,adH]) e d
 exact (Jv 9 [(24,.bool false)]∘JW fU aT) λg=>(wI∘Jr∘Jc O0∘Jp 1∘Jy (h:=by exact aaf aV (j:=((aB l).2.1)) rfl rfl rfl om)∘JW aT aT) λm=>(wI∘Jr∘Jp 2∘Jw .u64∘Jy (v:=vQ (if (most:Int)<((aB l).1:Int) then (most:Int) else ((aB l).1:Int))) (h:=by exact Yl.min rfl rfl rfl)∘Jo (vQ (bJ most l)) (by rw [Da])∘Jw .i64∘Jp 1∘l8∘Jj∘JZ∘JC (h:=by exact λd=>d.pt (fs':=(.blk i #[.slice (if c=((aB l).2.1) then A else A.map (·.add (((aB l).2.1)*1))) (n- ((aB l).2.1)) (c- ((aB l).2.1))] 30:: .blk k #[.bool false] 4::fr)) 2 [0,1])∘aZ) λd=>NU q hc (by rw [f,afK]) e d
def y9 (k:Nat) (hk:k=2) (A:Option Addr) (n c:Nat) (l:List Nat) (B:Nat) (w:World) (J:aM B w) (E:B≤w.heap.size) (hr:Rd w w.heap.size 1 A n (l.map B8)) (hc:n≤c) (y:n=abl l) (V:n≤100000000) (F:∀b∈l,b<256):
    Calls abm 182 #[vB k,.slice A n c] w (AX w (C8 k l)):=by
 refine (iX Tryz.func182 99) ?_
 refine (JP∘AP) λW p=>(JA #[vB 0,vB 0,vI 0,vI 0,vN]) λX v=>(Jp 1∘Jr∘JA #[.bool false]) λK q=>(JW aT aT) λG=>(Jr∘Jy (h:=by exact Yl.makeFunc (fst:=[]) (caps:=[vP p 0,vP q 0]) rfl rfl rfl)∘Jp 1∘aK∘Jr∘Jp 1∘fu #[vB k,vB 0,vI 0,vI 0,vN]∘JA #[vB 0,vB 0,vI 0,vI 0,vN]) λY x=>(JV aL aT) λH=>(bH∘Jj∘JQ∘JP∘Jp 2∘aK∘Jj) (Je (λs=>?_) λs=>?_)
 ·
  obtain rfl:k=2:=by omega
  refine (JT∘JP∘Jp 1) λa Z d=>?_
  refine fo Z 1 rfl rfl ?_
  replace d:=d.pk (fs':=[.blk p #[.slice A n c] 30,.blk q #[.bool true] 4,.blk x #[vB (2:Nat),vB 0,vI 0,vI 0,vN] 85,.blk v #[vB 0,vB 0,vI 0,vI 0,vN] 85]) [3,1,0,2]
  have L:=qx3 F
  refine mU Z (f:=249) (vs:=[vI 281474976710657]) (fst:=[]) (caps:=[vP p 0,vP q 0]) rfl rfl rfl kr rfl de (q2a w _ p q A n c l true 281474976710657 [.blk x #[vB (2:Nat),vB 0,vI 0,vI 0,vN] 85,.blk v #[vB 0,vB 0,vI 0,vI 0,vN] 85] F y om hr hc om d) ?_
  rintro _ M ⟨rfl,z,C,N,O,hm⟩
  refine ⟨_,rfl,?_⟩
  replace d:=hm
  clear Z;intro a Z
  have D:=y5 281474976710657 l
  have P:=q18 l
  refine Jb Z d ((Jf 3∘JW iM qD) λI=>(ow∘Jj) λa Z d=>?_)
  refine q9 (λQ R=>Fr Q 99 [] [(5,.bool ((ug l).isSome)),(18,.bool true),(8,vP x 0),(7,.func (.func 249) #[] #[vP p 0,vP q 0]),(6,vP q 0),(4,vP v 0),(3,vP p 0),(0,vB (2:Nat))]∧Mem w R [.blk p #[abh z (q5 l) C] 30,.blk q #[.bool (true&&jg 281474976710657 l)] 4,.blk x #[vB (2:Nat),vB 0,vI 0,vI (bJ 281474976710657 l),vN] 85,.blk v #[vB (2:Nat),vB 0,vI 0,vI (bJ 281474976710657 l),vN] 85]) ?_ ?_
  ·
   refine Jb Z d ((Vs (.t (.t (.t (.f .n)))) []) λS=>(qF 0 aL O2∘Vc 1 O1∘Vp [2]) λa Z d e=>?_)
   rcases Z.tf 24 rfl with ⟨g,Z⟩|⟨g,Z⟩
   ·
    refine Vb Z d e ((Vc 3 O0∘Vl 4∘Vp [5,6,7]) λa Z d e=>?_)
    rcases Z.tf 29 rfl with ⟨j,Z⟩|⟨j,Z⟩
    ·
     have u:=eq_of_beq j
     refine Vb Z d e ((qF 8 aL O2∘VI 9 (.t (.t (.t (.f .n)))) (h:=by exact λd=>VT ⟨2,0,0,(bJ 281474976710657 l:Int),[]⟩ (y7 D) none 0 B _ (J.mem d E) (d.le E) Rd.nil (by show 0≤_;omega))) λT U=>(Vp [10]) λa Z d e=>?_)
     refine s_on Z 11 rfl (cK Z d 3 rfl rfl rfl rfl rfl aL rfl rfl (by simp [acd]) λm d=>?_)
     refine ay (d.pk [0,1,2]) (λe=>?_)
     refine Vb Z d e ((Vp [12]∘Vd∘aG) λa Z d=>?_)
     have Z:=Z.sp 5 (.bool ((ug l).isSome)) rfl (congrArg abX (by rw [NW,show jg 281474976710657 l=true by simpa using g,decide_eq_true om,acz,acz]))
     exact ⟨Z.sub kr,d.pk [0,1,2,3]⟩
    have u:=ne_of_beq_false j
    refine ap Z (λ_=>e) [8,9,10] (bt 13 [11,12]) [(32,.bool false)] λa Z=>?_
    refine s_on Z 11 rfl (cK Z d 3 rfl rfl rfl rfl rfl aL rfl rfl (by simp [acd]) λm d=>?_)
    refine ay (d.pk [0,1,2]) (λe=>?_)
    refine ap Z (λ_=>e) [12] (bt 13 []) [(5,.bool false)] λa Z=>?_
    refine qd kr ?_
    have Z:=Z.sp 5 (.bool ((ug l).isSome)) rfl (congrArg abX (by rw [NW,decide_eq_false om,afK,adH]))
    exact ⟨Z.sub kr,d.pk [0,1,2,3]⟩
   refine ap Z (λ_=>e) [3,4,5,6,7,8,9,10] (bt 13 [11,12]) [(32,.bool false)] λa Z=>?_
   refine s_on Z 11 rfl (cK Z d 3 rfl rfl rfl rfl rfl aL rfl rfl (by simp [acd]) λm d=>?_)
   refine ay (d.pk [0,1,2]) (λe=>?_)
   refine ap Z (λ_=>e) [12] (bt 13 []) [(5,.bool false)] λa Z=>?_
   refine qd kr ?_
   have Z:=Z.sp 5 (.bool ((ug l).isSome)) rfl (congrArg abX (by rw [NW,show jg 281474976710657 l=false by simpa using g];rfl))
   exact ⟨Z.sub kr,d.pk [0,1,2,3]⟩
  clear Z d;rintro a K ⟨Z,d⟩
  refine Jb Z d ((JZ) (Ju (λr=>?_) λr=>?_))
  ·
   have o:=r
   intro a Z d
   exact eZ rfl Z (.cellS (i:=3) Z d rfl rfl aL rfl) (.tmp Z rfl) (qp9 (b:=⟨2,0,0,(bJ 281474976710657 l:Int),[]⟩) (A:=none) (c:=0) (by rw [NV];exact V6 o) (acK _ _ _ _) (abq _) d.below)
  have o:=r
  intro a Z d
  exact eZ rfl Z (.cellS (i:=3) Z d rfl rfl aL rfl) (.tmp Z rfl) (qp8 (by rw [NV];exact Option.not_isSome_iff_eq_none.1 (by rw [o];decide)) rfl (by simp [acd]) d.below)
 intro a Z d
 exfalso;omega
end Go.Proofs.YtekiimhdnigmcaaGreatDoor
