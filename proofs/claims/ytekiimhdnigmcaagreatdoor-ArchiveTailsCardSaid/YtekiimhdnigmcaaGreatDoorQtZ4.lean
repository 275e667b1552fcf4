/- Parts. -/
import Derived.Test.YtekiimhdnigmcaaGreatDoorQtZ3
set_option linter.all false
set_option maxRecDepth 100000
set_option maxHeartbeats 1000000
namespace Go.Proofs.YtekiimhdnigmcaaGreatDoor
open Go.RowKit
open List renaming length→abn
open _root_.Go.Proofs.Tryz renaming prog→abo,func202→ahb
open _root_.List renaming length_append→abp,getElem?_eq_getElem→abq,getD_eq_getElem?_getD→abt,append_assoc→abu,length_take→abv,length_map→abx,getElem?_eq_some_iff→abB,length_drop→abC,mem_of_getElem?→abH,take_of_length_le→abI,length_set→abJ,flatMap_cons→abK,mem_of_mem_drop→abL,append_nil→abP,mem_cons→abS,length_cons→abT,map_append→abU,flatMap_append→abX,mem_or_eq_of_mem_set→abZ,mem_map→ab0,take_append_drop→ab1,mem_append→ab6,drop_of_length_le→ab9,mem_cons_of_mem→acd,mem_of_mem_take→acf,not_mem_nil→aci,getElem_of_mem→aco,mem_flatMap→acw,mem_cons_self→acB,drop_drop→acQ,mem_append_right→acW,perm_append_comm→acY,getElem?_map→ac0,getElem_mem→ac5,perm_middle→ac6,getElem?_set_self→ac9,mem_map_of_mem→adq,take_left→adJ,getElem?_eq_none→adL,getElem?_append_left→adO,length_nil→aec,pairwise_cons→aek,takeWhile_sublist→aes,getElem?_set_ne→aeF,set_append→aeJ,getElem_mapIdx→aeK,takeWhile_cons→aeL,length_mapIdx→aeV,set_set→ae1,map_set→ae2,takeWhile_append_dropWhile→ae6,perm_append_comm_assoc→afo,ext_getElem→afz,eraseIdx_sublist→afV,length_pos_iff→af8,getElem_map→agy
open Nat renaming le_refl→abr,zero_le→abA,lt_or_ge→ab5,eq_zero_or_pos→acr,le_trans→ada,mod_lt→adW,strongRecOn→aeT,max_def→af9
open Int renaming toNat_natCast→abE,le_refl→afM
open Bool renaming and_eq_true→abG,eq_iff_iff→abY,true_and→ab8,not_eq_true'→acF,false_and→ads,and_false→adt,or_eq_true→adM,not_eq_false'→ad7
open Value renaming bool→abM,int→abO,oneCell'→abR,agg→ae5
open Builtin renaming zeroCells→abW
open World renaming ownsRow_nil→acA
open Addr renaming add_mid→acC
open Option renaming not_isSome_iff_eq_none→adl
open Classical renaming not_not→adp
open Rw renaming l→aeR
open Fact renaming row→afT
variable {w W:World} {a s:dL} {b:Bk} {c d e er m g n cpu lost k i sZ f:Nat} {l R:List Nat} {A E:Option Addr} {q:List Ev×Nat×Nat} {x:aF} {r:Ending} {T F:List Fact} {t:Tk} {z:Sp} {rs:List Rw} {yl:List Sp}
def q4l (g:Nat) (b:Bk) (o:b.Ok) (A:Option Addr) (c B:Nat) (w:World) (r:aT B w) (p:B<=w.heap.size) (hr:Rd w w.heap.size 11 A (abn b.evs) (b.evs.flatMap eD)) (u:abn b.evs<=1000000) (hb:w.heap[g]?=some (.cells (b.cells A c) 85 (0,0))):
    Calls abo 225 #[vP g 0] w (Is w (.bool b.oZ)):=by
 refine (eF Tryz.func225 47) ?_
 refine (cO 1∘JQ∘JP∘Jf 4∘Jy (v:= .slice A (abn b.evs) c) (h:=by exact Pd rfl rfl kr (λ_ h=>h.mG hb rfl))∘JI (h:=by exact λd=>zlf A (abn b.evs) c b.evs o.evs B _ (r.mem d p).laid (d.le p) (d.old hr) om (i:=(iU b.evs).1) (er:=(iU b.evs).2) rfl)) λx s=>(Jp 1∘Jx∘Jx∘Jp 2∘aH∘bA 3) (Jh (λe=>?_) λe=>?_)
 ·
  exact (Jv 19 [(31,.bool true)]∘kW∘Jj∘JT∘bF 1∘bC) λd=>by exact ⟨by rw [show b.oZ=false from decide_eq_false om],d.below⟩
 refine (Jf 1∘Jy (v:=vB b.cpu) (h:=by exact Pd rfl rfl kr (λ_ h=>h.mG hb rfl))∘Jp 3) (Ji (λf=>?_) λf=>?_)
 ·
  exact (Jv 14 [(31,.bool true)]∘aH∘Jj∘JT∘bF 1∘bC) λd=>by exact ⟨by rw [show b.oZ=false from decide_eq_false om],d.below⟩
 refine (Jf 2∘Jy (v:=vI b.lost) (h:=by exact Pd rfl rfl kr (λ_ h=>h.mG hb rfl))∘Jp 3) (Ji (λj=>?_) λj=>?_)
 ·
  exact (Jv 9 [(31,.bool true)]∘aH∘Jj∘JT∘bF 1∘bC) λd=>by exact ⟨by rw [show b.oZ=false from decide_eq_false om],d.below⟩
 refine (Jf 2∘Jy (v:=vI b.lost) (h:=by exact Pd rfl rfl kr (λ_ h=>h.mG hb rfl))∘Jp 3) (Ji (λk=>?_) λk=>?_)
 ·
  exact (Jp 4∘aH∘Jj∘JT∘bF 1∘bC) λd=>by exact ⟨by rw [show b.oZ=false from decide_eq_false om],d.below⟩
 refine (Jf 3∘Jy (v:=vI b.next) (h:=by exact Pd rfl rfl kr (λ_ h=>h.mG hb rfl))∘Jp 2∘aH∘Jj) (Jh (λl=>?_) λl=>?_)
 ·
  exact (JT∘bF 1∘bC) λd=>by exact ⟨by rw [show b.oZ=false from decide_eq_false om],d.below⟩
 refine (aU∘JQ∘JP∘Jf 4∘Jy (v:= .slice A (abn b.evs) c) (h:=by exact Pd rfl rfl kr (λ_ h=>h.mG hb rfl))∘Jl∘Jp 1∘dY∘Jj) (Je (λm=>?_) λm=>?_)
 ·
  exact (JT∘JP∘Jf 2∘Jy (v:=vI b.lost) (h:=by exact Pd rfl rfl kr (λ_ h=>h.mG hb rfl))∘Jp 2∘dY∘aP∘bC) λd=>by exact ⟨by rw [abY.2 (show (decide ((b.lost:Int)>(0:Int)))=true↔b.oZ=true by unfold Bk.oZ;rw [X0 om];simp only [decide_eq_true_eq,beq_iff_eq];omega)],d.below⟩
 refine (aU) λa Z d=>?_
 refine wp_seq ?_
 refine Jb Z d ((Vs .n []) λt=>(Vf 0 4∘Vf 5 1∘Vy 1 (v:= .slice A (abn b.evs) c) (h:=by exact Pd rfl rfl kr (λ_ h=>h.mG hb rfl))) ?_)
 obtain ⟨gA,q,rfl,_⟩:=hr.sat 0
 exact (Vy 2 (v:=vP gA q) (h:=by exact Yl.indexAddr (ad:=⟨gA,q,none⟩) (y:=0) (sz:=11) rfl rfl rfl om kr)∘Vf 3 2∘Fx 4 qU hr 2 0 Ev.zero (hk:=by first|omega|(simp;omega))∘Vy 6 (v:=vB b.cpu) (h:=by exact Pd rfl rfl kr (λ_ h=>h.mG hb rfl))∘Vp [7,8]∘Vd∘aH∘JZ∘bC) λd=>by exact ⟨by rw [abY.2 (show (((b.evs.getD 0 Ev.zero).cpu:Int)==(b.cpu:Int))=true↔b.oZ=true by unfold Bk.oZ;rw [XZ om];simp only [decide_eq_true_eq,beq_iff_eq];omega)],d.below⟩
def q4m (g:Nat) (b:Bk) (A:Option Addr) (c:Nat) (w:World) (hb:w.heap[g]?=some (.cells (b.cells A c) 85 (0,0))):
    Calls abo 226 #[vP g 0] w (Is w (.bool b.uo)):=by
 refine (eF Tryz.func226 26) ?_
 refine (aJ 1∘Jr∘Jf 3∘Jy (v:=vI b.next) (h:=by exact Pd rfl rfl kr (λ_ h=>h.mG hb rfl))∘Jp 2) (Ji (λi=>?_) λi=>?_)
 ·
  refine (Jf 3∘Jy (v:=vI b.next) (h:=by exact Pd rfl rfl kr (λ_ h=>h.mG hb rfl))∘Jp 3) (Ji (λd=>?_) λd=>?_)
  ·
   refine (Jf 1∘Jy (v:=vB b.cpu) (h:=by exact Pd rfl rfl kr (λ_ h=>h.mG hb rfl))∘Jp 3) (Je (λe=>?_) λe=>?_)
   ·
    refine (Jf 2∘Jy (v:=vI b.lost) (h:=by exact Pd rfl rfl kr (λ_ h=>h.mG hb rfl))∘Jp 3) (Je (λf=>?_) λf=>?_)
    ·
     exact (Jf 4∘Jy (v:= .slice A (abn b.evs) c) (h:=by exact Pd rfl rfl kr (λ_ h=>h.mG hb rfl))∘Jl∘Jp 3∘aH∘aP∘bC) λa=>by exact ⟨by rw [abY.2 (show ((abn b.evs:Int)==(0:Int))=true↔b.uo=true by unfold Bk.uo;simp only [decide_eq_true_eq,beq_iff_eq];omega)],a.below⟩
    exact (Jp 6∘aH∘aP∘bC) λa=>by exact ⟨by rw [show b.uo=false from decide_eq_false om],a.below⟩
   exact (Jv 11 [(1,.bool false)]∘aH∘aP∘bC) λa=>by exact ⟨by rw [show b.uo=false from decide_eq_false om],a.below⟩
  exact (Jv 16 [(1,.bool false)]∘aH∘aP∘bC) λa=>by exact ⟨by rw [show b.uo=false from decide_eq_false om],a.below⟩
 exact (Jv 21 [(1,.bool false)]∘gq∘aP∘bC) λa=>by exact ⟨by rw [show b.uo=false from decide_eq_false om],a.below⟩
def F3 (b:Bk) (l:b.Ok) (A:Option Addr) (c B:Nat) (w:World) (s:aT B w) (p:B<=w.heap.size) (hr:Rd w w.heap.size 11 A (abn b.evs) (b.evs.flatMap eD)) (t:abn b.evs<=1000000):
    Calls abo 164 #[.agg (b.cells A c)] w (Is w (.bool b.fits)):=by
 refine (eF Tryz.func164 19) ?_
 refine (JP∘JE) λu e=>(Jp 1∘Jr) λa Z d=>?_
 refine fo Z 0 rfl rfl ?_
 refine q3d Z d rfl rfl de ?_
 clear Z d;intro a x y Z d
 refine Jb Z d ((Jy (h:=by exact Yl.makeFunc (fst:=[]) (caps:=[vP e 0]) rfl rfl rfl)) λa Z d=>?_)
 refine fo Z 2 rfl rfl ?_
 refine Wq Z d (i:=0) (kt:=5) (et:=23) (kd:= .int .u8) (Or.inr rfl) rfl kr kr rfl rfl rfl rfl (by first|trivial|rfl) (rfl) λq d=>?_
 refine Jb Z d ((Jy (h:=by exact Yl.makeFunc (fst:=[]) (caps:=[vP e 0]) rfl rfl rfl)) λa Z d=>?_)
 refine fo Z 4 rfl rfl ?_
 refine Wq Z d (i:=0) (kt:=5) (et:=23) (kd:= .int .u8) (Or.inr rfl) rfl kr kr rfl rfl rfl rfl (by first|trivial|rfl) (rfl) λr d=>?_
 refine Jb Z d ((Jp 2∘gq∘Jq) λa Z d=>?_)
 rcases zln b.kind with g|g|⟨g,m⟩
 ·
  refine Jb Z d ((JG∘aJ 1∘Jg 0 O1∘Jy (v:= .func (.func 225) #[] #[vP e 0]) (h:=by exact aaQ (kt:=5) (et:=23) (kd:= .int .u8) (j:=0) (es:=(#[].push {key:=vB 1,val:= .func (.func 225) #[] #[vP e 0],born:=0}).push {key:=vB 2,val:= .func (.func 226) #[] #[vP e 0],born:=0+1}) (clock:=0+1+1) rfl kr kr rfl rfl (λ_ h=>h.jo (i:=0) rfl) (by first|trivial|rfl) (by rw [g];rfl))∘Jp 1∘gq∘bA 1∘Jy (v:= .bool true) (h:=by exact aaL rfl rfl rfl kr)∘Jp 2) λa Z d=>?_)
  refine fo Z 4 rfl rfl ?_
  refine zg Z (f:=225) (vs:=[]) (fst:=[]) (caps:=[vP e 0]) rfl rfl rfl kr rfl de (q4l _ b l A c B _ (s.mem d p) (d.le p) (d.old hr) t (d.blk (i:=1) rfl)) ?_
  rintro _ o ⟨rfl,k⟩
  refine ⟨_,rfl,?_⟩
  replace d:=d.call k
  clear Z;intro a Z
  exact Jb Z d ((Jp 2∘aH∘aP∘JM (.f .n)∘bC) λd=>by exact ⟨by unfold Bk.fits;rw [if_pos g],d.below⟩)
 ·
  refine Jb Z d ((JG∘aJ 1∘Jg 0 O1∘Jy (v:= .func (.func 226) #[] #[vP e 0]) (h:=by exact aaQ (kt:=5) (et:=23) (kd:= .int .u8) (j:=1) (es:=(#[].push {key:=vB 1,val:= .func (.func 225) #[] #[vP e 0],born:=0}).push {key:=vB 2,val:= .func (.func 226) #[] #[vP e 0],born:=0+1}) (clock:=0+1+1) rfl kr kr rfl rfl (λ_ h=>h.jo (i:=0) rfl) (by first|trivial|rfl) (by rw [g];rfl))∘Jp 1∘gq∘bA 1∘Jy (v:= .bool true) (h:=by exact aaL rfl rfl rfl kr)∘Jp 2) λa Z d=>?_)
  refine fo Z 4 rfl rfl ?_
  refine zg Z (f:=226) (vs:=[]) (fst:=[]) (caps:=[vP e 0]) rfl rfl rfl kr rfl de (q4m _ b A c _ (d.blk (i:=1) rfl)) ?_
  rintro _ o ⟨rfl,k⟩
  refine ⟨_,rfl,?_⟩
  replace d:=d.call k
  clear Z;intro a Z
  exact Jb Z d ((Jp 2∘aH∘aP∘JM (.f .n)∘bC) λd=>by exact ⟨by unfold Bk.fits;rw [if_neg om,if_pos g],d.below⟩)
 ·
  exact Jb Z d ((JG∘aJ 1∘Jg 0 O1∘Jy (v:= .nilFunc) (h:=by exact aa1 (kt:=5) (et:=23) (kd:= .int .u8) (es:=(#[].push {key:=vB 1,val:= .func (.func 225) #[] #[vP e 0],born:=0}).push {key:=vB 2,val:= .func (.func 226) #[] #[vP e 0],born:=0+1}) (clock:=0+1+1) rfl kr kr rfl rfl (λ_ h=>h.jo (i:=0) rfl) (by first|trivial|rfl) (by have e1:((b.kind:Int)==1)=false:=(by rw [beq_eq_false_iff_ne];omega);have e2:((b.kind:Int)==2)=false:=(by rw [beq_eq_false_iff_ne];omega);simp [Instr.findNow,Instr.sameNow,e1,e2]) kr)∘Jp 1∘gq∘bA 1∘Jy (v:= .bool false) (h:=by exact aaT rfl rfl rfl kr)∘Jp 5∘aH∘aP∘JM (.f .n)∘bC) λd=>by exact ⟨by unfold Bk.fits;rw [if_neg g,if_neg m],d.below⟩)
def za6 (b:Bk) (A:Option Addr) (c:Nat) (w:World) (hr:Rd w w.heap.size 11 A (abn b.evs) (b.evs.flatMap eD)) (k:abn b.evs≠0):
    Calls abo 172 #[.agg (b.cells A c)] w (Is w (.agg b.base.cells)):=by
 refine (eF Tryz.func172 14) ?_
 refine (JP∘JE) λl m=>(JA #[vI 0,vI 0]) λo p=>(Jj) λa Z d=>?_
 refine wp_seq ?_
 refine Jb Z d ((Vs .n [11]) λj=>(Vf 0 4∘Vf 5 4∘Vc 1 O1) ?_)
 obtain ⟨gA,e,rfl,_⟩:=hr.sat 0
 refine (Vy 2 (v:=vP gA e) (h:=by exact Yl.indexAddr (ad:=⟨gA,e,none⟩) (y:=0) (sz:=11) rfl rfl rfl om kr)∘Vf 3 0∘Xb 4 qU hr 0 Ev.zero (hk:=by first|omega|(simp;omega))∘Vc 6 O1∘Vy 7 (v:=vP gA e) (h:=by exact Yl.indexAddr (ad:=⟨gA,e,none⟩) (y:=0) (sz:=11) rfl rfl rfl om kr)∘Vf 8 1∘Fx 9 qU hr 1 0 Ev.zero (hk:=by first|omega|(simp;omega))∘Vy 10 (v:= .agg #[vI ((b.evs.getD 0 Ev.zero).seq),vI ((b.evs.getD 0 Ev.zero).time)]) (h:=by exact Yl.build (vs:=(ahK 0 ((b.evs.getD 0 Ev.zero).seq) 1 ((b.evs.getD 0 Ev.zero).time) [])) rfl kr kr)) λa Z d q=>?_
 refine s_on Z 11 rfl (bT Z d 0 rfl rfl rfl rfl rfl ⟨kr,kr⟩ rfl rfl (by simp [abR]) λg d=>?_)
 refine dN kr ?_
 refine qe kr ?_
 refine Jb Z d ((JM (.t (.f .n))∘JZ) λa Z d=>?_)
 exact iM rfl Z (.cellS (i:=0) Z d rfl rfl ⟨kr,kr⟩ rfl) (⟨by rw [q4h];rfl,d.below⟩)
def Pz (x:Nat) (c:x<18446744073709551616) (w:World):
    Calls abo 227 #[vQ x] w (rO w (ak x)):=by
 refine (eF Tryz.func227 5) ?_
 exact (aJ 1∘bA 1∘JK (h:=by exact λa=>qzu c)) λd e f b=>(Jp 1∘bQ∘aP∘bC) λa=>by exact ⟨⟨_,_,rfl,a.own (i:=0) rfl,b⟩,a.below⟩
def PD {a b c d:Part} (f:Rd w w.heap.size 1 a.A (abn a.l) (a.l.map B8)) (hb:Rd w w.heap.size 1 b.A (abn b.l) (b.l.map B8)) (hc:Rd w w.heap.size 1 c.A (abn c.l) (c.l.map B8)) (g:Rd w w.heap.size 1 d.A (abn d.l) (d.l.map B8)):∀p∈[a,b,c,d],Rd w w.heap.size 1 p.A (abn p.l) (p.l.map B8):=by
 intro p e
 simp only [abS,aci,or_false] at e
 rcases e with rfl|rfl|rfl|rfl
 ·exact f
 ·exact hb
 ·exact hc
 ·exact g
def za7 (b:Bk) (g:b.Ok) (A:Option Addr) (c B:Nat) (w:World) (N:aT B w) (F:B<=w.heap.size) (hr:Rd w w.heap.size 11 A (abn b.evs) (b.evs.flatMap eD)) (hn:abn b.evs<=1000000) (C:b.fits=true):
    Calls abo 165 #[.agg (b.cells A c)] w (rO w b.body):=by
 have G:=g.cpu
 refine (eF Tryz.func165 52) ?_
 refine (JP∘JE) λw1 g1=>(bM 1∘JQ∘JP∘Jg 0 O0∘Jp 1∘aK∘Jj) (Je (λD=>?_) λD=>?_)
 ·
  have s:b.kind=2:=by omega
  obtain ⟨n1,n2,n3,n4,n5⟩:=X3 C s
  exact (JT∘JP∘Jg 3 O0∘Jv 1 [(12,vQ (IntKind.u64.wrap b.next))]∘Jo (vQ b.next.toNat) (by exact xB om om)∘JK (h:=by exact λe=>Pz b.next.toNat om _)) λO P Q u=>(Jp 1∘dY∘aP∘bC) λe=>by exact rO.as ⟨⟨_,_,rfl,e.own (i:=0) rfl,u⟩,e.below⟩ (by unfold Bk.body;rw [if_pos s])
 have s:b.kind≠2:=by omega
 obtain ⟨m0,m1,m2,m3,m4⟩:=q4i C s
 refine (aU∘JP∘Jg 1 O0∘Jw .u64∘Jg 2 O0∘Jv 1 [(19,vQ (IntKind.u64.wrap b.lost))]∘Jo (vQ b.lost.toNat) (by exact xB om om)∘Jg 4 O0∘Jl∘Jw .u64∘JU kD #[vQ b.cpu,vQ b.lost.toNat,vQ (abn b.evs)]) λR S=>(JK (h:=by exact λe=>Lv _ 3 _ [b.cpu,b.lost.toNat,abn b.evs] _ (e.bB (i:=0) (n:=3) (size:=1) rfl rfl) (by intro x T;simp only [abS,aci,or_false] at T;omega) om)) λj k U v=>(Jp 1∘aH∘Jj∘JQ∘JP∘Jg 4 O2∘Jl∘Jp 1∘bQ∘Jj) (Je (λy=>?_) λy=>?_)
 ·
  exact (JT∘aJ 2∘aK∘aP∘JM (.t (.f .n))∘bC) λe=>by exact rO.as ⟨⟨_,_,rfl,e.own (i:=0) rfl,v⟩,e.below⟩ (by unfold Bk.body;rw [if_neg s,if_pos om];simp)
 have H:=qz3 g (LQ C s).2 om
 obtain ⟨q1,q2,q3,q4⟩:=za3 g C s om
 refine (aU∘JP∘dZ aG O2∘JI (h:=by exact λe=>za6 b A c _ (e.old hr) om)) λV W=>(JA #[vI 0,vI 0]) λw4 g4=>(JV ⟨kr,kr⟩ aO (h1:=by exact K7 b.base)) λI=>(bQ∘Jr∘dZ ⟨kr,kr⟩ O0∘Jg 4 O3∘JK (h:=by exact λe=>zao b.base A (abn b.evs) c b.evs g.evs B _ (N.mem e F).laid (e.le F) (e.old hr) om H.1 H.2)) λl m X J=>(Jp 1∘Jx∘Jx∘Jp 2∘ny∘Jj) λa Z e=>?_
 refine wp_seq ?_
 refine Jb Z e ((Vs .n []) λY=>(Vp [0]∘Vf 1 0∘Vf 5 1∘Vp [9]∘Vc 2 O1∘Vq [3] [(43,vQ (IntKind.u64.wrap b.base.seq))]∘Vo (vQ b.base.seq.toNat) (by exact xB om om)∘Vc 6 O1∘Vq [7] [(47,vQ (IntKind.u64.wrap b.base.time))]∘Vo (vQ b.base.time.toNat) (by exact xB om om)∘VK 4 .n (h:=by exact λe=>Pz b.base.seq.toNat om _)) λo p PE K=>(VK 8 (.f .n) (h:=by exact λe=>Pz b.base.time.toNat om _)) λq r BU L=>λa Z e M=>?_)
 refine s_on Z 10 rfl (jl Z e FX [(0,abk j ([b.cpu,b.lost.toNat,abn b.evs].flatMap ak) k),(1,abk o (ak b.base.seq.toNat) p),(2,abk q (ak b.base.time.toNat) r),(3,abk l (recs b.base b.evs) m)] #[abk j ([b.cpu,b.lost.toNat,abn b.evs].flatMap ak) k,abk o (ak b.base.seq.toNat) p,abk q (ak b.base.time.toNat) r,abk l (recs b.base b.evs) m] ?_)
 clear Z e;intro a FJ g50 Z e
 refine ay (e.pk [3,4,5,6,7]) (λM=>?_)
 have E:=PD (a:=⟨j,k,[b.cpu,b.lost.toNat,abn b.evs].flatMap ak⟩) (b:=⟨o,p,ak b.base.seq.toNat⟩) (c:=⟨q,r,ak b.base.time.toNat⟩) (d:=⟨l,m,recs b.base b.evs⟩) (e.rd (i:=5) rfl) (e.rd (i:=2) rfl) (e.rd (i:=1) rfl) (e.rd (i:=3) rfl)
 exact Vb Z e M ((VK 11 (.f (.f (.f .n))) (h:=by exact λe=>(qz5 _ 4 _ [⟨j,k,[b.cpu,b.lost.toNat,abn b.evs].flatMap ak⟩,⟨o,p,ak b.base.seq.toNat⟩,⟨q,r,ak b.base.time.toNat⟩,⟨l,m,recs b.base b.evs⟩] _ (e.bB (i:=0) (n:=4) (size:=1) rfl rfl) rfl om E (by have h1:=zq [b.cpu,b.lost.toNat,abn b.evs];have h2:=Bj b.base.seq.toNat;have h3:=Bj b.base.time.toNat;have h4:=XV b.evs b.base;simp only [abK,List.flatMap_nil,abp,abP,abT,aec] at h1⊢;omega)).mono (λ_ _ h=>h.as (R':=ak b.cpu++ak b.lost.toNat++ak (abn b.evs)++(ak b.base.seq.toNat++ak b.base.time.toNat++recs b.base b.evs)) (by simp)))) λA51 c51 LJ z=>(Vp [12]∘Vd∘aH∘JM (.t (.f (.f (.f (.f (.t (.t (.f .n))))))))∘JZ∘bC) λe=>by exact rO.as ⟨⟨_,_,rfl,e.own (i:=0) rfl,z⟩,e.below⟩ (by unfold Bk.body;rw [if_neg s,if_neg om]))
instance X8:DecidableEq Bk:=λ⟨a,b,c,d,e⟩ ⟨f,g,h,i,j⟩=>
 decidable_of_iff (a=f/\b=g/\c=h/\d=i/\e=j) (by simp)
def q4n (h:8+abn b.body+4<=4096):(#[abO .u8 (((8+abn b.body+4)%256:Nat):Int),.int .u8 (((8+abn b.body+4)/256%256:Nat):Int),.int .u8 0,.int .u8 0,.int .u8 113,.int .u8 116,.int .u8 1,.int .u8 (b.kind:Int)]:Array Value).toList++b.body.map B8=b.raw.map B8:=by
 have a:8+abn b.body+4=12+abn b.body:=by omega
 have e1:(12+abn b.body)/65536%256=0:=by omega
 have e2:(12+abn b.body)/16777216%256=0:=by omega
 unfold Bk.raw qX
 rw [a,e1,e2]
 simp [B8]
def qud {b:Bs} {e:Ev} (h:e.kind<256):∀x∈zh b e,x<256:=by
 intro x a
 unfold zh at a
 rcases abS.1 a with rfl|a
 ·exact h
 ·obtain ⟨y,_,c⟩:=acw.1 a
  exact yt y x c
def X9:∀(l:List Ev) (b:Bs),(∀e∈l,e.Ok)->∀x∈recs b l,x<256
 |[],_,_,x,c=>by simp [recs] at c
 |e::r,b,a,x,c=>by
  rw [recs] at c
  rcases ab6.1 c with h|h
  ·exact qud (a e (by simp)).kind x h
  ·exact X9 r e.at (λy d=>a y (by simp [d])) x h
def zhg (c:b.Ok):∀x∈b.body,x<256:=by
 intro x a
 unfold Bk.body at a
 split at a
 ·exact yt _ x a
 ·rcases ab6.1 a with h|h
  ·rcases ab6.1 h with h|h
   ·rcases ab6.1 h with h|h
    ·exact yt _ x h
    ·exact yt _ x h
   ·exact yt _ x h
  ·split at h
   ·cases h
   ·rcases ab6.1 h with h|h
    ·rcases ab6.1 h with h|h
     ·exact yt _ x h
     ·exact yt _ x h
    ·exact X9 _ _ c.evs x h
def Ya (a:b.Ok):∀x∈b.raw,x<256:=by
 intro x c
 unfold Bk.raw at c
 rcases ab6.1 c with h|h
 ·rcases ab6.1 h with h|h
  ·exact WL _ x h
  ·simp only [abS,aci,or_false] at h
   have:=a.kind
   omega
 ·exact zhg a x h
theorem LV (b:Bk):abn b.raw=8+abn b.body:=by unfold Bk.raw qX;simp;omega
theorem PG (b:Bk):abn b.body<=50+61*abn b.evs:=by grind [Bk.body,XV,Bj]
def Yb (h:b.err=er) (c:er≠0) (hb:Below w.heap.size w W):zr w b.err b.out (.returned (.tuple #[.slice none 0 0,.int .i64 (er:Int)])) W:=by
 have a:b.out=[]:=by unfold Bk.out;rw [if_neg om]
 rw [h,a]
 exact ⟨⟨none,0,rfl,acA _ _ _ _,abr _⟩,hb⟩
theorem F4 (h:b.err=0):b.out=bI b.raw:=by unfold Bk.out;rw [if_pos h]
theorem PI (b:Bk):abn b.out<=4096:=by grind [Bk.err,Bk.out,LV,uQ]
def zlo (a:b.Ok):∀x∈b.out,x<256:=by
 unfold Bk.out
 split
 ·exact OG (Ya a)
 ·intro x c;cases c
def qJ (most:Nat) (l:List Nat):aA most l<=most:=by unfold aA;split<;>omega
def DX (most:Nat) (l:List Nat):(if ((most:Nat):Int)<(((aD l).1:Nat):Int) then ((most:Nat):Int) else (((aD l).1:Nat):Int))=((aA most l:Nat):Int):=by unfold aA;split<;>split<;>omega
def LW (l:List Nat):abn (qd l)=abn l- (aD l).2.1:=by unfold qd;rw [abC]
def DY (l:List Nat):abn (qd l)<=abn l:=by rw [LW];omega
theorem Yc {most:Nat} (h:(aD l).2.2≠0):aZ most l=false:=by unfold aZ;rw [decide_eq_false];omega
def Yd (W:World) (d e:Nat) (l:List Nat) (a:Bool) (most:Nat) (fr:List Fact) (r:Ending) (f:World):Prop:=
 r= .returned (.int .i64 ((aA most l:Nat):Int))/\∃b c,Rd W W.heap.size 1 b (abn (qd l)) ((qd l).map B8)/\abn (qd l)<=c/\
  Mem W f (ahF d b (abn (qd l)) c::aii e (a&&aZ most l)::fr)
def PK {most:Nat} {a b:Bool} {fr:List Fact} (hr:Rd W W.heap.size 1 A (abn l) (l.map B8)) (hc:abn l<=c) (d:(a&&aZ most l)=b) (e:n=abn l)
  (f:Mem W w (.blk m #[.slice (if c=(aD l).2.1 then A else A.map (·.add ((aD l).2.1*1))) (n- (aD l).2.1) (c- (aD l).2.1)] 30:: .blk g #[.bool b] 4::fr)):
  Yd W m g l a most fr (.returned (.int .i64 ((aA most l:Nat):Int))) w:=by
 subst d;subst e
 refine ⟨rfl,(if c=(aD l).2.1 then A else A.map (·.add ((aD l).2.1*1))),c- (aD l).2.1,?_,?_,?_⟩
 ·rw [LW]
  exact hr.E9 (xg l) hc
 ·rw [LW];omega
 ·rw [LW];exact f
def BX (w:World) (q:Option Bk) (r:Ending) (d:World):Prop:=
 (∃ a : Array Value, r = .returned (.tuple #[.agg a, .bool q.isSome]) /\ a.size = 5 /\ (∀ v ∈ a.toList, v.oneCell' = true) /\
  (∀b,q=some b->∃A c,a=b.cells A c/\d.ownsRow w.heap.size 73 11 (.slice A (abn b.evs) c) (abn b.evs) (b.evs.flatMap eD)/\abn b.evs<=c))/\Below w.heap.size w d
def F5 {q:Option Bk} {C:Array Value} (h:q=none) (hs:C.size=5) (h1:∀v∈C.toList,v.oneCell'=true) (hb:Below w.heap.size w W):BX w q (.returned (.tuple #[.agg C,.bool false])) W:=by
 subst h
 exact ⟨⟨C,rfl,hs,h1,λb h=>by cases h⟩,hb⟩
def LX {q:Option Bk} (h:q=some b) (a:W.ownsRow w.heap.size 73 11 (.slice A (abn b.evs) c) (abn b.evs) (b.evs.flatMap eD)) (hc:abn b.evs<=c) (hb:Below w.heap.size w W):BX w q (.returned (.tuple #[.agg (b.cells A c),.bool true])) W:=by
 subst h
 exact ⟨⟨_,rfl,rfl,tC _ _ _,λd h=>by injection h with h;subst h;exact ⟨A,c,rfl,a,hc⟩⟩,hb⟩
def tk3 {l:List Nat}:(((true&&aZ 63 l)&&aZ 281474976710656 (qd l))&&aZ 4096 (qd (qd l)))=uq l:=by unfold uq;simp
def Ye (l:List Nat):uw 2 l=tq l:=by unfold uw;rw [if_pos rfl]
def BZ (l:List Nat):uw 1 l=zb l:=by unfold uw;rw [if_neg om]
def F6 {x:Nat} (h:x<=281474976710657):Bk.Ok ⟨2,0,0,(x:Int),[]⟩:=⟨by show 2<256;decide,by show 0<256;decide,by unfold aW;simp,LU h,by simp⟩
def vg {es:List Ev} (h:cpu<256) (b:lost<=281474976710656) (a:∀e∈es,e.Ok):Bk.Ok ⟨1,cpu,(lost:Int),0,es⟩:=⟨by show 1<256;decide,h,LU (by show lost<=_;omega),by unfold aW;simp,a⟩
def Yf (a:uq l=true) (b:0<aA 4096 (qd (qd l)))
  (c:gL ⟨(aA 281474976710656 (qd (qd (qd l))):Int),(aA 281474976710656 (qd (qd (qd (qd l)))):Int)⟩ (aA 63 l) (aA 4096 (qd (qd l)):Int) (qd (qd (qd (qd (qd l)))))=q):
  zb l=tu (aA 63 l) (aA 281474976710656 (qd l)) (qd (qd (qd l))) q:=by
 unfold zb
 rw [if_pos ⟨a,b⟩,c]
theorem Yg (h:¬(q.2.2=0/\(q.1.getD 0 Ev.zero).seq=(aA 281474976710656 l:Int)/\(q.1.getD 0 Ev.zero).time=(aA 281474976710656 (qd l):Int)/\aZ 281474976710656 l=true/\aZ 281474976710656 (qd l)=true/\abn (qd (qd l))-q.2.1=0/\Bk.fits ⟨1,cpu,lost,0,q.1⟩=true)):tu cpu lost l q=none:=by
 unfold tu
 rw [if_neg]
 intro a
 obtain ⟨c,d,f,g,i,b,j⟩:=a
 rw [abC] at b
 have e:q.1.headD Ev.zero=q.1.getD 0 Ev.zero:=by cases q.1<;>rfl
 grind
theorem qml (h:q.2.2=0/\(q.1.getD 0 Ev.zero).seq=(aA 281474976710656 l:Int)/\(q.1.getD 0 Ev.zero).time=(aA 281474976710656 (qd l):Int)/\aZ 281474976710656 l=true/\aZ 281474976710656 (qd l)=true/\abn (qd (qd l))-q.2.1=0/\Bk.fits ⟨1,cpu,lost,0,q.1⟩=true):tu cpu lost l q=some ⟨1,cpu,lost,0,q.1⟩:=by
 unfold tu
 rw [if_pos]
 obtain ⟨a,b,c,d,f,g,i⟩:=h
 have e:q.1.headD Ev.zero=q.1.getD 0 Ev.zero:=by cases q.1<;>rfl
 grind
theorem PL (l:List Nat):(tq l).isSome=(aZ 281474976710657 l&& (decide (abn (qd l)=0)&&Bk.fits ⟨2,0,0,(aA 281474976710657 l:Int),[]⟩)):=by grind [tq]
theorem qrf (h:(tq l).isSome=true):tq l=some ⟨2,0,0,(aA 281474976710657 l:Int),[]⟩:=by grind [tq]
theorem LY (h:¬(uq l=true/\0<aA 4096 (qd (qd l)))):(zb l).isSome=(uq l&& (decide (abn (qd (qd (qd l)))=0)&&Bk.fits ⟨1,aA 63 l,(aA 281474976710656 (qd l):Int),0,[]⟩)):=by grind [zb]
theorem Yh (h:¬(uq l=true/\0<aA 4096 (qd (qd l)))) (hs:(zb l).isSome=true):zb l=some ⟨1,aA 63 l,(aA 281474976710656 (qd l):Int),0,[]⟩:=by grind [zb]
theorem PN {cpu lost L:Nat} {es:List Ev} (h:(es.getD 0 Ev.zero).seq=(aA 281474976710656 l:Int)/\(es.getD 0 Ev.zero).time=(aA 281474976710656 (qd l):Int)):(tu cpu lost l (es,L,0)).isSome=((aZ 281474976710656 l&&aZ 281474976710656 (qd l))&& (decide (abn (qd (qd l))-L=0)&&Bk.fits ⟨1,cpu,(lost:Int),0,es⟩)):=by grind [Bk.fits,Yg,qml,aZ,qd]
theorem za8 (h:(tu cpu lost l q).isSome=true):tu cpu lost l q=some ⟨1,cpu,(lost:Int),0,q.1⟩:=by grind [tu]
theorem BX.none {q:Option Bk} (h:BX w q r W) (b:q=none):(∃a:Array Value,r= .returned (.tuple #[.agg a,.bool false])/\a.size=5/\(∀v∈a.toList,v.oneCell'=true))/\Below w.heap.size w W:=by
 subst b
 obtain ⟨⟨a,c,d,e,_⟩,f⟩:=h
 exact ⟨⟨a,c,d,e⟩,f⟩
theorem BX.some {q:Option Bk} (h:BX w q r W) (a:q=some b):(∃A c,r= .returned (.tuple #[.agg (b.cells A c),.bool true])/\W.ownsRow w.heap.size 73 11 (.slice A (abn b.evs) c) (abn b.evs) (b.evs.flatMap eD)/\abn b.evs<=c)/\Below w.heap.size w W:=by
 subst a
 obtain ⟨⟨d,e,f,g,i⟩,j⟩:=h
 grind
def PO (T:TypeId) (w:World) (q:Bk×Nat×Nat) (r:Ending) (a:World):Prop:=
 (∃A c,r= .returned (.tuple #[.agg (q.1.cells A c),.int .i64 (q.2.1:Int),.int .i64 (q.2.2:Int)])/\a.ownsRow w.heap.size T 11 (.slice A (abn q.1.evs) c) (abn q.1.evs) (q.1.evs.flatMap eD)/\abn q.1.evs<=c)/\Below w.heap.size w a
def Ad {T:TypeId} {q:Bk×Nat×Nat} (h:q=(Bk.zero,0,er)) (hb:Below w.heap.size w W):PO T w q (.returned (.tuple #[.agg #[.int .u8 0,.int .u8 0,.int .i64 0,.int .i64 0,.slice none 0 0],.int .i64 0,.int .i64 (er:Int)])) W:=by
 subst h
 exact ⟨⟨none,0,rfl,acA _ _ _ _,abr _⟩,hb⟩
def Yi {T:TypeId} {q:Bk×Nat×Nat} (h:q=(b,m,0)) (a:W.ownsRow w.heap.size T 11 (.slice A (abn b.evs) c) (abn b.evs) (b.evs.flatMap eD)) (hc:abn b.evs<=c) (hb:Below w.heap.size w W):PO T w q (.returned (.tuple #[.agg (b.cells A c),.int .i64 (m:Int),.int .i64 0])) W:=by
 subst h
 exact ⟨⟨A,c,rfl,a,hc⟩,hb⟩
def q4q (h:(bg l).2≠0):dz l=(Bk.zero,0,(bg l).2):=by unfold dz;rw [if_pos h]
def Ca {L:List Nat} (h:(bg l).2=0) (a:L=l.take (bg l).1) (hb:fB L=(none,e)):dz l=(Bk.zero,0,e):=by unfold dz;rw [if_neg om,<-a,hb]
def PS {L:List Nat} (h:(bg l).2=0) (a:L=l.take (bg l).1) (hb:fB L=(some b,e)):dz l=(b,(bg l).1,0):=by unfold dz;rw [if_neg om,<-a,hb]
def Yj {l:List Nat} {m g n f h:Nat} {a b c d e:List Nat}:(((((true&&aZ m a)&&aZ g b)&&aZ n c)&&aZ f d)&&aZ h e)=((((true&&aZ m a)&&aZ g b)&&aZ n c)&& (aZ f d&&aZ h e)):=by
 have _:=l
 rw [Bool.and_assoc]
theorem Yn (h:(fB l).1=none):(fB l).2≠0:=by grind [fB]
def PV (h:dz l=(b,m,0)):13<=m/\m<=abn l/\(fB (l.take m)).1=some b:=by
 unfold dz at h
 split at h
 ·rename_i c;simp only [Prod.mk.injEq] at h;exact absurd h.2.2 c
 ·rename_i c
  obtain ⟨_,d,_,e⟩:=Ym (show (bg l).2=0 by omega)
  split at h
  ·rename_i f a
   simp only [Prod.mk.injEq] at h
   obtain ⟨rfl,rfl,_⟩:=h
   exact ⟨d,e,a⟩
  ·rename_i a
   simp only [Prod.mk.injEq] at h
   exact absurd h.2.2 (Yn a)
theorem PW (x:Nat):1<=abn (ak x):=by grind [Dw,Dv,ak]
theorem Yo (b:Bk):1<=abn b.body:=by grind [Bk.body,PW]
def L6 (h:b.err=0):abn b.out=12+abn b.body:=by rw [F4 h,uQ,LV];omega
theorem PX (h:b.err=0):b.fits=true/\12+abn b.body<=4096:=by grind [Bk.err]
def Yp (h:b.fits=true) (a:12+abn b.body<=4096):b.err=0:=by
 unfold Bk.err
 rw [if_neg (by simp [h]),if_neg om]
theorem zbd (h:b.err=0):b.out.getD 4 0=113/\b.out.getD 5 0=116/\b.out.getD 6 0=1/\b.out.getD 7 0=b.kind/\(b.out.take (abn b.out-4)).drop 8=b.body:=by
 have e:abn b.out-4=abn b.raw:=by rw [L6 h,LV];omega
 rw [e,F4 h]
 unfold bI
 rw [adJ,zbc]
 refine ⟨rfl,rfl,rfl,rfl,rfl⟩
def zbe (h:b.err=0) (t:List Nat):jO (b.out++t)=abn b.out:=by
 obtain ⟨a,c⟩:=PX h
 rw [L6 h,F4 h]
 unfold bI Bk.raw
 simp only [abu]
 exact WO om _
theorem qri (h:b.fits=true):b.kind=1\/b.kind=2:=by grind [Bk.fits]
theorem quh (h:b.fits=true) (c:12+abn b.body<=4096):abn b.evs<=4096:=by
 by_cases a:b.kind=2
 ·have:=X3 h a;omega
 ·have:=zll a;omega
theorem q4t (a:b.Ok) (h:b.err=0):fB b.out=(some b,0):=by grind [F4,fB,PX,quh,qri,zbd,qz4,zj,WR]
def zbf {b:Bk} (c:b.Ok) (h:b.err=0) (t:List Nat):dz (b.out++t)=(b,abn b.out,0):=by
 obtain ⟨f,g⟩:=PX h
 have i:=L6 h
 have j:=Yo b
 have d:=zbe h t
 have a:bg (b.out++t)=(abn b.out,0):=by
  unfold bg
  rw [d,if_neg (by rw [abp];omega),if_neg om,if_neg (by rw [abp];omega)]
 refine (PS (b:=b) (e:=0) (L:=b.out) (by rw [a]) (by rw [a];exact List.take_left.symm) (q4t c h)).trans ?_
 rw [a]
def zbg {b:Bs} (a:cpu<256) {l:List Nat} {e:Ev} {u:Nat} (j:∀b∈l,b<256) (h:bq b cpu l=(e,u,0)):e.Ok/\u<=abn l:=by
 unfold bq at h
 split at h
 ·simp at h
 ·rename_i m
  split at h
  ·simp at h
  ·rename_i c
   split at h
   ·simp at h
   ·have d:l.getD 0 0<256:=j _ (qf 0 (af8.2 c))
    generalize l.getD 0 0=kd at h d
    generalize o:aV (2+abn (aB kd)) (l.drop 1)=R at h
    obtain ⟨xs,n,k⟩:=R
    unfold sJ at h
    split at h
    ·rename_i f;simp at h;exact absurd h.2.2 f
    ·rename_i f
     have f:k=0:=by show k=0;exact adp.1 f
     subst f
     obtain ⟨_,_,q,r⟩:=XL _ _ xs n (λb s=>j b (abL s)) o
     split at h
     ·simp at h
     ·rename_i t
      split at h
      ·simp at h
      ·injection h with h i
       injection i with i
       subst h
       have v:=af8.2 c
       rw [abC] at r
       refine ⟨?_,by dsimp only at i;omega⟩
       have g:b.right=true:=by simpa using m
       unfold Bs.right at g
       simp only [decide_eq_true_eq] at g
       dsimp only at t
       exact Oa (VG ⟨⟨by show _<=b.seq+((xs.getD 0 0:Nat):Int);omega,by show b.seq+((xs.getD 0 0:Nat):Int)<=_;omega⟩,⟨by show _<=b.time+((xs.getD 1 0:Nat):Int);omega,by show b.time+((xs.getD 1 0:Nat):Int)<=_;omega⟩,a,d,zy,zy,zy,zy,zy,by show 0<18446744073709551616;omega,zy⟩) _ (λp w=>q p.2 (abL (List.of_mem_zip w).2))
def Yq {cpu:Nat} (a:cpu<256):∀(n:Nat) (b:Bs) (p:Option Ev) (l:List Nat),(∀x∈l,x<256)->(qy cpu n b p l).2.2=0->(qy cpu n b p l).1.length=n/\(∀e∈(qy cpu n b p l).1,e.Ok)/\(qy cpu n b p l).2.1<=abn l
 |0,b,p,l,_,_=>⟨rfl,(λe c=>by cases c),abA _⟩
 | n + 1, b, p, l, g, h => by
  rw [qy] at h⊢
  split at h
  ·rename_i d;exact absurd h d
  ·rename_i d
   split at h
   ·cases h
   ·rename_i j
    split at h
    ·rename_i f;exact absurd h f
    ·rename_i f
     rw [if_neg d,if_neg j,if_neg f]
     have k:bq b cpu l=((bq b cpu l).1,(bq b cpu l).2.1,0):=by rw [<-adp.1 d]
     obtain ⟨m,o,q⟩:=Yq a n (bq b cpu l).1.at (some (bq b cpu l).1) (l.drop (bq b cpu l).2.1) (λx r=>g x (abL r)) (adp.1 f)
     have i:=zbg a g k
     rw [abC] at q
     refine ⟨by show _+1=_;rw [m],λe c=>?_,by have:=i.2;show _+_<=_;omega⟩
     rcases abS.1 c with rfl|c
     ·exact i.1
     ·exact o e c
def PY {b:Bs} (a:cpu<256) {m:Int} {l:List Nat} {es:List Ev} {u:Nat} (d:∀x∈l,x<256) (h:gL b cpu m l=(es,u,0)):(abn es:Int)=m/\(∀e∈es,e.Ok)/\u<=abn l:=by
 unfold gL at h
 split at h
 ·simp at h
 ·split at h
  ·simp at h
  ·have c:=Yq a m.toNat b none l d (by rw [h])
   rw [h] at c
   exact ⟨by have:=c.1;dsimp only at this;omega,c.2⟩
def zbh (m:∀x∈l,x<256) {b:Bk} (h:uw k l=some b):b.Ok/\abn b.evs<=4096:=by
 have a:aW 0:=zy
 unfold uw at h
 split at h
 ·unfold tq at h
  split at h
  ·injection h with h
   subst h
   exact ⟨⟨by show 2<256;decide,by show 0<256;decide,a,LU (qJ _ _),λe c=>by cases c⟩,abA _⟩
  ·cases h
 ·have d:=uZ m
  have f:=uZ d
  have g:=uZ (uZ (uZ f))
  have hc:aA 63 l<256:=Nat.lt_of_le_of_lt (qJ _ _) de
  have hs:aW ((aA 281474976710656 (qd l):Nat):Int):=LU (ada (qJ _ _) de)
  unfold zb at h
  split at h
  ·unfold tu at h
   split at h
   ·rename_i j
    injection h with h
    subst h
    generalize n:gL _ _ _ _=q at j⊢
    obtain ⟨es,u,o⟩:=q
    obtain ⟨i,_⟩:=j
    have i:o=0:=i
    subst i
    obtain ⟨r1,p,_⟩:=PY hc g n
    refine ⟨⟨by show 1<256;decide,hc,hs,a,p⟩,?_⟩
    have:=qJ 4096 (qd (qd l))
    show abn es<=4096
    omega
   ·cases h
  ·split at h
   ·injection h with h
    subst h
    exact ⟨⟨by show 1<256;decide,hc,hs,a,λe c=>by cases c⟩,abA _⟩
   ·cases h
def zhj (d : ∀ x ∈ l, x < 256) (h : (dz l).2.2 = 0) : (dz l).1.Ok /\ (dz l).1.evs.length <= 4096 := by
 unfold dz at h⊢
 split at h
 ·rename_i c;exact absurd h c
 ·rename_i c
  rw [if_neg c]
  split at h
  ·rename_i b a
   show b.Ok/\abn b.evs<=4096
   unfold fB at a
   split at a
   ·cases a
   ·split at a
    ·cases a
    ·split at a
     ·cases a
     ·split at a
      ·cases a
      ·split at a
       ·cases a
       ·rename_i g e
        injection a with a
        subst a
        exact zbh (λx f=>d x (acf (acf (abL f)))) e
  ·rename_i a
   exact absurd h (Yn a)
def Aw {x:aF} (h:ShAt x):∀i,i<abn x.ts->(i:Int)+1<=(x.ts.getD i Tk.zero).id
 |0,hi=>(pV (h.tk 0 hi)).1
 |i+1,hi=>by
  have b:=Aw h i om
  have a:=(D8 (h.tk (i+1) hi)).1
  rw [Nat.add_sub_cancel] at a
  omega
def zl7 (h:ShAt x):abn x.ts<=65535:=by
 rcases ab5 65535 (abn x.ts) with a|a
 ·have b:=Aw h 65535 a
  have c:=(pV (h.tk 65535 a)).2
  omega
 ·exact a
def zh9 (g:Nat) (z:Sp):abn (vL g z)<=3:=by unfold vL;split<;>simp
def zia (g:Nat) (l:List Sp):abn (yQ g l)<=3*abn l:=GJ (λc=>zh9 g (l.getD c Sp.zero)) _
theorem ZF (h:ShAt s.st):abn (aN s 0)=1/\abn (aN s 1)=3/\abn (aN s 2)<=512/\abn (aN s 3)<=64/\abn (aN s 4)<=64/\abn (aN s 5)<=524281/\abn (aN s 6)<=49152:=by
 obtain ⟨b,c,_,a⟩:=mI h.cfg
 obtain ⟨d,e,_,_⟩:=qw a
 have j:=h.cl
 have k:=h.cu
 have n:=h.rs
 have ht:=zl7 h
 refine ⟨rfl,rfl,?_,?_,?_,?_,?_⟩
 ·have:=GJ (f:=yP s.st.gs) (m:=2) (λi=>abr 2) (abn s.st.gs-1)
  show abn (gI (abn s.st.gs-1) (yP s.st.gs))<=512
  omega
 ·show abn (s.st.cl.map aL)<=64
  rw [abx];omega
 ·show abn (s.st.cu.map aL)<=64
  rw [abx];omega
 ·have:=GJ (f:=λi=>rD (qx s.st.ts i) (s.st.ts.getD i Tk.zero)) (m:=8) (λi=>abr 8) (abn s.st.ts)
  show abn (gI (abn s.st.ts) λi=>rD (qx s.st.ts i) (s.st.ts.getD i Tk.zero))+1<=524281
  omega
 ·have:=Zn (f:=λg=>yQ g (s.st.rs.getD g Rw.zero).l) (m:=192) (abn s.st.rs) (λg a=>by
   have o:=zia g (s.st.rs.getD g Rw.zero).l
   have p:=(Co a (h.row g a)).1
   omega)
  show abn (gI (abn s.st.rs) λg=>yQ g (s.st.rs.getD g Rw.zero).l)<=49152
  omega
theorem QO (s:dL):iJ s=aN s 0++aN s 1++aN s 2++aN s 3++aN s 4++aN s 5++aN s 6:=by simp_all [iJ,zp,GI]
theorem zb4 {α:Type} {f:Nat->List α} (h:i<=k):abn (gI i f)<=abn (gI k f):=by induction k<;>grind [zp]
theorem QS (h:ShAt s.st):abn (iJ s)<=600000:=by grind [QO,ZF]
def ZG (h:ShAt s.st) {i:Nat} (hi:i<=7):abn (gI i (aN s))<=600000:=ada (zb4 hi) (QS h)
def zb5 (h:ShAt s.st) {i:Nat} (hi:i<7):abn (aN s i)<=600000:=by
 have:=ZG h (show i+1<=7 by omega)
 rw [zp,abp] at this
 omega
theorem zl8 {p:Int} (ht:t.Ok):∀x∈rD p t,x<18446744073709551616:=by
 intro x a
 have b:=ht.mask
 have c:=ht.v
 have d:=ht.r
 simp only [rD,abS,aci,or_false] at a
 grind [Cr]
theorem zl9 {g:Nat} (hz:z.Ok):∀x∈vL g z,x<18446744073709551616:=by
 intro x a
 have b:=hz.v
 have c:=hz.r
 have d:=hz.floor
 grind [vL]
theorem zib (b:s.st.av.Ok) (e:bY s.st):∀i,∀x∈aN s i,x<18446744073709551616:=by
 have h:=e.g
 have j:=e.t
 have d:=b.aj
 intro i
 match i with
 |0=>intro x a;simp only [aN,abS,aci,or_false] at a;subst a;exact Cr _
 |1=>
  intro x a
  simp only [aN,abS,aci,or_false] at a
  rcases a with rfl|rfl|rfl
  ·exact Cr _
  ·exact d
  ·omega
 |2=>
  refine D9 _ λi _ x a=>?_
  grind [yP,Cr]
 |3=>intro x a;obtain ⟨y,_,rfl⟩:=ab0.1 a;exact Cr _
 |4=>intro x a;obtain ⟨y,_,rfl⟩:=ab0.1 a;exact Cr _
 |5=>
  intro x a
  rcases abS.1 a with rfl|a
  ·omega
  ·exact D9 (p:=λx=>x<18446744073709551616) _ (λi hi=>zl8 (b.ts _ (qf Tk.zero hi))) x a
 |6=>
  refine D9 _ λg f=>D9 _ λc hc=>zl9 ?_
  refine b.sp _ (qf [] (show g<abn s.st.av.sp from by rw [lG];exact f)) _ ?_
  rw [jW f]
  exact qf Sp.zero hc
 |k+7=>intro x a;cases a
def ZH (a:s.st.av.Ok) (b:bY s.st):∀x∈iJ s,x<18446744073709551616:=D9 7 λi _=>zib a b i
def ZI {l:List Nat}:∀b∈l.flatMap ak,b<256:=by
 intro b a
 obtain ⟨x,_,c⟩:=acw.1 a
 exact yt x b c
theorem ZJ (s:dL):∀b∈fV s,b<256:=by
 intro b a
 rcases ab6.1 a with a|a
 ·grind
 ·exact ZI b a
theorem QT (s:dL):abn (fV s)=3+abn ((iJ s).flatMap ak):=by unfold fV;rw [abp];rfl
def ZK (h:s.next<1\/281474976710657<s.next):dG s=330:=if_pos h
def q5y (h:¬(s.next<1\/281474976710657<s.next)) (hr:lT s.st.av=false):dG s=331:=by unfold dG;rw [if_neg h,if_pos hr]
def ZL (h:¬(s.next<1\/281474976710657<s.next)) (hr:lT s.st.av=true):dG s=0:=by unfold dG;rw [if_neg h,if_neg (by rw [hr];decide)]
theorem Ea (h:dG s=0):(1<=s.next/\s.next<=281474976710657)/\lT s.st.av=true:=by grind [dG,lT]
theorem G7 (h:dG s=0):ShAt s.st:=by
 have:=(Ea h).2
 unfold lT at this
 rw [abG] at this
 exact vG this.1
def jX (s:dL):List Nat:=if dG s=0 then iJ s else []
def Eb (h:dG s=0):jX s=iJ s:=if_pos h
def zb6 (h:dG s≠0):jX s=[]:=if_neg h
theorem Ec (h:dG s=0):cZ s=bI (fV s):=if_pos h
theorem q5z (h:dG s≠0):cZ s=[]:=if_neg h
theorem ZM (h:ShAt s.st):abn (bI (fV s))<=6000007:=by grind [QT,zq,iJ,QS,uQ]
def QU (w:World) (er:Nat) (R:List Nat) (r:Ending) (a:World):Prop:=
 (∃A c,r= .returned (.tuple #[.slice A (abn R) c,.int .i64 (er:Int)])/\a.ownsRow w.heap.size 41 1 (.slice A (abn R) c) (abn R) (R.map bD)/\abn R<=c)/\Below w.heap.size w a
def q0v {q:List Nat} (a:sZ=er) (h:q=R) (b:W.ownsRow w.heap.size 41 1 (.slice A (abn q) c) (abn q) (q.map bD)) (hc:abn q<=c) (hb:Below w.heap.size w W):QU w er R (.returned (.tuple #[.slice A (abn q) c,.int .i64 (sZ:Int)])) W:=by
 subst h;subst a
 exact ⟨⟨A,c,rfl,b,hc⟩,hb⟩
def q0w (e:Int) (a:e=er) (h:R=[]) (hb:Below w.heap.size w W):QU w er R (.returned (.tuple #[.slice none 0 0,.int .i64 e])) W:=by
 subst h;subst a
 exact ⟨⟨none,0,rfl,acA _ _ _ _,abr _⟩,hb⟩
def q0x (e:Int) (a:e=er) (h:R=[]) (hb:Below w.heap.size w W):zr w er R (.returned (.tuple #[.slice none 0 0,.int .i64 e])) W:=by
 subst h;subst a
 exact ⟨⟨none,0,rfl,acA _ _ _ _,abr _⟩,hb⟩
theorem zb7 (s:dL):0<abn ((iJ s).flatMap ak):=by grind [QO,aN,aL,PW]
def q0y (h:dG s=0):([113,115,1]:List Nat).map B8++((jX s).flatMap ak).map B8=(fV s).map B8:=by
 rw [Eb h];exact List.map_append.symm
def zma (h:dG s=0):3+abn ((jX s).flatMap ak)=abn (fV s):=by rw [QT,Eb h]
def zb8 (h:ShAt s.st):abn (fV s)<=6000003:=by
 have a:=ZM h
 rw [uQ] at a
 omega
def q0z {q:List Nat} (a:sZ=er) (h:q=R) (b:W.ownsRow w.heap.size 5 1 (.slice A (abn q) c) (abn q) (q.map B8)) (hc:abn q<=c) (hb:Below w.heap.size w W):zr w er R (.returned (.tuple #[.slice A (abn q) c,.int .i64 (sZ:Int)])) W:=by
 subst h;subst a
 exact ⟨⟨A,c,rfl,b,hc⟩,hb⟩
def ZN (l:List jK):∀u∈l.flatMap gQ,u.oneCell'=true:=by
 intro u b
 obtain ⟨x,_,a⟩:=acw.1 b
 simp only [gQ,abS,aci,or_false] at a
 rcases a with rfl|rfl|rfl<;>rfl
def qh:jK:=⟨⟨#[104,101,97,100]⟩,0,3⟩
structure Hb where
 b:Bk
 A:Option Addr
 c:Nat
def Hb.zero:Hb:=⟨Bk.zero,none,0⟩
def hbL (h:Hb):List Value:=(h.b.cells h.A h.c).toList
def F7 (h:Hb):abn (hbL h)=5:=rfl
def Hb.own (h:Hb):Own:=⟨h.A,abn h.b.evs,h.c,h.b.evs.flatMap eD⟩
def eX (t:TypeId) (q:List Hb):List Fact:=je t 11 (q.map Hb.own)
def lC (w:World) (q:List Hb):Prop:=∀h∈q,Rd w w.heap.size 11 h.A (abn h.b.evs) (h.b.evs.flatMap eD)
section
variable {W w w':World} {fs gs a b:List Fact} {t bt:TypeId} {q:List Hb}
def za9 (h:Hb):eX t (q++[h])=eX t q++[.row (.slice h.A (abn h.b.evs) h.c) (abn h.b.evs) (h.b.evs.flatMap eD) t 11]:=by
 unfold eX je
 rw [abU,abU]
 rfl
def zhh {h:Hb} (d:h∈q):afT (.slice h.A (abn h.b.evs) h.c) (abn h.b.evs) (h.b.evs.flatMap eD) t 11∈eX t q:=adq (adq d)
theorem Mem.F8 (h:Mem W w fs) (hs:∀f∈eX t q,f∈fs):lC w q:=λ_ c=>h.jT (hs _ (zhh c))
theorem lC.old (h:lC W q) (c:Mem W w fs):lC w q:=λx d=>c.old (h x d)
theorem lC.at (h:lC w q) (hk:k<abn q):Rd w w.heap.size 11 (q.getD k Hb.zero).A (q.getD k Hb.zero).b.evs.length ((q.getD k Hb.zero).b.evs.flatMap eD):=by
 refine h _ ?_
 rw [abt,abq hk]
 exact ac5 hk
def aaK {x:Bk} (h:Mem W w (.row (.slice A (abn x.evs) c) (abn x.evs) (x.evs.flatMap eD) t 11::(a++(eX t q++b)))):Mem W w (a++(eX t (q++[⟨x,A,c⟩])++b)):=by
 refine h.perm ?_
 rw [za9]
 have d:(afT (.slice A (abn x.evs) c) (abn x.evs) (x.evs.flatMap eD) t 11::(a++(eX t q++b))).Perm (a++afT (.slice A (abn x.evs) c) (abn x.evs) (x.evs.flatMap eD) t 11::(eX t q++b)):=(ac6).symm
 refine d.trans (List.Perm.append_left a ?_)
 rw [abu]
 exact (ac6 (l₁:=eX t q) (l₂:=b)).symm
def aax {f:Fact} (h:Mem W w (a++b)) (k:Mem w w' (f::eX t q)):Mem W w' (f::(a++(eX t q++b))):=by
 refine (h.join k).perm (List.Perm.cons f ?_)
 show (eX t q++(a++b)).Perm _
 rw [<-abu,<-abu]
 exact List.Perm.append_right b acY
end
def Ga {q c:List Hb} (h:q.map Hb.b=c.map Hb.b) (hk:k<abn q):(q.getD k Hb.zero).b=(c.getD k Hb.zero).b:=by
 have e:abn q=abn c:=by have h:=congrArg List.length h;rwa [abx,abx] at h
 have d:=congrArg (·[k]?) h
 simp only [ac0] at d
 rw [abq hk,abq om] at d
 rw [abt,abt,abq hk,abq om]
 injection d
def Cb (t bt:TypeId) (w:World) (er:Nat) (bs:List Bk):Ending->World->Prop:=λr w'=>∃A c q,r= .returned (.tuple #[.slice A (abn bs) c,.int .i64 (er:Int)])/\q.map Hb.b=bs/\abn bs<=c/\Mem w w' (.row (.slice A (abn bs) c) (abn bs) (q.flatMap hbL) bt 5::eX t q)
section
variable {W w:World} {fs a:List Fact} {t bt:TypeId} {q:List Hb}
def zba {n:Int} (h:Mem W w fs) (c:n=er):Cb t bt W er [] (.returned (.tuple #[.slice none 0 0,.int .i64 n])) w:=by
 subst c
 exact ⟨none,0,[],rfl,rfl,abr _,Mem.nil ⟨h.below,λf d=>absurd d aci,.nil⟩ _ _⟩
def zhi (h:Mem W w (.row (.slice A (abn q) c) (abn q) (q.flatMap hbL) bt 5::eX t q)) (hc:abn q<=c):Cb t bt W 0 (q.map Hb.b) (.returned (.tuple #[.slice A (abn q) c,.int .i64 0])) w:=
 ⟨A,c,q,by rw [abx];rfl,rfl,by rwa [abx],by rwa [abx]⟩
end
def kM (x:aF):List (List Sp):=x.rs.map aeR
def ZO (h:g<abn x.rs):(kM x).getD g []=(x.rs.getD g Rw.zero).l:=jW h
def ZP (x:aF):abn (kM x)=abn x.rs:=abx ..
def vR (a b:aF):Prop:=a.au=b.au/\a.aj=b.aj/\a.gs=b.gs
instance G8 (a b:aF):Decidable (vR a b):=by unfold vR;infer_instance
def kN (a b:aF):Prop:=vR a b/\a.cl=b.cl/\a.cu=b.cu/\a.ts=b.ts/\kM a=kM b
instance G9 (a b:aF):Decidable (kN a b):=by unfold kN;infer_instance
def gP (a b:dL):Prop:=a.next=b.next/\a.st.au=b.st.au/\a.st.aj=b.st.aj/\a.st.gs=b.st.gs/\a.st.cl=b.st.cl/\a.st.cu=b.st.cu/\a.st.ts=b.st.ts/\kM a.st=kM b.st
instance ME (a b:dL):Decidable (gP a b):=by unfold gP;infer_instance
def ZQ {l:List Rw} (h:i<abn l):(l.map aeR).getD i []=(l.getD i Rw.zero).l:=by
 rw [abt,abt,ac0,abq h]
 rfl
section
variable {P:Program} {Q:Exit->Act->World->Prop} {a:Act} {W w:World} {n d:Nat} {D:List Deferred} {σ:List (Nat×Value)} {o:Oper} {K:Act->World->Prop} {fs:List Fact}
end
def kY (t:TypeId) (q:List Rw):List Fact:=je t 3 (q.map Rw.own)
section
variable {W w w':World} {fs gs a T:List Fact} {t:TypeId} {q:List Rw}
def ZR {x:Rw} (b:x∈q):afT (.slice x.A (abn x.l) x.c) (abn x.l) (x.l.flatMap jk) t 3∈kY t q:=adq (adq b)
def aaA {l:List Sp} (h:Mem W w (.row (.slice A (abn l) c) (abn l) (l.flatMap jk) t 3::(fs++kY t q))):Mem W w (fs++kY t (q++[⟨A,c,l⟩])):=by
 have b:=Mem.znl h
 unfold kY
 rw [abU]
 exact b
theorem Mem.pW (h:Mem W w fs) (k:Mem w w' gs):Mem W w' (fs++gs):=(h.join k).perm acY
end
def jF (x:aF):List Fact:=[.row (.slice x.gA (abn x.gs) x.gc) (abn x.gs) (x.gs.flatMap fC) 198 2,.row (.slice x.lA (abn x.cl) x.lc) (abn x.cl) (x.cl.map aX) 3 1,.row (.slice x.uA (abn x.cu) x.uc) (abn x.cu) (x.cu.map aX) 3 1,.row (.slice x.tA (abn x.ts) x.tc) (abn x.ts) (x.ts.flatMap bS) 232 8,.row (.slice x.sA (abn x.rs) x.sc) (abn x.rs) (x.rs.map aac) 176 1]++kY 200 x.rs
section
variable {W w w':World} {fs T:List Fact} {x:aF}
theorem Mem.Cz (h:Mem W w fs) (hs:∀f∈jF x,f∈fs):eU w x:=
 ⟨h.jT (hs _ (abH (i:=0) (l:=jF x) rfl)),h.jT (hs _ (abH (i:=1) (l:=jF x) rfl)),h.jT (hs _ (abH (i:=2) (l:=jF x) rfl)),h.jT (hs _ (abH (i:=3) (l:=jF x) rfl)),h.jT (hs _ (abH (i:=4) (l:=jF x) rfl)),λy b=>h.jT (hs _ (acW _ (ZR b)))⟩
theorem Mem.stL (n:Nat) (h:Mem W w fs) (b:fs.drop n=jF x++T):eU w x:=h.Cz λf c=>abL (b▸List.mem_append_left _ c)
theorem Mem.stX (n:Nat) (h:Mem W w fs) (b:fs.drop n=jF x):eU w x:=h.Cz λf c=>abL (b▸c)
end
def ZT (w:World) (x:aF) (r:Ending) (w':World):Prop:=∃y:aF,r= .returned (.agg y.cells)/\kN x y/\fD y/\Mem w w' (jF y)
def He (l:List Gr):∀u∈l.flatMap fC,u.oneCell'=true:=by
 intro u c
 obtain ⟨x,_,b⟩:=acw.1 c
 simp only [fC,abS,aci,or_false] at b
 rcases b with rfl|rfl<;>rfl
def QV (l:List Sp):∀u∈l.flatMap jk,u.oneCell'=true:=by
 intro u c
 obtain ⟨x,_,b⟩:=acw.1 c
 simp only [jk,abS,aci,or_false] at b
 rcases b with rfl|rfl|rfl<;>rfl
def Hf (l:List Tk):∀u∈l.flatMap bS,u.oneCell'=true:=by
 intro u c
 obtain ⟨x,_,b⟩:=acw.1 c
 simp only [bS,abS,aci,or_false] at b
 rcases b with rfl|rfl|rfl|rfl|rfl|rfl|rfl|rfl<;>rfl
def QW (l:List Int):∀u∈l.map aX,u.oneCell'=true:=by
 intro u b
 obtain ⟨x,_,rfl⟩:=ab0.1 b
 rfl
def ZU (l:List Rw):∀u∈l.map aac,u.oneCell'=true:=by
 intro u b
 obtain ⟨x,_,rfl⟩:=ab0.1 b
 rfl
def zb9 {l:List Rw} (h:k<abn l):(l.take (k+1)).map aeR=(l.take k).map aeR++[(l.getD k Rw.zero).l]:=by rw [yF Rw.zero h,abU];rfl
theorem MF {a b:aF} (h:kN a b):b.av=a.av:=by
 obtain ⟨⟨c,e,f⟩,g,i,j,k⟩:=h
 unfold aF.av
 rw [c,e,f,g,i,j,show a.rs.map aeR=b.rs.map aeR from k]
theorem MG {b:dL} (h:gP a b):kN a.st b.st:=⟨⟨h.2.1,h.2.2.1,h.2.2.2.1⟩,h.2.2.2.2.1,h.2.2.2.2.2.1,h.2.2.2.2.2.2.1,h.2.2.2.2.2.2.2⟩
def vT {b:dL} (c:a.next=b.next) (h:kN a.st b.st):gP a b:=⟨c,h.1.1,h.1.2.1,h.1.2.2,h.2.1,h.2.2.1,h.2.2.2.1,h.2.2.2.2⟩
def ZV {a b:aF} (h:kM a=kM b):abn a.rs=abn b.rs:=by rw [<-ZP a,h,ZP]
def MH {α:Type} {f g:Nat->List α}:∀k,(∀i,i<k->f i=g i)->gI k f=gI k g
 |0,_=>rfl
 |k+1,h=>by rw [zp,zp,MH k (λi hi=>h i om),h k om]
def zmb {b:dL} (h:gP a b):∀i,aN b i=aN a i:=by
 obtain ⟨f,j,m,c,p,r,s,e⟩:=h
 intro i
 match i with
 |0=>show [aL b.next]=[aL a.next];rw [f]
 |1=>show [aL b.st.au,b.st.aj,abn b.st.gs]=[aL a.st.au,a.st.aj,abn a.st.gs];rw [j,m,c]
 |2=>show gI (abn b.st.gs-1) (yP b.st.gs)=gI (abn a.st.gs-1) (yP a.st.gs);rw [c]
 |3=>show b.st.cl.map aL=a.st.cl.map aL;rw [p]
 |4=>show b.st.cu.map aL=a.st.cu.map aL;rw [r]
 |5=>show (abn b.st.ts::gI (abn b.st.ts) λi=>rD (qx b.st.ts i) (b.st.ts.getD i Tk.zero))=abn a.st.ts::gI (abn a.st.ts) λi=>rD (qx a.st.ts i) (a.st.ts.getD i Tk.zero);rw [s]
 |6=>
  have u:=ZV e
  show (gI (abn b.st.rs) λg=>yQ g (b.st.rs.getD g Rw.zero).l)=gI (abn a.st.rs) λg=>yQ g (a.st.rs.getD g Rw.zero).l
  rw [u]
  exact MH _ λg v=>by rw [<-ZO v,<-e,ZO om]
 |k+7=>rfl
theorem MI {b:dL} (h:gP a b):dG b=dG a:=by unfold dG;rw [MF (MG h),h.1]
theorem zic {b:dL} (h:gP a b):iJ b=iJ a:=MH 7 λi _=>zmb h i
theorem zid {b:dL} (h:gP a b):fV b=fV a:=by unfold fV;rw [zic h]
def ZW {b:dL} (h:gP a b):cZ b=cZ a:=by unfold cZ;rw [MI h,zid h]
def q00 (a:aF):kN a a:=⟨⟨rfl,rfl,rfl⟩,rfl,rfl,rfl,rfl⟩
def ZX {a b:aF} (h:kN a b) (c:bY a):bY b:=by
 obtain ⟨⟨A,B,i⟩,j,k,m,f⟩:=h
 refine ⟨i▸c.g,j▸c.l,k▸c.u,m▸c.t,by rw [<-ZV f];exact c.s,λy p=>?_⟩
 have v:y.l∈kM a:=by rw [f];exact adq p
 obtain ⟨z,hz,e⟩:=ab0.1 v
 rw [<-e]
 exact c.r z hz
def Hg (x:aF):Prop:=abn x.ts<=60/\abn x.gs<=12/\abn x.rs<=12/\abn x.cl<=8/\abn x.cu<=8/\∀k,k<abn x.rs->(x.rs.getD k Rw.zero).l.length<=8
instance QX (x:aF):Decidable (Hg x):=by unfold Hg;infer_instance
def jK.zero:jK:=⟨⟨#[]⟩,0,0⟩
def NV (a b c d e:Nat):dL:=⟨1,⟨1,0,some ⟨a,0,none⟩,1,[⟨0,1⟩],some ⟨b,0,none⟩,1,[0],some ⟨c,0,none⟩,1,[0],none,0,[],some ⟨e,0,none⟩,1,[⟨some ⟨d,0,none⟩,1,[⟨0,0,0⟩]⟩]⟩⟩
section
variable {w:World} {a b c d e f:Nat}
theorem xW {α:Type} {p:α->Prop} {x:α} (h:p x):∀y∈[x],p y:=λy g=>by rw [List.mem_singleton] at g;subst g;exact h
theorem zkh {α:Type} {p:α->Prop}:∀y∈([]:List α),p y:=λy g=>by cases g
theorem zki:Gr.Ok ⟨0,1⟩:=⟨by unfold aW;decide,by unfold aW;decide⟩
def znc:(NV a b c d e).st.av.Ok:=⟨show aW 1 by unfold aW;decide,show 0<18446744073709551616 by decide,xW zki,xW (by unfold aW;decide),xW (by unfold aW;decide),zkh,xW (xW ⟨by decide,by decide,by decide⟩)⟩
def zkj:bY (NV a b c d e).st:=⟨by show 1<=1000000;decide,by show 1<=1000000;decide,by show 1<=1000000;decide,by show 0<=1000000;decide,by show 1<=1000000;decide,xW (by show 1<=1000000;decide)⟩
def zkk:fD (NV a b c d e).st:=⟨abr 1,abr 1,abr 1,abr 0,abr 1,xW (abr 1)⟩
end
def fG (A:Option Addr) (n c:Nat) (l:List Gr):Fact:= .row (.slice A n c) n (l.flatMap fC) 198 2
def fI (A:Option Addr) (n c:Nat) (l:List Int):Fact:= .row (.slice A n c) n (l.map aX) 3 1
def fT (A:Option Addr) (n c:Nat) (l:List Tk):Fact:= .row (.slice A n c) n (l.flatMap bS) 232 8
def fS (A:Option Addr) (n c:Nat) (l:List Rw):Fact:= .row (.slice A n c) n (l.map aac) 176 1
def fR (q:List Rw):List Fact:=kY 200 q
def fM (gm:Nat) (cp:Int) (cr:Nat) (gA:Option Addr) (ng gc:Nat) (lA:Option Addr) (nl lc:Nat) (uA:Option Addr) (nu uc:Nat) (tA:Option Addr) (nt tc:Nat) (sA:Option Addr) (ns sc:Nat):Fact:=
 .blk gm #[.int .i64 cp,.int .u64 (cr:Int),.slice gA ng gc,.slice lA nl lc,.slice uA nu uc,.slice tA nt tc,.slice sA ns sc,.bool true] 273
def jC (gm:Nat) (x:aF) (ng nl nu nt ns:Nat):List Fact:=fM gm x.au x.aj x.gA ng x.gc x.lA nl x.lc x.uA nu x.uc x.tA nt x.tc x.sA ns x.sc::fG x.gA ng x.gc x.gs::fI x.lA nl x.lc x.cl::fI x.uA nu x.uc x.cu::fT x.tA nt x.tc x.ts::fS x.sA ns x.sc x.rs::fR x.rs
structure rX (x:aF) (ng nl nu nt ns:Nat):Prop where
 g:abn x.gs=ng
 l:abn x.cl=nl
 u:abn x.cu=nu
 t:abn x.ts=nt
 s:abn x.rs=ns
structure dO (x:aF) (ng nl nu nt ns:Nat):Prop where
 ok:x.av.Ok
 few:bY x
 sh:ShAt x
 ln:rX x ng nl nu nt ns
section
variable {W w w':World} {F A T fs:List Fact} {x:aF} {ng nl nu nt ns gm g c n:Nat}
def Z4:jC gm x (abn x.gs) (abn x.cl) (abn x.cu) (abn x.ts) (abn x.rs)=fM gm x.au x.aj x.gA (abn x.gs) x.gc x.lA (abn x.cl) x.lc x.uA (abn x.cu) x.uc x.tA (abn x.ts) x.tc x.sA (abn x.rs) x.sc::jF x:=rfl
theorem Mem.tL (n:Nat) (h:Mem W w F) (b:F.drop n=jC gm x ng nl nu nt ns++T) (e:rX x ng nl nu nt ns):eU w x:=by
 obtain ⟨rfl,rfl,rfl,rfl,rfl⟩:=e
 exact h.stL (T:=T) (n+1) (by rw [<-acQ,b,Z4];rfl)
theorem Mem.nZ (n:Nat) (h:Mem W w F) (b:F.drop n=jC gm x ng nl nu nt ns++T) (e:rX x ng nl nu nt ns):w.heap[gm]?=some (.cells #[.int .i64 x.au,.int .u64 (x.aj:Int),.slice x.gA (abn x.gs) x.gc,.slice x.lA (abn x.cl) x.lc,.slice x.uA (abn x.cu) x.uc,.slice x.tA (abn x.ts) x.tc,.slice x.sA (abn x.rs) x.sc,.bool true] 273 (0,0)):=by
 obtain ⟨rfl,rfl,rfl,rfl,rfl⟩:=e
 have i:fM gm x.au x.aj x.gA (abn x.gs) x.gc x.lA (abn x.cl) x.lc x.uA (abn x.cu) x.uc x.tA (abn x.ts) x.tc x.sA (abn x.rs) x.sc∈F:=abL (by rw [b,Z4];exact acB ..)
 exact (h.holds _ i).2
theorem Mem.front (n:Nat) (h:Mem W w F) (b:F.drop n=A++T):Mem W w (A++(F.take n++T)):=by
 have e:Mem W w (F.take n++(A++T)):=by rw [<-b,ab1];exact h
 exact e.perm (afo ..)
theorem Mem.back (h:Mem W w (A++(F++T))):Mem W w (F++(A++T)):=h.perm (afo ..)
end
def aQ (rs:List Rw) (g c:Nat) (z:Sp):List Rw:=rs.set g {rs.getD g Rw.zero with l:=(rs.getD g Rw.zero).l.set c z}
def zl (rs:List Rw) (g c:Nat) (z:Sp):abn (aQ rs g c z)=abn rs:=abJ ..
theorem q9 {α:Type} {l:List α} (d x:α) (h:k<abn l):(l.set k x).getD k d=x:=by
 rw [abt,ac9 h];rfl
theorem getD_set_ne {α:Type} {l:List α} {j:Nat} (d x:α) (h:k≠j):(l.set k x).getD j d=l.getD j d:=by grind
theorem Z5 {α:Type} {l:List α} (d:α) (h:k<abn l):l.set k (l.getD k d)=l:=by simp_all
theorem q55 {g c:Nat} {z:Sp} (b:g<abn rs):(aQ rs g c z).map aac=rs.map aac:=by grind [aac,Rw.zero,aQ,Z5,abq,abx,abJ,ae2]
theorem zie {g c:Nat} {z:Sp} (b:g<abn rs):(aQ rs g c z).map aeR=(rs.map aeR).set g (((rs.map aeR).getD g []).set c z):=by simp_all [Rw.zero,ZQ,aQ]
theorem Ed {g c:Nat} {z:Sp} (b:g<abn rs):(aQ rs g c z).getD g Rw.zero={rs.getD g Rw.zero with l:=(rs.getD g Rw.zero).l.set c z}:=q9 _ _ b
theorem Ho {rs:List Rw} {g h c:Nat} {z:Sp} (b:g≠h):(aQ rs g c z).getD h Rw.zero=rs.getD h Rw.zero:=getD_set_ne _ _ b
theorem Q0 {g c:Nat} {z y:Sp} (b:g<abn rs):aQ (aQ rs g c z) g c y=aQ rs g c y:=by simp_all [q9,aQ]
section
variable {W w w':World} {F A T fs:List Fact} {rs:List Rw} {n g c:Nat}
def aaB (n:Nat) (e:F.drop n=fR rs++T) (b:g<abn rs):F[n+g]?=some (.row (.slice (rs.getD g Rw.zero).A (rs.getD g Rw.zero).l.length (rs.getD g Rw.zero).c) (rs.getD g Rw.zero).l.length ((rs.getD g Rw.zero).l.flatMap jk) 200 3):=by
 have h:F[n+g]?=(F.drop n)[g]?:=by rw [List.getElem?_drop]
 have i:abn (fR rs)=abn rs:=by unfold fR kY je;rw [abx,abx]
 rw [h,e,adO om]
 unfold fR kY je
 rw [ac0,ac0,abq b,abt,abq b]
 rfl
theorem Mem.jG (n:Nat) (h:Mem W w F) (e:F.drop n=fR rs++T) (i:g<abn rs) (hy:rs.getD g Rw.zero=⟨E,m,yl⟩) (j:0<abn yl):∃k,E=some ⟨k,0,none⟩:=by
 have b:=aaB n e i
 rw [hy] at b
 exact zo (h.own b) j
theorem Mem.uy {m b c j:Nat} {v:Value} (n:Nat) (h:Mem W w F) (i:F.drop n=fR rs++T) (k:g<abn rs) (hy:rs.getD g Rw.zero=⟨some ⟨b,0,none⟩,m,yl⟩) (hz:yl[c]?=some z) (l:(jk z)[j]?=some v):w.cell? ⟨b,c*3+j,none⟩=some v:=by
 have e:=aaB n i k
 rw [hy] at e
 exact h.qu Ck e hz l
theorem Mem.Z6 {A:Option Addr} {size:Nat} {xs:List Value} {e:TypeId} (n:Nat) (h:Mem W w F) (b:F.drop n=fR rs++T) (j: .row (.slice A m k) m xs e size∈T):Rd w w.heap.size size A m xs:=
 h.jT (abL (i:=n) (by rw [b];exact acW _ j))
def zmc {r:Rw}:(fR rs).set g (.row (.slice r.A (abn r.l) r.c) (abn r.l) (r.l.flatMap jk) 200 3)=fR (rs.set g r):=by
 unfold fR kY je
 rw [ae2,ae2]
 rfl
variable {P:Program} {Q:Exit->Act->World->Prop} {a:Act} {N d:Nat} {D:List Deferred} {σ:List (Nat×Value)} {o:Oper} {v:Value} {K:Act->World->Prop}
theorem CB (Z:Fr a N D σ) (h:Mem W w F) (n:Nat) {sA:Option Addr} {ns sc m e off:Nat} {yl:List Sp} {t:TypeId} {x y:Operand} (j:Nat) {z:Sp} (b:Sp) (i:o.op= .store t x y) (u:o.dst=none) (B:look σ x=some (.pointer (some ⟨e,off,none⟩))) (C:look σ y=some v) (hs:(P.info? t).map (·.size)=some 1) (h1:v.oneCell'=true)
  (p:F.drop n=fS sA ns sc rs::(fR rs++T)) (q:g<abn rs) (hy:rs.getD g Rw.zero=⟨some ⟨e,0,none⟩,m,yl⟩) (hz:yl[c]?=some z) (E:off=c*3+j) (G:j<3) (l:jk b=(jk z).set j v)
  (k:∀w',Mem W w' (F.take n++(fS sA ns sc (aQ rs g c b)::(fR (aQ rs g c b)++T)))->K a w'):o.wp P a w K Q:=by
 subst E
 have hi:=aaB (F:=F) (T:=T) (g:=g) (n+1) (by rw [<-acQ,p];rfl) q
 rw [hy] at hi
 have H:c<abn yl:=(abB.1 hz).1
 refine zf Z h i u B C hs h1 hi (by rw [qQ jk 3 Ck];show c*3+j<abn yl*3;omega) λw' h=>k w' ?_
 rw [uL jk 3 Ck yl c z b hz j G v l] at h
 have I:F=F.take n++(fS sA ns sc rs::(fR rs++T)):=by rw [<-p,ab1]
 have s:abn (F.take n)=n:=by
  grind
 have J:F.set (n+1+g) (.row (.slice (some ⟨e,0,none⟩) (abn yl) m) (abn yl) ((yl.set c b).flatMap jk) 200 3)=F.take n++(fS sA ns sc rs::((fR rs).set g (.row (.slice (some ⟨e,0,none⟩) (abn yl) m) (abn yl) ((yl.set c b).flatMap jk) 200 3)++T)):=by
  conv=>lhs;rw [I]
  rw [aeJ,if_neg (by rw [s];omega),s,show n+1+g-n=g+1 by omega,List.set_cons_succ,aeJ,if_pos (by unfold fR kY je;rw [abx,abx];exact q)]
 have L:aQ rs g c b=rs.set g ⟨some ⟨e,0,none⟩,m,yl.set c b⟩:=by unfold aQ;rw [hy]
 have M:=zmc (rs:=rs) (g:=g) (r:=⟨some ⟨e,0,none⟩,m,yl.set c b⟩)
 grind [fS,q55]
end
section
variable {P:Program} {W w:World} {fs:List Fact} {f:Nat} {fn:Func} {c:Code} {R:Ending->World->Prop} {u1 u2 u3 u4:Value}
def Q6 (b:Mem W w fs) (e:P.funcs[f]?=some fn) (N:Nat) (h:fn.ntmps=N:=by exact rfl) (hb:fn.body=some c:=by exact rfl) (i:decide (1<=N)=true:=by kernel_rfl) (k:JJ W w N [] [(0,u1)] fs (Code.wp P c (bodyPost P fn R))):Calls P f #[u1] w R:=
 yh (vs:=[u1]) e hb h i rfl λa Z=>k a Z b
def mg (b:Mem W w fs) (e:P.funcs[f]?=some fn) (N:Nat) (h:fn.ntmps=N:=by exact rfl) (hb:fn.body=some c:=by exact rfl) (i:decide (2<=N)=true:=by kernel_rfl) (k:JJ W w N [] [(0,u1),(1,u2)] fs (Code.wp P c (bodyPost P fn R))):Calls P f #[u1,u2] w R:=
 yh (vs:=[u1,u2]) e hb h i rfl λa Z=>k a Z b
def yR (b:Mem W w fs) (e:P.funcs[f]?=some fn) (N:Nat) (h:fn.ntmps=N:=by exact rfl) (hb:fn.body=some c:=by exact rfl) (i:decide (3<=N)=true:=by kernel_rfl) (k:JJ W w N [] [(0,u1),(1,u2),(2,u3)] fs (Code.wp P c (bodyPost P fn R))):Calls P f #[u1,u2,u3] w R:=
 yh (vs:=[u1,u2,u3]) e hb h i rfl λa Z=>k a Z b
end
def En.cells (x:En):Array Value:= #[.int .u64 (x.v:Int),.int .u32 (x.r:Int),.int .u32 (x.w:Int)]
def mh (x:En):∀v∈x.cells.toList,v.oneCell'=true:=by simp [En.cells,abR]
def En.Ok (x:En):Prop:=bV x.v x.r x.w=true/\x.v<18446744073709551616
def bK.cells (x:bK):Array Value:= #[.int .u8 (x.kind:Int),.int .i64 x.cpu,.int .i64 x.task,.int .i64 x.group,.int .i64 x.weight,.int .i64 x.to,.int .i64 x.ticks,.int .u64 (x.mask:Int)]
def Z7 (x:bK):∀v∈x.cells.toList,v.oneCell'=true:=by simp [bK.cells,abR]
def mR:SI abo 214 8:=⟨by kernel_rfl,by kernel_rfl⟩
theorem rY:EI abo 211 214 (.agg #[.int .u8 0,.int .i64 0,.int .i64 0,.int .i64 0,.int .i64 0,.int .i64 0,.int .i64 0,.int .u64 0]) 8 64:=⟨by kernel_rfl,by kernel_rfl,rfl,by omega⟩
section
variable {W w:World} {F T:List Fact} {x:aF} {ng nl nu nt ns gm g c n:Nat}
def dO.sort (h:dO x ng nl nu nt ns):eY x.ts:=Zj h.sh
def Hq (n:Nat) (e:Mem W w F) (h:F.drop n=jC gm x ng nl nu nt ns++T) (b:dO x ng nl nu nt ns) (id:Int):Calls abo 161 #[.pointer (some ⟨gm,0,none⟩),.int .i64 id] w (Is w (.int .i64 (fidx x.ts id))):=
 ZA x gm id b.sort w (e.nZ n h b.ln) (e.tL n h b.ln).t b.few.t
def zca (n:Nat) (e:Mem W w F) (h:F.drop n=jC gm x ng nl nu nt ns++T) (b:dO x ng nl nu nt ns) (hc:(c:Int)<x.au) (i:g<ns):Calls abo 162 #[.pointer (some ⟨gm,0,none⟩),.int .i64 (g:Int),.int .i64 (c:Int)] w (Is w (.tuple #[.agg (aM bJ (aR x.av g c)).cells,.bool (!(aR x.av g c).isEmpty)])):=
 MC x b.ok b.few b.sh gm c hc _ g (abr _) (by rw [b.ln.s];exact i) w (e.tL n h b.ln) (e.nZ n h b.ln)
end
def Q7 {α:Type} {a b:List α} (h:abn b=n):abn a+n=abn (a++b):=by rw [abp,h]
section
variable {s:bE} {c g:Nat}
theorem qu4 (b:∀i,0<i->i<=g->d9 s.gs i) (h:g<=f):rC s c f g=rC s c g g:=by
 have key:∀(g f a:Nat),(∀i,0<i->i<=g->d9 s.gs i)->g<=f->g<=a->rC s c f g=rC s c a g:=by
  intro g
  induction g using aeT with
  | _ g l =>
   intro f a b m n
   by_cases d:g=0
   ·subst d
    cases f<;>cases a<;>simp [rC]
   ·obtain ⟨f,rfl⟩:∃k,f=k+1:=⟨f-1,by omega⟩
    obtain ⟨a,rfl⟩:∃k,a=k+1:=⟨a-1,by omega⟩
    have j:=b g om (abr _)
    unfold d9 at j
    simp only [rC,if_neg d]
    have e:(s.par g).toNat<g:=by show (s.gs.getD g Gr.zero).parent.toNat<g;omega
    grind
 exact key g f g b h (abr _)
def Z8 (a:∀i,0<i->i<=g->d9 s.gs i) (b:0<g) (hm:aR s g c=[]):kX s g c=g::kX s (s.gs.getD g Gr.zero).parent.toNat c:=by
 obtain ⟨k,rfl⟩:∃k,g=k+1:=⟨g-1,by omega⟩
 have d:=a (k+1) b (abr _)
 unfold d9 at d
 show rC s c (k+1) (k+1)=_
 rw [rC,if_neg om,if_pos (by rw [hm];rfl)]
 show (k+1)::rC s c k (s.gs.getD (k+1) Gr.zero).parent.toNat=_
 rw [qu4 (λi hi e=>a i hi om) om]
 rfl
def qu5:kX s 0 c=[]:=rfl
theorem Z9 (hm:aR s g c≠[]):kX s g c=[]:=by
 cases g with
 |zero=>rfl
 |succ k=>
  show rC s c (k+1) (k+1)=_
  grind [rC]
def qnl (d:∀i,0<i->i<=g->d9 s.gs i):∀h∈kX s g c,0<h/\h<=g/\aR s h c=[]:=by
 induction g using aeT with
 | _ g e =>
  intro h a
  rcases acr g with b|b
  ·subst b;cases a
  ·by_cases hm:aR s g c=[]
   ·rw [Z8 d b hm] at a
    have f:=d g b (abr _)
    unfold d9 at f
    rcases abS.1 a with rfl|a
    ·exact ⟨b,abr _,hm⟩
    ·have:=e (s.gs.getD g Gr.zero).parent.toNat om (λi hi j=>d i hi om) h a
     exact ⟨this.1,by omega,this.2.2⟩
   ·rw [Z9 hm] at a;cases a
theorem qxt:∀(l:List Mb) (b:Mb),aM b l=b\/aM b l∈l
 |[],b=> .inl rfl
 |m::r,b=>by
  show aM (if m.lt b then m else b) r=b\/aM (if m.lt b then m else b) r∈m::r
  rcases qxt r (if m.lt b then m else b) with h|h
  ·grind
  ·exact .inr (acd _ h)
theorem zcb {l:List Mb} (a:l≠[]) (ht:∀m∈l,m.lt bJ=true):aM bJ l∈l:=by
 cases l with
 |nil=>exact absurd rfl a
 |cons m r=>
  show aM (if m.lt bJ then m else bJ) r∈m::r
  grind [qxt]
theorem MJ {m:Mb} (hm:m∈aR s g c):(∃t∈s.ts,t.here g c=true/\m=⟨t.v,0,t.id.toNat⟩)\/(∃h,g<h/\h<abn s.sp/\s.par h=g/\aR s h c≠[]/\m=⟨(s.spot h c).v,1,h⟩):=by grind [lD,Mq,vE,aco]
def yS (a:s.Ok) (g c:Nat):(s.spot g c).Ok:=by
 unfold bE.spot
 rcases ab5 g (abn s.sp) with h|h
 ·rcases ab5 c (abn (s.sp.getD g [])) with b|b
  ·exact a.sp _ (qf [] h) _ (qf Sp.zero b)
  ·rw [abt (l:=s.sp.getD g []),adL b]
   exact ⟨by decide,by decide,by decide⟩
 ·rw [abt (l:=s.sp),adL h]
  have e:(Option.none.getD ([]:List Sp)).getD c Sp.zero=Sp.zero:=rfl
  rw [e]
  exact ⟨by decide,by decide,by decide⟩
theorem zcc (a:s.Ok):∀m∈aR s g c,m.lt bJ=true:=by
 intro m hm
 unfold Mb.lt
 rw [decide_eq_true_eq]
 show m.v<18446744073709551615\/m.v=18446744073709551615/\(m.k<18446744073709551615\/_)
 rcases MJ hm with ⟨t,ht,_,rfl⟩|⟨h,_,_,_,_,rfl⟩
 ·have:=(a.ts t ht).v
  show t.v<_\/t.v=_/\(0<_\/_)
  omega
 ·have:=(yS a h c).v
  grind
theorem Q8 (a:s.Ok) (b:aR s g c≠[]):aM bJ (aR s g c)∈aR s g c:=zcb b (zcc a)
theorem MK (a:s.Ok) (b:aR s g c≠[]):((aM bJ (aR s g c)).k=0/\∃t∈s.ts,t.here g c=true/\aM bJ (aR s g c)=⟨t.v,0,t.id.toNat⟩)\/((aM bJ (aR s g c)).k=1/\∃h,(aM bJ (aR s g c)).id=h/\g<h/\h<abn s.sp/\s.par h=g/\aR s h c≠[]/\(aM bJ (aR s g c)).v=(s.spot h c).v):=by grind [Q8,MJ]
theorem qu7 (b:s.Ok):∀(n f a g:Nat),g<abn s.sp->abn s.sp-g<=n->n<=f->n<=a->xO s c f g=xO s c a g:=by
 intro n
 induction n with
 |zero=>intro f a g d e;omega
 |succ n h=>
  intro f a g d e i j
  obtain ⟨f,rfl⟩:∃k,f=k+1:=⟨f-1,by omega⟩
  obtain ⟨a,rfl⟩:∃k,a=k+1:=⟨a-1,by omega⟩
  rw [xO,xO]
  by_cases hm:aR s g c=[]
  ·grind
  ·grind [MK,aR]
def vU (s:bE) (c g:Nat):Nat:=xO s c (abn s.sp-g) g
def q56:o7 s c=vU s c 0:=rfl
theorem qln (b:g<abn s.sp) (hm:aR s g c=[]):vU s c g=0:=by
 unfold vU
 obtain ⟨k,a⟩:∃k,abn s.sp-g=k+1:=⟨abn s.sp-g-1,by omega⟩
 rw [a,xO,if_pos (by rw [hm];rfl)]
theorem qlo (a:g<abn s.sp) (hm:aR s g c≠[]) (b:(aM bJ (aR s g c)).k=0):vU s c g=(aM bJ (aR s g c)).id:=by
 unfold vU
 obtain ⟨k,d⟩:∃k,abn s.sp-g=k+1:=⟨abn s.sp-g-1,by omega⟩
 grind [xO]
theorem qlp (a:s.Ok) (l:g<abn s.sp) (hm:aR s g c≠[]) (b:(aM bJ (aR s g c)).k≠0):vU s c g=vU s c (aM bJ (aR s g c)).id/\g<(aM bJ (aR s g c)).id/\(aM bJ (aR s g c)).id<abn s.sp:=by
 rcases MK a hm with ⟨h,_⟩|⟨h,j,d,f,e,_⟩
 ·exact absurd h b
 ·rw [d]
  refine ⟨?_,f,e⟩
  unfold vU
  obtain ⟨k,i⟩:∃k,abn s.sp-g=k+1:=⟨abn s.sp-g-1,by omega⟩
  rw [i,xO,if_neg (by simpa using hm),if_neg b,d]
  exact qu7 a (abn s.sp-j) _ _ j e (abr _) om (abr _)
def gV (l:List Tk) (c:Nat):Int:=(l.map λt=>if t.ready&&decide (t.cpu=(c:Int)) then t.weight else (0:Int)).sum
theorem q01 {l:List Tk} (h:k<abn l):gV (l.take (k+1)) c=gV (l.take k) c+(if (l.getD k Tk.zero).ready&&decide ((l.getD k Tk.zero).cpu=(c:Int)) then (l.getD k Tk.zero).weight else (0:Int)):=by grind [Tk.zero,gV,yF]
theorem qlq {l:List Tk} (a:∀t∈l,1<=t.weight/\t.weight<=65536):0<=gV l c/\gV l c<=65536*abn l:=by
 induction l with
 |nil=>exact ⟨afM _,afM _⟩
 |cons t r b=>
  have e:=b λx d=>a x (acd _ d)
  grind [gV]
theorem qnm {l:List Tk} (a:∀t∈l,1<=t.weight/\t.weight<=65536) (k:Nat):0<=gV (l.take k) c/\gV (l.take k) c<=65536*abn l:=by
 have b:=qlq (c:=c) (l:=l.take k) λt ht=>a t (acf ht)
 grind
def q02 (h:k<abn l):gN s (l.take (k+1)) c=lX c (gN s (l.take k) c) (l.getD k 0):=by
 unfold gN
 rw [yF 0 h,List.foldl_append]
 rfl
end
def eP (gs:List Gr) (cp:Int) (rs:List Rw):Prop:=∀g,g<abn rs->((rs.getD g Rw.zero).l.length:Int)=cp/\∀z∈(rs.getD g Rw.zero).l,z.Ok/\bV z.v z.r (gs.getD g Gr.zero).weight=true
section
variable {x:aF} {ng nl nu nt ns g c:Nat}
def dO.spots (h:dO x ng nl nu nt ns):eP x.gs x.au x.rs:=λg a=>by
 have d:=Co a (h.sh.row g a)
 refine ⟨d.1,λz hz=>?_⟩
 obtain ⟨c,hc,rfl⟩:=aco hz
 have e:(x.rs.getD g Rw.zero).l.getD c Sp.zero=(x.rs.getD g Rw.zero).l[c]:=by rw [abt,abq hc];rfl
 refine ⟨h.ok.sp _ (by rw [<-jW a];exact qf [] (by rw [lG];exact a)) _ (ac5 hc),?_⟩
 have b:=d.2 c hc
 rw [e] at b
 unfold eu at b
 rw [abG] at b
 exact b.1
theorem eP.put {gs:List Gr} {cp:Int} (h:eP gs cp rs) (z:Sp) (hz:z.Ok) (d:bV z.v z.r (gs.getD g Gr.zero).weight=true):eP gs cp (aQ rs g c z):=λk a=>by
 rw [zl] at a
 by_cases b:g=k
 ·subst b
  rw [Ed a]
  refine ⟨by show (abn ((rs.getD g Rw.zero).l.set c z):Int)=cp;rw [abJ];exact (h g a).1,λy e=>?_⟩
  rcases abZ e with f|rfl
  ·exact (h g a).2 y f
  ·exact ⟨hz,d⟩
 ·rw [Ho b];exact h k a
def Q9 {z:Sp} (a:g<abn x.rs):({x with rs:=aQ x.rs g c z}:aF).av=x.av.xM g c z:=by
 unfold aF.av bE.xM
 simp only [zie a]
def xQ (a:g<abn x.rs) (hy:x.rs.getD g Rw.zero=⟨A,m,yl⟩) (hz:yl[c]?=some z):x.av.spot g c=z:=by
 rw [QB a,hy,abt,hz]
 rfl
def ML {z:Sp} (a:g<abn rs) (hy:rs.getD g Rw.zero=⟨A,m,yl⟩):(aQ rs g c z).getD g Rw.zero=⟨A,m,yl.set c z⟩:=by rw [Ed a,hy]
def q57 {p:Nat} {h:Sp} {pc:Nat} {pl:List Sp} {e:En} (a:g<abn x.rs) (hy:x.rs.getD g Rw.zero=⟨A,n,yl⟩) (hz:yl[c]?=some z) (i:(x.gs.getD g Gr.zero).parent=(p:Int)) (b:p<abn x.rs) (d:x.rs.getD p Rw.zero=⟨E,pc,pl⟩) (f:pl[c]?=some h) (j:(x.gs.getD g Gr.zero).weight=(m:Int)) (k:(⟨z.v,z.r,m⟩:En).woken h.floor x.aj=e):
  ({x with rs:=aQ x.rs g c {z with v:=e.v,r:=e.r}}:aF).av=lX c x.av g:=by
 rw [Q9 a]
 unfold lX bE.vJ
 have e1:x.av.j6 g c=⟨z.v,z.r,m⟩:=by
  unfold bE.j6
  rw [xQ a hy hz,show (x.av.gs.getD g Gr.zero).weight=(m:Int) from j]
  rfl
 have e2:(x.av.par g).toNat=p:=by rw [show x.av.par g=(p:Int) from i];rfl
 rw [e1,e2,xQ a hy hz,xQ b d f,show x.av.aj=x.aj from rfl,k]
def qu9 {e:En} (a:g<abn x.rs) (hy:x.rs.getD g Rw.zero=⟨A,n,yl⟩) (hz:yl[c]?=some z) (b:(x.gs.getD g Gr.zero).weight=(m:Int)) (f:(⟨z.v,z.r,m⟩:En).add d=e):
  ({x with rs:=aQ x.rs g c {z with v:=e.v,r:=e.r}}:aF).av=x.av.vJ g c ((x.av.j6 g c).add d):=by
 rw [Q9 a]
 unfold bE.vJ
 have e1:x.av.j6 g c=⟨z.v,z.r,m⟩:=by
  unfold bE.j6
  rw [xQ a hy hz,show (x.av.gs.getD g Gr.zero).weight=(m:Int) from b]
  rfl
 rw [e1,xQ a hy hz,f]
theorem aav {e:En} (h:e.Ok) (d:Nat):(e.add d).Ok/\(e.add d).w=e.w:=by
 have a:1<=e.w/\e.w<=65536/\e.r<e.w/\(e.v<18446744073709551615\/e.r=0):=by
  have:=h.1
  grind [bV]
 have b:=h.2
 have hm:=adW (d*1048576+e.r) (show e.w>0 by omega)
 unfold En.add
 have f:nJ=18446744073709551615:=rfl
 split
 ·refine ⟨⟨?_,by show nJ<_;omega⟩,rfl⟩
  grind [bV]
 ·refine ⟨⟨?_,by show e.v+_<_;omega⟩,rfl⟩
  grind [bV]
theorem aay {e:En} (h:e.Ok) (a cr:Nat) (b:a<18446744073709551616):(e.woken a cr).Ok/\(e.woken a cr).w=e.w:=by
 unfold En.woken
 split
 ·refine ⟨⟨?_,by show a-cr<_;omega⟩,rfl⟩
  have d:=h.1
  grind [bV]
 ·exact ⟨h,rfl⟩
theorem aaP {e:En} (h:e.Ok) (fr to:Nat) (b:to<18446744073709551616):(e.moved fr to).Ok/\(e.moved fr to).w=e.w:=by
 have a:=h.1
 unfold bV at a
 rw [decide_eq_true_eq] at a
 have d:=h.2
 have f:nJ=18446744073709551615:=rfl
 have hm:tH e.v fr to<18446744073709551616:=by
  grind [tH]
 refine ⟨⟨?_,hm⟩,rfl⟩
 unfold bV
 rw [decide_eq_true_eq]
 show (1:Int)<=(e.w:Int)/\(e.w:Int)<=65536/\(((if tH e.v fr to=nJ then 0 else e.r:Nat):Int))<(e.w:Int)/\(tH e.v fr to<18446744073709551615\/(if tH e.v fr to=nJ then 0 else e.r)=0)
 grind
def MP {l:List Gr} (h:dF l=true) (a:g<abn l):∃w:Nat,(l.getD g Gr.zero).weight=(w:Int)/\1<=w/\w<=65536:=by
 have:=pQ h a
 exact ⟨(l.getD g Gr.zero).weight.toNat,by omega,by omega,by omega⟩
end
theorem qnn {s s':bE} (ht:s.ts=s'.ts) (b:s.gs=s'.gs) (a:abn s.sp=abn s'.sp) (e:∀h,(s.spot h c).v=(s'.spot h c).v) (g:Nat):aR s g c=aR s' g c:=by
 have key:∀f g,lF s c f g=lF s' c f g:=by
  intro f
  induction f with
  |zero=>intro g;show s.ts.filterMap _=s'.ts.filterMap _;rw [ht]
  |succ f i=>
   grind [bE.par,Qo,lD,lF]
 unfold aR
 rw [a]
 exact key _ g
section
variable {x:aF} {ng nl nu nt ns g c h d:Nat} {jL:List Rw}
def jv (x:aF) (jL:List Rw) (g c:Nat):Prop:=abn jL=abn x.rs/\(∀h,(jL.getD h Rw.zero).l.length=(x.rs.getD h Rw.zero).l.length)/\∀h d,h<abn x.rs->d<(x.rs.getD h Rw.zero).l.length->(jL.getD h Rw.zero).l.getD d Sp.zero=if h<g\/h=g/\d<c then iH x.av h d ((x.rs.getD h Rw.zero).l.getD d Sp.zero) else (x.rs.getD h Rw.zero).l.getD d Sp.zero
def q03:jv x x.rs 0 0:=⟨rfl,λ_=>rfl,λh d _ _=>by rw [if_neg om]⟩
theorem q58 (s:bE) (g c:Nat) (z:Sp):(iH s g c z).v=z.v/\(iH s g c z).r=z.r:=by
 unfold iH
 split<;>exact ⟨rfl,rfl⟩
theorem qxv (y:aF) (h d:Nat):y.av.spot h d=(y.rs.getD h Rw.zero).l.getD d Sp.zero:=by grind [Rw.zero,bE.spot,lG,QB]
theorem zif (a:jv x jL g c) (h d:Nat):(({x with rs:=jL}:aF).av.spot h d).v=(x.av.spot h d).v:=by
 rw [qxv,qxv]
 show ((jL.getD h Rw.zero).l.getD d Sp.zero).v=_
 rcases ab5 h (abn x.rs) with b|b
 ·rcases ab5 d (x.rs.getD h Rw.zero).l.length with e|e
  ·rw [a.2.2 h d b e]
   split
   ·exact (q58 ..).1
   ·rfl
  ·have f:=a.2.1 h
   grind
 ·have e1:jL.getD h Rw.zero=Rw.zero:=by rw [abt,adL (by rw [a.1];exact b)];rfl
  grind
def q59 (a:jv x jL g c) (h d:Nat):aR ({x with rs:=jL}:aF).av h d=aR x.av h d:=
 qnn (s:=({x with rs:=jL}:aF).av) (s':=x.av) rfl rfl (by rw [lG,lG];exact a.1) (λk=>zif a k d) h
def uz {α:Type} {l:List α} {u:α} (d:α) (h:l[k]?=some u):l.getD k d=u:=by rw [abt,h];rfl
theorem q04 (a:jv x jL g c) (f:g<abn x.rs) (hc:c<(x.rs.getD g Rw.zero).l.length) {z b:Sp} (hz:(jL.getD g Rw.zero).l[c]?=some z) (k:iH x.av g c z=b):jv x (aQ jL g c b) g (c+1):=by
 have m:=a.2.2 g c f hc
 rw [if_neg om,uz Sp.zero hz] at m
 refine ⟨by rw [zl];exact a.1,λh=>?_,λh d i j=>?_⟩
 ·by_cases e:g=h
  ·subst e
   rw [Ed (by rw [a.1];exact f)]
   show abn ((jL.getD g Rw.zero).l.set c b)=_
   rw [abJ];exact a.2.1 g
  ·rw [Ho e];exact a.2.1 h
 ·by_cases e:g=h
  ·subst e
   rw [Ed (by rw [a.1];exact f)]
   show ((jL.getD g Rw.zero).l.set c b).getD d Sp.zero=_
   by_cases e2:c=d
   ·grind
   ·rw [getD_set_ne _ _ e2,a.2.2 g d i j]
    grind
  ·rw [Ho e,a.2.2 h d i j]
   grind
theorem q05 (a:jv x jL g c) (hm:aR x.av g c=[]):jv x jL g (c+1):=by
 refine ⟨a.1,a.2.1,λh d b e=>?_⟩
 rw [a.2.2 h d b e]
 grind [iH]
theorem q6a (a:jv x jL g c) (hc:(x.rs.getD g Rw.zero).l.length<=c):jv x jL (g+1) 0:=by
 refine ⟨a.1,a.2.1,λh d b e=>?_⟩
 rw [a.2.2 h d b e]
 grind
theorem q6b (a:jv x jL g 0) (m:abn x.rs<=g):({x with rs:=jL}:aF).av=fF x.av:=by
 have i:jL.map aeR=(x.rs.map aeR).mapIdx λg l=>l.mapIdx λc z=>iH x.av g c z:=by
  apply afz
  ·rw [abx,aeV,abx,a.1]
  ·intro h b n
   rw [abx] at b
   have f:h<abn x.rs:=by rw [<-a.1];exact b
   rw [agy,aeK,agy]
   have e1:jL.getD h Rw.zero=jL[h]:=by rw [abt,abq b];rfl
   have e2:x.rs.getD h Rw.zero=x.rs[h]:=by rw [abt,abq f];rfl
   have e:=a.2.1 h
   rw [e1,e2] at e
   apply afz
   ·rw [aeV,e]
   ·intro d j o
    have k:d<x.rs[h].l.length:=by rw [<-e];exact j
    rw [aeK]
    have p:=a.2.2 h d f (by rw [e2];exact k)
    grind
 show (⟨x.au,x.aj,x.gs,x.cl,x.cu,x.ts,jL.map aeR⟩:bE)=_
 rw [i]
 rfl
def zig (a:bY x) (z:Sp):bY ({x with rs:=aQ x.rs g c z}:aF):=by
 refine ⟨a.g,a.l,a.u,a.t,by show abn (aQ x.rs g c z)<=_;rw [zl];exact a.s,λy i=>?_⟩
 rcases ab5 g (abn x.rs) with f|f
 ·rcases abZ i with j|rfl
  ·exact a.r y j
  ·show abn ((x.rs.getD g Rw.zero).l.set c z)<=_
   rw [abJ]
   exact a.r _ (qf Rw.zero f)
 ·have e:aQ x.rs g c z=x.rs:=by unfold aQ;exact List.set_eq_of_length_le f
  have b:y∈aQ x.rs g c z:=i
  rw [e] at b
  exact a.r y b
theorem dO.put (h:dO x ng nl nu nt ns) (j:g<abn x.rs) (z:Sp) (hz:z.Ok) (hs:eu x.av g z=true):dO ({x with rs:=aQ x.rs g c z}:aF) ng nl nu nt ns:=by
 have f:=Q9 (x:=x) (c:=c) (z:=z) j
 have b:({x with rs:=aQ x.rs g c z}:aF).av.sp.length=abn x.av.sp:=by rw [lG,lG];exact zl ..
 refine ⟨⟨h.ok.au,h.ok.aj,h.ok.gs,h.ok.cl,h.ok.cu,h.ok.ts,λl m y n=>?_⟩,zig h.few z,⟨h.sh.cfg,h.sh.cl,h.sh.cu,by show abn (aQ x.rs g c z)=_;rw [zl];exact h.sh.rs,h.sh.cls,λk o=>?_,λi hi=>?_⟩,⟨h.ln.g,h.ln.l,h.ln.u,h.ln.t,by show abn (aQ x.rs g c z)=_;rw [zl];exact h.ln.s⟩⟩
 ·rw [f] at m
  rcases abZ (show l∈x.av.sp.set g ((x.av.sp.getD g []).set c z) from m) with a|rfl
  ·exact h.ok.sp l a y n
  ·rcases abZ n with p|rfl
   ·exact h.ok.sp _ (qf [] (by rw [lG];exact j)) y p
   ·exact hz
 ·have e:k<abn x.rs:=by have a:k<abn (aQ x.rs g c z):=o;rwa [zl] at a
  have a:=Co e (h.sh.row k e)
  refine Zc o ?_ λd q=>?_
  ·grind [Rw.zero,aQ,Ed,Ho]
  ·have r:d<((aQ x.rs g c z).getD k Rw.zero).l.length:=q
   show eu x.av k (((aQ x.rs g c z).getD k Rw.zero).l.getD d Sp.zero)=true
   grind [Rw.zero,Sp.zero,getD_set_ne,q9,Ed,Ho,eu]
 ·have a:=h.sh.tk i hi
  unfold jg dX at a⊢
  rw [b]
  exact a
end
def Yk (b:Bk) (l:b.Ok) (A:Option Addr) (c B:Nat) (w:World) (p:aT B w) (g:B<=w.heap.size) (hr:Rd w w.heap.size 11 A (abn b.evs) (b.evs.flatMap eD)) (u:abn b.evs<=1000000):
    Calls abo 106 #[.agg (b.cells A c)] w (zr w b.err b.out):=by
 refine (eF Tryz.func106 36) ?_
 refine (JP∘JE) λP Q=>(bM 2∘JQ∘JP∘dZ aG O0∘JI (h:=by exact λd=>F3 b l A c B _ (p.mem d g) (d.le g) (d.old hr) u)) λR C=>(Jp 1∘bQ∘Jj) (Ju (λo=>?_) λo=>?_)
 ·
  have e:b.fits=false:=by simpa using o
  exact (JT∘bF 2∘bO) λd=>Yb (by unfold Bk.err;rw [if_pos e]) de d.below
 have e:b.fits=true:=by simpa using o
 have D:=PG b
 refine (aU∘JP∘dZ aG O0∘JK (h:=by exact λd=>za7 b l A c B _ (p.mem d g) (d.le g) (d.old hr) u e)) λE F G x=>(Jp 1∘bQ∘bA 1∘Jl∘Jp 1∘Jo (vI (8+(abn (b.body)):Nat)) (by exact za om om)∘dx 4∘Jp 1∘gq∘Jj∘bN 2∘aK∘Jj) (Ji (λr=>?_) λr=>?_)
 ·
  exact (JT∘bF 2∘bO) λd=>Yb (by unfold Bk.err;rw [if_neg (by simp [e]),if_pos om]) de d.below
 refine (aU∘aJ 1∘Jv 1 [(19,vB (IntKind.u8.wrap ((8+(abn (b.body))+4:Nat):Int)))]∘Jo (vB ((8+(abn (b.body))+4)%256:Nat)) (by exact DK (8+(abn (b.body))+4))∘Jp 2∘Jo (vI ((8+(abn (b.body))+4)/256:Nat)) (by exact uf .i64 (8+(abn (b.body))+4) (j:=8) (q:=256) rfl rfl)∘Jv 1 [(22,vB (IntKind.u8.wrap (((8+(abn (b.body))+4)/256:Nat):Int)))]∘Jo (vB (((8+(abn (b.body))+4)/256)%256:Nat)) (by exact DK ((8+(abn (b.body))+4)/256))∘Jy (v:=vP 0 0) (h:=by exact Yl.sP (ad:=⟨0,0,none⟩) (m:=2) (y:=0) (sz:=1) rfl rfl rfl kr de)∘Jy (v:=vB 113) (h:=by exact Pd rfl rfl kr (λ_ h=>(p.mem h g).qZ))∘Jy (v:=vP 0 1) (h:=by exact Yl.sP (ad:=⟨0,0,none⟩) (m:=2) (y:=1) (sz:=1) rfl rfl rfl kr de)∘Jy (v:=vB 116) (h:=by exact Pd rfl rfl kr (λ_ h=>(p.mem h g).ru))∘Jg 0 O1∘JU bn #[vB ((8+(abn (b.body))+4)%256:Nat),vB (((8+(abn (b.body))+4)/256)%256:Nat),vB 0,vB 0,vB 113,vB 116,vB 1,vB b.kind]) λH I=>(Jp 1∘aH∘bA 2∘JC (h:=by exact λd=>d.fu (i:=0) (n:=8) (size:=1) rfl rfl de)∘JD (b.body.map B8) 0 (λ_ _=>aO) bn (hr:=by exact λd=>d.rd (i:=1) rfl) (h1:=by exact sO _)) λJ K L z=>λa Z d=>?_
 rw [show ((#[vB ((8+(abn (b.body))+4)%256:Nat),vB (((8+(abn (b.body))+4)/256)%256:Nat),vB 0,vB 0,vB 113,vB 116,vB 1,vB b.kind]).toList)++(b.body.map B8)=b.raw.map B8 from q4n om] at d
 refine Jb Z d ((JK (h:=by exact λd=>Px _ _ _ b.raw B _ (p.mem d g) (d.le g) (d.rd (i:=0) rfl) (LV b) om (Ya l))) λM N O s=>(Jx∘Jx∘bM 2∘JZ∘JM (.t (.f .n))) ?_)
 have k:b.err=0:=by unfold Bk.err;rw [if_neg (by simp [e]),if_neg om]
 exact (bO) λd=>by exact (by rw [k,F4 k];exact ⟨⟨_,_,rfl,d.own (i:=0) rfl,s⟩,d.below⟩)
def q0a (b:Bk) (a:b.Ok) (A:Option Addr) (c B:Nat) (w:World) (f:aT B w) (e:B<=w.heap.size) (hr:Rd w w.heap.size 11 A (abn b.evs) (b.evs.flatMap eD)) (g:abn b.evs<=1000000):
    Calls abo 45 #[.agg (b.cells A c)] w (Is w (vI (b.err:Int))):=by
 refine (eF Tryz.func45 11) ?_
 exact (JP∘JE) λj k=>(Jp 1∘Jr∘dZ aG O0∘JK (h:=by exact λd=>Yk b a A c B _ (f.mem d e) (d.le e) (d.old hr) g)) λl m n i=>(Jp 1∘Jx∘Jx∘Jp 2∘aH∘bA 2∘bQ∘aP) uj
def DZ (W w:World) (i k:Nat) (A:Option Addr) (n c:Nat) (l:List Nat) (o:Bool) (most:Nat) (fr:List Fact) (x:∀b∈l,b<256) (e:n=abn l) (D:n<=1000000000) (r:Rd W W.heap.size 1 A n (l.map B8)) (s:n<=c) (t:most<=281474976710657)
    (d:Mem W w (.blk i #[.slice A n c] 30:: .blk k #[.bool o] 4::fr)):
    Calls abo 249 #[vI most,vP i 0,vP k 0] w (Yd W i k l o most fr):=by
 have q:Rd W W.heap.size 1 A (abn l) (l.map B8):=e▸r
 have hc:abn l<=c:=e▸s
 refine oD Tryz.func249 [vI most,vP i 0,vP k 0] [(0,vI most),(1,vP i 0),(2,vP k 0)] λa Z=>?_
 refine Jb Z d ((aJ 1∘Jq) ?_)
 have y:=xg l
 have z:=qc6 l x
 have B:=qJ most l
 refine (JG∘JP∘Jc O0∘JL (h:=by exact λd=>K3 A n c l _ (e▸d.old q) x om)) ?_
 rintro d _ C ⟨rfl,u⟩
 refine ⟨_,rfl,_,d.call u,?_⟩
 refine (Jp 1∘Jx∘Jx∘Jx∘Jp 3∘Jr∘Jc O1∘Jp 1) (Ju (λf=>?_) λf=>?_)
 ·
  refine (Jp 4) (Je (λp=>?_) λp=>?_)
  ·
   exact (Jp 2∘Jw .u64∘Jp 2∘JW fJ aO) λg=>(iQ∘Jr∘Jc O0∘Jp 1∘Jy (h:=by exact aae bn (j:=((aD l).2.1)) rfl rfl rfl om)∘JW aO aO) λm=>(iQ∘bA 2∘Jw .u64∘Jy (v:=vQ (if (most:Int)<((aD l).1:Int) then (most:Int) else ((aD l).1:Int))) (h:=by exact Yl.min rfl rfl rfl)∘Jo (vQ (aA most l)) (by rw [DX])∘Jw .i64∘Jp 1∘aH∘aP∘JC (h:=by exact λd=>d.pt (fs':=(ahF i (if c=((aD l).2.1) then A else A.map (·.add (((aD l).2.1)*1))) (n- ((aD l).2.1)) (c- ((aD l).2.1))::aii k (decide (((aD l).1:Int)<=(most:Int)))::fr)) 2 [0,1])∘bC) λd=>PK q hc (by rw [f,ab8];unfold aZ;rw [abY];simp only [decide_eq_true_eq];omega) e d
  exact (Jp 5∘JW fJ aO) λg=>(iQ∘Jr∘Jc O0∘Jp 1∘Jy (h:=by exact aae bn (j:=((aD l).2.1)) rfl rfl rfl om)∘JW aO aO) λm=>(iQ∘bA 2∘Jw .u64∘Jy (v:=vQ (if (most:Int)<((aD l).1:Int) then (most:Int) else ((aD l).1:Int))) (h:=by exact Yl.min rfl rfl rfl)∘Jo (vQ (aA most l)) (by rw [DX])∘Jw .i64∘Jp 1∘aH∘aP∘JC (h:=by exact λd=>d.pt (fs':=(ahF i (if c=((aD l).2.1) then A else A.map (·.add (((aD l).2.1)*1))) (n- ((aD l).2.1)) (c- ((aD l).2.1))::.blk k #[.bool false] 4::fr)) 2 [0,1])∘bC) λd=>PK q hc (by rw [Yc om,adt]) e d
 exact (Jv 9 [(24,.bool false)]∘JW fJ aO) λg=>(xE∘Jr∘Jc O0∘Jp 1∘Jy (h:=by exact aae bn (j:=((aD l).2.1)) rfl rfl rfl om)∘JW aO aO) λm=>(xE∘bA 2∘Jw .u64∘Jy (v:=vQ (if (most:Int)<((aD l).1:Int) then (most:Int) else ((aD l).1:Int))) (h:=by exact Yl.min rfl rfl rfl)∘Jo (vQ (aA most l)) (by rw [DX])∘Jw .i64∘Jp 1∘kW∘aP∘JC (h:=by exact λd=>d.pt (fs':=(ahF i (if c=((aD l).2.1) then A else A.map (·.add (((aD l).2.1)*1))) (n- ((aD l).2.1)) (c- ((aD l).2.1))::.blk k #[.bool false] 4::fr)) 2 [0,1])∘bC) λd=>PK q hc (by rw [f,ads]) e d
def L8 {es:List Ev} {L:Nat} (b:uq l=true) (c:0<aA 4096 (qd (qd l)))
  (d:gL ⟨(aA 281474976710656 (qd (qd (qd l))):Int),(aA 281474976710656 (qd (qd (qd (qd l)))):Int)⟩ (aA 63 l) (aA 4096 (qd (qd l)):Int) (qd (qd (qd (qd (qd l)))))=(es,L,er)) (a:er=0):
  zb l=tu (aA 63 l) (aA 281474976710656 (qd l)) (qd (qd (qd l))) (es,L,0):=by
 rw [Yf b c d,a]
abbrev ahG:=λa=>(.blk a #[vB 0,vB 0,vI 0,vI 0,vN] 85:Fact)
abbrev ah0:=λa b c=>(.blk a #[vB (1:Nat),vB b,vI c,vI 0,vN] 85:Fact)
abbrev ah8:=λa b c d e=>((9,vI a)::(18,.bool false)::(8,vP b 0)::(7,.func (.func 249) #[] #[vP c 0,vP d 0])::(6,vP d 0)::e:List (Nat×Go.Value))
abbrev aiz:Array Go.Value:=#[vB 0,vB 0,vI 0,vI 0,vN]
abbrev aiG:Array Go.Value:=#[vB (1:Nat),vB 0,vI 0,vI 0,vN]
def Ae (k:Nat) (hk:k=1\/k=2) (A:Option Addr) (n c:Nat) (l:List Nat) (B:Nat) (w:World) (hL:aT B w) (T:B<=w.heap.size) (hr:Rd w w.heap.size 1 A n (l.map B8)) (hc:n<=c) (hln:n=abn l) (hn:n<=100000000) (hl:∀b∈l,b<256):
    Calls abo 182 #[vB k,.slice A n c] w (BX w (uw k l)):=by
 refine (jf Tryz.func182 99) ?_
 refine (JP∘uT) λw3 q=>(JA aiz) λw4 E=>(Jp 1∘Jr∘JA #[.bool false]) λw6 r=>(JW aO aO) λaij=>(Jr∘Jy (h:=by exact Yl.makeFunc (fst:=[]) (caps:=[vP q 0,vP r 0]) rfl rfl rfl)∘Jp 1∘aK∘bA 1∘eH #[vB k,vB 0,vI 0,vI 0,vN]∘JA aiz) λw8 F=>(JV aG aO) λaik=>(bQ∘Jj∘bN 2∘aK∘Jj) (Je (λCc=>?_) λCc=>?_)
 ·
  obtain rfl:k=2:=by omega
  refine (JT∘aJ 1) λa Z d=>?_
  refine fo Z 1 rfl rfl ?_
  replace d:=d.pk (fs':=[ahF q A n c,.blk r #[.bool true] 4,.blk F #[vB (2:Nat),vB 0,vI 0,vI 0,vN] 85,ahG E]) [3,1,0,2]
  have hl1:=uZ hl
  refine zg Z (f:=249) (vs:=[vI 281474976710657]) (fst:=[]) (caps:=[vP q 0,vP r 0]) rfl rfl rfl kr rfl de (DZ w _ q r A n c l true 281474976710657 [.blk F #[vB (2:Nat),vB 0,vI 0,vI 0,vN] 85,ahG E] hl hln om hr hc om d) ?_
  rintro _ FN ⟨rfl,U,V,hr1,hc1,hm⟩
  refine ⟨_,rfl,?_⟩
  replace d:=hm
  clear Z;intro a Z
  have ht0:=qJ 281474976710657 l
  have hs0:=DY l
  refine Jb Z d ((Jf 3∘JW iq oV) λCe=>(nT∘Jj) λa Z d=>?_)
  refine qz (λW X=>Fr W 99 [] [(5,.bool ((tq l).isSome)),(18,.bool true),(8,vP F 0),(7,.func (.func 249) #[] #[vP q 0,vP r 0]),(6,vP r 0),(4,vP E 0),(3,vP q 0),(0,vB (2:Nat))]/\Mem w X [.blk q #[abk U (qd l) V] 30,aii r (true&&aZ 281474976710657 l),.blk F #[vB (2:Nat),vB 0,vI 0,vI (aA 281474976710657 l),vN] 85,.blk E #[vB (2:Nat),vB 0,vI 0,vI (aA 281474976710657 l),vN] 85]) ?_ ?_
  ·
   refine Jb Z d ((Vs (.t (.t (.t (.f .n)))) []) λGb=>(nH 0 aG O2∘Vc 1 O1∘Vp [2]) λa Z d e=>?_)
   rcases Z.tf 24 rfl with ⟨N,Z⟩|⟨N,Z⟩
   ·
    refine Vb Z d e ((Vc 3 O0∘Vl 4∘Vp [5,6,7]) λa Z d e=>?_)
    rcases Z.tf 29 rfl with ⟨O,Z⟩|⟨O,Z⟩
    ·
     have hd29:=eq_of_beq O
     refine Vb Z d e ((nH 8 aG O2∘VI 9 (.t (.t (.t (.f .n)))) (h:=by exact λd=>F3 ⟨2,0,0,(aA 281474976710657 l:Int),[]⟩ (F6 ht0) none 0 B _ (hL.mem d T) (d.le T) Rd.nil (by show 0<=_;omega))) λGc hbw=>(Vp [10]) λa Z d e=>?_)
     refine s_on Z 11 rfl (bT Z d 3 rfl rfl rfl rfl rfl aG rfl rfl (by simp [abR]) λP d=>?_)
     refine ay (d.pk [0,1,2]) (λe=>?_)
     refine Vb Z d e ((Vp [12]∘Vd∘aH) λa Z d=>?_)
     have Z:=Z.sp 5 (.bool ((tq l).isSome)) rfl (congrArg abM (by rw [PL,show aZ 281474976710657 l=true by simpa using N,decide_eq_true om,ab8,ab8]))
     exact ⟨Z.sub kr,d.pk [0,1,2,3]⟩
    have hd29:=ne_of_beq_false O
    refine ap Z (λ_=>e) [8,9,10] (bt 13 [11,12]) [(32,.bool false)] λa Z=>?_
    refine s_on Z 11 rfl (bT Z d 3 rfl rfl rfl rfl rfl aG rfl rfl (by simp [abR]) λP d=>?_)
    refine ay (d.pk [0,1,2]) (λe=>?_)
    refine ap Z (λ_=>e) [12] (bt 13 []) [(5,.bool false)] λa Z=>?_
    refine qe kr ?_
    have Z:=Z.sp 5 (.bool ((tq l).isSome)) rfl (congrArg abM (by rw [PL,decide_eq_false om,ads,adt]))
    exact ⟨Z.sub kr,d.pk [0,1,2,3]⟩
   refine ap Z (λ_=>e) [3,4,5,6,7,8,9,10] (bt 13 [11,12]) [(32,.bool false)] λa Z=>?_
   refine s_on Z 11 rfl (bT Z d 3 rfl rfl rfl rfl rfl aG rfl rfl (by simp [abR]) λP d=>?_)
   refine ay (d.pk [0,1,2]) (λe=>?_)
   refine ap Z (λ_=>e) [12] (bt 13 []) [(5,.bool false)] λa Z=>?_
   refine qe kr ?_
   have Z:=Z.sp 5 (.bool ((tq l).isSome)) rfl (congrArg abM (by rw [PL,show aZ 281474976710657 l=false by simpa using N];rfl))
   exact ⟨Z.sub kr,d.pk [0,1,2,3]⟩
  clear Z d;rintro a w6 ⟨Z,d⟩
  refine Jb Z d ((JZ) (Ju (λs=>?_) λs=>?_))
  ·
   have g:=s
   intro a Z d
   exact dI rfl Z (.cellS (i:=3) Z d rfl rfl aG rfl) (.tmp Z rfl) (LX (b:=⟨2,0,0,(aA 281474976710657 l:Int),[]⟩) (A:=none) (c:=0) (by rw [Ye];exact qrf g) (acA _ _ _ _) (abr _) d.below)
  have g:=s
  intro a Z d
  exact dI rfl Z (.cellS (i:=3) Z d rfl rfl aG rfl) (.tmp Z rfl) (F5 (by rw [Ye];exact adl.1 (by rw [g];decide)) rfl (by simp [abR]) d.below)
 obtain rfl:k=1:=by omega
 refine (aU∘aJ 1) λa Z d=>?_
 refine fo Z 1 rfl rfl ?_
 replace d:=d.pk (fs':=[ahF q A n c,.blk r #[.bool true] 4,.blk F aiG 85,ahG E]) [3,1,0,2]
 have hl1:=uZ hl
 refine zg Z (f:=249) (vs:=[vI 63]) (fst:=[]) (caps:=[vP q 0,vP r 0]) rfl rfl rfl kr rfl de (DZ w _ q r A n c l true 63 [.blk F aiG 85,ahG E] hl hln om hr hc om d) ?_
 rintro _ PZ ⟨rfl,U,V,hr1,hc1,hm⟩
 refine ⟨_,rfl,?_⟩
 replace d:=hm
 clear Z;intro a Z
 have ht0:=qJ 63 l
 have hs0:=DY l
 refine Jb Z d ((Jv 1 [(35,vB (IntKind.u8.wrap (aA 63 l:Int)))]∘Jo (vB (aA 63 l)) (by exact Wt rfl om)∘Jp 1) λa Z d=>?_)
 refine fo Z 4 rfl rfl ?_
 replace d:=d.pk (fs':=[.blk q #[abk U (qd l) V] 30,aii r (true&&aZ 63 l),.blk F aiG 85,ahG E]) [0,1,2,3]
 have hl2:=uZ hl1
 refine zg Z (f:=249) (vs:=[vI 281474976710656]) (fst:=[]) (caps:=[vP q 0,vP r 0]) rfl rfl rfl kr rfl de (DZ w _ q r U (abn (qd l)) V (qd l) (true&&aZ 63 l) 281474976710656 [.blk F aiG 85,ahG E] hl1 rfl om hr1 hc1 om d) ?_
 rintro _ D5 ⟨rfl,Yr,Yt,hr2,hc2,hm⟩
 refine ⟨_,rfl,?_⟩
 replace d:=hm
 clear Z;intro a Z
 have ht1:=qJ 281474976710656 (qd l)
 have hs1:=DY (qd l)
 refine Jb Z d ((Jf 1∘JW iq fJ) λP5=>(Jf 2∘JW iq iq) λail=>(iQ∘bA 1) λa Z d=>?_)
 refine fo Z 1 rfl rfl ?_
 replace d:=d.pk (fs':=[.blk q #[abk Yr (qd (qd l)) Yt] 30,aii r ((true&&aZ 63 l)&&aZ 281474976710656 (qd l)),ah0 F (aA 63 l) (aA 281474976710656 (qd l)),ahG E]) [0,1,2,3]
 have hl3:=uZ hl2
 refine zg Z (f:=249) (vs:=[vI 4096]) (fst:=[]) (caps:=[vP q 0,vP r 0]) rfl rfl rfl kr rfl de (DZ w _ q r Yr (abn (qd (qd l))) Yt (qd (qd l)) ((true&&aZ 63 l)&&aZ 281474976710656 (qd l)) 4096 [ah0 F (aA 63 l) (aA 281474976710656 (qd l)),ahG E] hl2 rfl om hr2 hc2 om d) ?_
 rintro _ w41 ⟨rfl,Y,L9,hr3,hc3,hm⟩
 refine ⟨_,rfl,?_⟩
 replace d:=hm
 clear Z;intro a Z
 have ht2:=qJ 4096 (qd (qd l))
 have hs2:=DY (qd (qd l))
 refine Jb Z d ((Jp 1∘dY∘Jj∘JQ∘JP∘Jc O1∘Jp 1) (Ju (λQ=>?_) λQ=>?_))
 ·
  have K:uq l=true:=by rw [<-tk3];exact Q
  refine (Jp 3∘gq∘Jj) (Ji (λBQ=>?_) λBQ=>?_)
  ·
   refine (JT∘aJ 1) λa Z d=>?_
   refine fo Z 1 rfl rfl ?_
   replace d:=d.pk (fs':=[ahF q Y (abn (qd (qd (qd l)))) L9,aii r (((true&&aZ 63 l)&&aZ 281474976710656 (qd l))&&aZ 4096 (qd (qd l))),ah0 F (aA 63 l) (aA 281474976710656 (qd l)),ahG E]) [0,1,2,3]
   have hl4:=uZ hl3
   refine zg Z (f:=249) (vs:=[vI 281474976710656]) (fst:=[]) (caps:=[vP q 0,vP r 0]) rfl rfl rfl kr rfl de (DZ w _ q r Y (abn (qd (qd (qd l)))) L9 (qd (qd (qd l))) (((true&&aZ 63 l)&&aZ 281474976710656 (qd l))&&aZ 4096 (qd (qd l))) 281474976710656 [ah0 F (aA 63 l) (aA 281474976710656 (qd l)),ahG E] hl3 rfl om hr3 hc3 om d) ?_
   rintro _ BU ⟨rfl,Yu,Yv,hr4,hc4,hm⟩
   refine ⟨_,rfl,?_⟩
   replace d:=hm
   clear Z;intro a Z
   have ht3:=qJ 281474976710656 (qd (qd (qd l)))
   have hs3:=DY (qd (qd (qd l)))
   refine Jb Z d ((Jp 1) λa Z d=>?_)
   refine fo Z 3 rfl rfl ?_
   replace d:=d.pk (fs':=[ahF q Yu (abn (qd (qd (qd (qd l))))) Yv,aii r ((((true&&aZ 63 l)&&aZ 281474976710656 (qd l))&&aZ 4096 (qd (qd l)))&&aZ 281474976710656 (qd (qd (qd l)))),ah0 F (aA 63 l) (aA 281474976710656 (qd l)),ahG E]) [0,1,2,3]
   have hl5:=uZ hl4
   refine zg Z (f:=249) (vs:=[vI 281474976710656]) (fst:=[]) (caps:=[vP q 0,vP r 0]) rfl rfl rfl kr rfl de (DZ w _ q r Yu (abn (qd (qd (qd (qd l))))) Yv (qd (qd (qd (qd l)))) ((((true&&aZ 63 l)&&aZ 281474976710656 (qd l))&&aZ 4096 (qd (qd l)))&&aZ 281474976710656 (qd (qd (qd l)))) 281474976710656 [ah0 F (aA 63 l) (aA 281474976710656 (qd l)),ahG E] hl4 rfl om hr4 hc4 om d) ?_
   rintro _ FJ ⟨rfl,Ma,Mc,hr5,hc5,hm⟩
   refine ⟨_,rfl,?_⟩
   replace d:=hm
   clear Z;intro a Z
   have ht4:=qJ 281474976710656 (qd (qd (qd (qd l))))
   have hs4:=DY (qd (qd (qd (qd l))))
   refine Jb Z d ((eH #[vI (aA 281474976710656 (qd (qd (qd l)))),vI (aA 281474976710656 (qd (qd (qd (qd l)))))]∘JA #[vI 0,vI 0]) λqY M=>(JV ⟨kr,kr⟩ aO) λYw=>(kW∘Jq) ?_)
   obtain ⟨es,L,er,hq⟩:∃es L er,gL ⟨(aA 281474976710656 (qd (qd (qd l))):Int),(aA 281474976710656 (qd (qd (qd (qd l)))):Int)⟩ (aA 63 l) (aA 4096 (qd (qd l)):Int) (qd (qd (qd (qd (qd l)))))=(es,L,er):=⟨_,_,_,rfl⟩
   refine (JG∘JP∘dZ ⟨kr,kr⟩ O0∘Jg 1 O3∘Jp 1∘Jc O1∘JK (h:=by exact λd=>zhc ⟨(aA 281474976710656 (qd (qd (qd l))):Int),(aA 281474976710656 (qd (qd (qd (qd l)))):Int)⟩ (aA 63 l) om Ma (abn (qd (qd (qd (qd (qd l)))))) Mc (aA 4096 (qd (qd l)):Int) (by unfold aW;omega) (qd (qd (qd (qd (qd l))))) B _ (hL.mem d T).laid (d.le T) (d.old hr5) hc5 hl5 om (.inl om) hq)) λz u Gd P6=>(Jp 1∘Jx∘Jx∘Jx∘bM 3∘JQ) λa Z d=>?_
   refine qz (λW X=>Fr W 99 [] ((81,.bool (!(decide (er=0/\(es.getD 0 Ev.zero).seq=(aA 281474976710656 (qd (qd (qd l))):Int)/\(es.getD 0 Ev.zero).time=(aA 281474976710656 (qd (qd (qd (qd l)))):Int)))))::(12,vI L)::(11,abk z es u)::(10,vP M 0)::(46,.bool true)::ah8 (aA 4096 (qd (qd l))) F q r [(5,.bool false),(4,vP E 0),(3,vP q 0),(0,vB (1:Nat))])/\Mem w X [abm z es u eD 73 11,.blk M #[vI (aA 281474976710656 (qd (qd (qd l)))),vI (aA 281474976710656 (qd (qd (qd (qd l)))))] 110,ahF q Ma (abn (qd (qd (qd (qd (qd l)))))) Mc,aii r (((((true&&aZ 63 l)&&aZ 281474976710656 (qd l))&&aZ 4096 (qd (qd l)))&&aZ 281474976710656 (qd (qd (qd l))))&&aZ 281474976710656 (qd (qd (qd (qd l))))),ah0 F (aA 63 l) (aA 281474976710656 (qd l)),ahG E]) ?_ ?_
   ·
    refine Jb Z d ((Vs .n []) λGf=>(Vp [0,1,2]) λa Z d e=>?_)
    rcases Z.tf 64 rfl with ⟨R,Z⟩|⟨R,Z⟩
    ·
     have P7:=bne_iff_ne.1 R
     refine Vb Z d e ((Vq [3,4,5,6,7,8,9,10,11,12,13,14,15,16,17,18,19] [(81,.bool true)]∘Vd∘kW) λa Z d=>?_)
     have Z:=Z.sp 81 (.bool (!(decide (er=0/\(es.getD 0 Ev.zero).seq=(aA 281474976710656 (qd (qd (qd l))):Int)/\(es.getD 0 Ev.zero).time=(aA 281474976710656 (qd (qd (qd (qd l)))):Int))))) rfl (congrArg abM (by rw [decide_eq_false om];rfl))
     exact ⟨Z.sub kr,d.pk [0,1,2,3,4,5]⟩
    have P7:=bne_eq_false_iff_eq.1 R
    have J:er=0:=by omega
    have S:=hq;rw [J] at S;obtain ⟨rw1,Yx,rw4⟩:=PY (cpu:=aA 63 l) om hl5 S
    refine ap Z (λ_=>e) [3,7] (bf 20 [0,1,2,3,7]) [(69,vP M 0),(65,abk z es u)] λa Z=>?_
    revert d;revert a;repeat (first|clear Z|clear d)
    intro a Z d
    obtain ⟨C,rfl⟩:=d.rat 0 0
    refine gX Z e 4 rfl (v:=vP C 0) (Yl.indexAddr (ad:=⟨C,0,none⟩) (y:=0) (sz:=11) rfl rfl rfl om kr) λa Z=>?_
    refine ap Z (λ_=>e) [5] (bf 20 [0,1,2,3,4,5,7]) [(67,vP C 0)] λa Z=>?_
    refine gX Z e 6 rfl (v:=vI ((es.getD 0 Ev.zero).seq)) (Pd rfl rfl kr (λ_ h=>(by have:=h.qu qU (i:=0) rfl (k:=0) (off:=0) (x:=(es.getD 0 Ev.zero)) ((getD_at Ev.zero (k:=0) (by first|omega|(simp;omega)))) rfl;simpa using this))) λa Z=>?_
    refine dD Z e 8 1 λa Z=>?_
    refine ap Z (λ_=>e) [9,10,11] (bt 20 [12,13,14,15,16,17,18,19]) [(73,.bool (((es.getD 0 Ev.zero).seq:Int) !=(aA 281474976710656 (qd (qd (qd l))):Int)))] λa Z=>?_
    refine Jb Z d (Jh (λP8=>?_) λP8=>?_)
    ·
     intro a Z d
     refine ap Z (λ_=>e) [12,13,14,15,16,17,18,19] (bt 20 []) [(81,.bool true)] λa Z=>?_
     refine qe kr ?_
     have Z:=Z.sp 81 (.bool (!(decide (er=0/\(es.getD 0 Ev.zero).seq=(aA 281474976710656 (qd (qd (qd l))):Int)/\(es.getD 0 Ev.zero).time=(aA 281474976710656 (qd (qd (qd (qd l)))):Int))))) rfl (congrArg abM (by rw [decide_eq_false om];rfl))
     exact ⟨Z.sub kr,d.pk [0,1,2,3,4,5]⟩
    intro a Z d
    refine ap Z (λ_=>e) [12,16] (bt 20 [13,14,15,17,18,19]) [(78,vP M 1),(74,vS C (abn es) u)] λa Z=>?_
    refine gX Z e 13 rfl (v:=vP C 0) (Yl.indexAddr (ad:=⟨C,0,none⟩) (y:=0) (sz:=11) rfl rfl rfl om kr) λa Z=>?_
    refine ap Z (λ_=>e) [14] (bt 20 [15,17,18,19]) [(76,vP C 1)] λa Z=>?_
    refine gX Z e 15 rfl (v:=vI ((es.getD 0 Ev.zero).time)) (Pd rfl rfl kr (λ_ h=>h.qu qU (i:=0) rfl (k:=0) (off:=1) (x:=(es.getD 0 Ev.zero)) ((getD_at Ev.zero (k:=0) (by first|omega|(simp;omega)))) rfl)) λa Z=>?_
    refine dD Z e 17 1 λa Z=>?_
    refine ap Z (λ_=>e) [18,19] (bt 20 []) [(81,.bool (((es.getD 0 Ev.zero).time:Int) !=(aA 281474976710656 (qd (qd (qd (qd l)))):Int)))] λa Z=>?_
    refine qe kr ?_
    have Z:=Z.sp 81 (.bool (!(decide (er=0/\(es.getD 0 Ev.zero).seq=(aA 281474976710656 (qd (qd (qd l))):Int)/\(es.getD 0 Ev.zero).time=(aA 281474976710656 (qd (qd (qd (qd l)))):Int))))) rfl (congrArg abM (by rw [abY,bne_iff_ne,acF,decide_eq_false_iff_not];omega))
    exact ⟨Z.sub kr,d.pk [0,1,2,3,4,5]⟩
   clear Z d;rintro a yB ⟨Z,d⟩
   refine Jb Z d (Ju (λD=>?_) λD=>?_)
   ·
    have Cg:=of_decide_eq_false ((acF _).mp D)
    have hz:¬(er=0/\(es.getD 0 Ev.zero).seq=(aA 281474976710656 (qd (qd (qd l))):Int)/\(es.getD 0 Ev.zero).time=(aA 281474976710656 (qd (qd (qd (qd l)))):Int)):=λG=>by rw [decide_eq_true G] at D;cases D
    refine (JT∘JP∘eH aiz∘JV aG sV) λFR=>(Jp 1∘aK∘aP) λa Z d=>?_
    exact dI rfl Z (.cellS (i:=5) Z d rfl rfl aG rfl) (.tmp Z rfl) (F5 (by rw [BZ,Yf K om hq];exact Yg (λG=>hz ⟨G.1,G.2.1,G.2.2.1⟩)) rfl (by simp [abR]) d.below)
   have Cg:=of_decide_eq_true ((ad7 _).mp D)
   have hz:er=0/\(es.getD 0 Ev.zero).seq=(aA 281474976710656 (qd (qd (qd l))):Int)/\(es.getD 0 Ev.zero).time=(aA 281474976710656 (qd (qd (qd (qd l)))):Int):=Decidable.byContradiction λG=>by rw [decide_eq_false G] at D;cases D
   have J:=hz.1
   have S:=hq;rw [J] at S;obtain ⟨rw1,Yx,rw4⟩:=PY (cpu:=aA 63 l) om hl5 S
   refine (aU∘Vs (.t (.t (.t (.t (.f .n))))) [6]) λyC=>(Vp [0,2]∘Vf 4 4∘Vc 1 O2∘Vy 3 (h:=by exact aae bn (j:=L) rfl rfl rfl om)) λa Z d e=>?_
   refine s_on Z 5 rfl (eG Z d 4 λGg d=>?_)
   refine ay (d.pk [0,1,2,3,5]) (λe=>?_)
   refine s_on Z 6 rfl (eG Z d 2 λGh d=>?_)
   refine dN kr ?_
   refine qe kr ?_
   refine qz (λW X=>Fr W 99 [] ((5,.bool ((zb l).isSome))::(81,.bool false)::(11,abk z es u)::(10,vP M 0)::(46,.bool true)::ah8 (aA 4096 (qd (qd l))) F q r [(4,vP E 0),(3,vP q 0),(0,vB (1:Nat))])/\Mem w X [abm z es u eD 73 11,.blk M #[vI (aA 281474976710656 (qd (qd (qd l)))),vI (aA 281474976710656 (qd (qd (qd (qd l)))))] 110,ahF q (if Mc=L then Ma else Ma.map (·.add (L*1))) ((abn (qd (qd (qd (qd (qd l))))))-L) (Mc-L),aii r (((((true&&aZ 63 l)&&aZ 281474976710656 (qd l))&&aZ 4096 (qd (qd l)))&&aZ 281474976710656 (qd (qd (qd l))))&&aZ 281474976710656 (qd (qd (qd (qd l))))),.blk F #[vB (1:Nat),vB (aA 63 l),vI (aA 281474976710656 (qd l)),vI 0,abk z es u] 85,.blk E #[vB (1:Nat),vB (aA 63 l),vI (aA 281474976710656 (qd l)),vI 0,abk z es u] 85]) ?_ ?_
   ·
    refine Jb Z d ((Vs (.t (.t (.t (.t (.t (.f .n)))))) []) λyD=>(Vy 0 (v:= .agg #[vB (1:Nat),vB (aA 63 l),vI (aA 281474976710656 (qd l)),vI 0,abk z es u]) (h:=by exact Pe rfl rfl aG rfl (λ_ h=>qj (h.blk (i:=4) rfl)))∘Vc 1 O3∘Vp [2]) λa Z d e=>?_)
    rcases Z.tf 90 rfl with ⟨o,Z⟩|⟨o,Z⟩
    ·
     refine Vb Z d e ((Vc 3 O2∘Vl 4∘Vp [5,6,7]) λa Z d e=>?_)
     rcases Z.tf 95 rfl with ⟨p,Z⟩|⟨p,Z⟩
     ·
      have H:=eq_of_beq p
      refine Vb Z d e ((Vy 8 (v:= .agg #[vB (1:Nat),vB (aA 63 l),vI (aA 281474976710656 (qd l)),vI 0,abk z es u]) (h:=by exact Pe rfl rfl aG rfl (λ_ h=>qj (h.blk (i:=4) rfl)))∘VI 9 (.t (.t (.t (.t (.t (.f .n)))))) (h:=by exact λd=>F3 ⟨1,aA 63 l,(aA 281474976710656 (qd l):Int),0,es⟩ (vg om om Yx) z u B _ (hL.mem d T) (d.le T) (d.rd (i:=0) rfl) (by show abn es<=_;omega))) λP9 hbw=>(Vp [10]) λa Z d e=>?_)
      refine s_on Z 11 rfl (bT Z d 5 rfl rfl rfl rfl rfl aG rfl rfl (by simp [abR]) λm d=>?_)
      refine ay (d.pk [0,1,2,3,4]) (λe=>?_)
      refine Vb Z d e ((Vp [12]∘Vd∘aH) λa Z d=>?_)
      have Z:=Z.sp 5 (.bool ((zb l).isSome)) rfl (congrArg abM (by rw [L8 K om hq J,PN ⟨hz.2.1,hz.2.2⟩,show (aZ 281474976710656 (qd (qd (qd l)))&&aZ 281474976710656 (qd (qd (qd (qd l)))))=true by have I:=o;rw [Yj (l:=l),tk3,K,ab8] at I;exact I,decide_eq_true om,ab8,ab8]))
      exact ⟨Z.sub kr,d.pk [0,1,2,3,4,5]⟩
     have H:=ne_of_beq_false p
     refine ap Z (λ_=>e) [8,9,10] (bt 13 [11,12]) [(98,.bool false)] λa Z=>?_
     refine s_on Z 11 rfl (bT Z d 5 rfl rfl rfl rfl rfl aG rfl rfl (by simp [abR]) λm d=>?_)
     refine ay (d.pk [0,1,2,3,4]) (λe=>?_)
     refine ap Z (λ_=>e) [12] (bt 13 []) [(5,.bool false)] λa Z=>?_
     refine qe kr ?_
     have Z:=Z.sp 5 (.bool ((zb l).isSome)) rfl (congrArg abM (by rw [L8 K om hq J,PN ⟨hz.2.1,hz.2.2⟩,decide_eq_false om,ads,adt]))
     exact ⟨Z.sub kr,d.pk [0,1,2,3,4,5]⟩
    refine ap Z (λ_=>e) [3,4,5,6,7,8,9,10] (bt 13 [11,12]) [(98,.bool false)] λa Z=>?_
    refine s_on Z 11 rfl (bT Z d 5 rfl rfl rfl rfl rfl aG rfl rfl (by simp [abR]) λm d=>?_)
    refine ay (d.pk [0,1,2,3,4]) (λe=>?_)
    refine ap Z (λ_=>e) [12] (bt 13 []) [(5,.bool false)] λa Z=>?_
    refine qe kr ?_
    have Z:=Z.sp 5 (.bool ((zb l).isSome)) rfl (congrArg abM (by rw [L8 K om hq J,PN ⟨hz.2.1,hz.2.2⟩,show (aZ 281474976710656 (qd (qd (qd l)))&&aZ 281474976710656 (qd (qd (qd (qd l)))))=false by have I:=o;rw [Yj (l:=l),tk3,K,ab8] at I;exact I,ads]))
    exact ⟨Z.sub kr,d.pk [0,1,2,3,4,5]⟩
   clear Z d;rintro a BJ ⟨Z,d⟩
   refine Jb Z d ((JZ) (Ju (λs=>?_) λs=>?_))
   ·
    have g:=s
    intro a Z d
    exact dI rfl Z (.cellS (i:=5) Z d rfl rfl aG rfl) (.tmp Z rfl) (LX (b:=⟨1,aA 63 l,(aA 281474976710656 (qd l):Int),0,es⟩) (A:=z) (c:=u) (by rw [BZ];rw [L8 K om hq J] at g⊢;exact za8 g) (d.own (i:=0) rfl) P6 d.below)
   have g:=s
   intro a Z d
   exact dI rfl Z (.cellS (i:=5) Z d rfl rfl aG rfl) (.tmp Z rfl) (F5 (by rw [BZ];exact adl.1 (by rw [g];decide)) rfl (by simp [abR]) d.below)
  refine (aU) λa Z d=>?_
  refine qz (λW X=>Fr W 99 [] ((5,.bool ((zb l).isSome))::(46,.bool false)::ah8 (aA 4096 (qd (qd l))) F q r [(4,vP E 0),(3,vP q 0),(0,vB (1:Nat))])/\Mem w X [ahF q Y (abn (qd (qd (qd l)))) L9,aii r (((true&&aZ 63 l)&&aZ 281474976710656 (qd l))&&aZ 4096 (qd (qd l))),ah0 F (aA 63 l) (aA 281474976710656 (qd l)),ah0 E (aA 63 l) (aA 281474976710656 (qd l))]) ?_ ?_
  ·
   refine Jb Z d ((Vs (.t (.t (.t (.f .n)))) []) λyD=>(nH 0 aG O2∘Vc 1 O1∘Vp [2]) λa Z d e=>?_)
   rcases Z.tf 90 rfl with ⟨o,Z⟩|⟨o,Z⟩
   ·
    refine Vb Z d e ((Vc 3 O0∘Vl 4∘Vp [5,6,7]) λa Z d e=>?_)
    rcases Z.tf 95 rfl with ⟨p,Z⟩|⟨p,Z⟩
    ·
     have H:=eq_of_beq p
     refine Vb Z d e ((nH 8 aG O2∘VI 9 (.t (.t (.t (.f .n)))) (h:=by exact λd=>F3 ⟨1,aA 63 l,(aA 281474976710656 (qd l):Int),0,[]⟩ (vg om om (by simp)) none 0 B _ (hL.mem d T) (d.le T) Rd.nil (by show 0<=_;omega))) λP9 hbw=>(Vp [10]) λa Z d e=>?_)
     refine s_on Z 11 rfl (bT Z d 3 rfl rfl rfl rfl rfl aG rfl rfl (by simp [abR]) λm d=>?_)
     refine ay (d.pk [0,1,2]) (λe=>?_)
     refine Vb Z d e ((Vp [12]∘Vd∘aH) λa Z d=>?_)
     have Z:=Z.sp 5 (.bool ((zb l).isSome)) rfl (congrArg abM (by rw [LY (l:=l) (λG=>by have h0:=G.2;omega),K,decide_eq_true om,ab8,ab8]))
     exact ⟨Z.sub kr,d.pk [0,1,2,3]⟩
    have H:=ne_of_beq_false p
    refine ap Z (λ_=>e) [8,9,10] (bt 13 [11,12]) [(98,.bool false)] λa Z=>?_
    refine s_on Z 11 rfl (bT Z d 3 rfl rfl rfl rfl rfl aG rfl rfl (by simp [abR]) λm d=>?_)
    refine ay (d.pk [0,1,2]) (λe=>?_)
    refine ap Z (λ_=>e) [12] (bt 13 []) [(5,.bool false)] λa Z=>?_
    refine qe kr ?_
    have Z:=Z.sp 5 (.bool ((zb l).isSome)) rfl (congrArg abM (by rw [LY (l:=l) (λG=>by have h0:=G.2;omega),decide_eq_false om,ads,adt]))
    exact ⟨Z.sub kr,d.pk [0,1,2,3]⟩
   refine ap Z (λ_=>e) [3,4,5,6,7,8,9,10] (bt 13 [11,12]) [(98,.bool false)] λa Z=>?_
   refine s_on Z 11 rfl (bT Z d 3 rfl rfl rfl rfl rfl aG rfl rfl (by simp [abR]) λm d=>?_)
   refine ay (d.pk [0,1,2]) (λe=>?_)
   refine ap Z (λ_=>e) [12] (bt 13 []) [(5,.bool false)] λa Z=>?_
   refine qe kr ?_
   have Z:=Z.sp 5 (.bool ((zb l).isSome)) rfl (congrArg abM (by have I:=o;rw [tk3] at I;rw [LY (l:=l) (λG=>by have h0:=G.2;omega),I,ads]))
   exact ⟨Z.sub kr,d.pk [0,1,2,3]⟩
  clear Z d;rintro a BJ ⟨Z,d⟩
  refine Jb Z d ((JZ) (Ju (λs=>?_) λs=>?_))
  ·
   have g:=s
   intro a Z d
   exact dI rfl Z (.cellS (i:=3) Z d rfl rfl aG rfl) (.tmp Z rfl) (LX (b:=⟨1,aA 63 l,(aA 281474976710656 (qd l):Int),0,[]⟩) (A:=none) (c:=0) (by rw [BZ];exact Yh (λG=>by have h0:=G.2;omega) g) (acA _ _ _ _) (abr _) d.below)
  have g:=s
  intro a Z d
  exact dI rfl Z (.cellS (i:=3) Z d rfl rfl aG rfl) (.tmp Z rfl) (F5 (by rw [BZ];exact adl.1 (by rw [g];decide)) rfl (by simp [abR]) d.below)
 have K:uq l=false:=by rw [<-tk3];exact Q
 refine (Jp 3∘gq∘Jj∘aU) λa Z d=>?_
 refine qz (λW X=>Fr W 99 [] ((5,.bool ((zb l).isSome))::(46,.bool false)::ah8 (aA 4096 (qd (qd l))) F q r [(4,vP E 0),(3,vP q 0),(0,vB (1:Nat))])/\Mem w X [ahF q Y (abn (qd (qd (qd l)))) L9,aii r (((true&&aZ 63 l)&&aZ 281474976710656 (qd l))&&aZ 4096 (qd (qd l))),ah0 F (aA 63 l) (aA 281474976710656 (qd l)),ah0 E (aA 63 l) (aA 281474976710656 (qd l))]) ?_ ?_
 ·
  refine Jb Z d ((Vs (.t (.t (.t (.f .n)))) []) λyD=>(nH 0 aG O2∘Vc 1 O1∘Vp [2]) λa Z d e=>?_)
  rcases Z.tf 90 rfl with ⟨o,Z⟩|⟨o,Z⟩
  ·
   refine Vb Z d e ((Vc 3 O0∘Vl 4∘Vp [5,6,7]) λa Z d e=>?_)
   rcases Z.tf 95 rfl with ⟨p,Z⟩|⟨p,Z⟩
   ·
    have H:=eq_of_beq p
    refine Vb Z d e ((nH 8 aG O2∘VI 9 (.t (.t (.t (.f .n)))) (h:=by exact λd=>F3 ⟨1,aA 63 l,(aA 281474976710656 (qd l):Int),0,[]⟩ (vg om om (by simp)) none 0 B _ (hL.mem d T) (d.le T) Rd.nil (by show 0<=_;omega))) λP9 hbw=>(Vp [10]) λa Z d e=>?_)
    refine s_on Z 11 rfl (bT Z d 3 rfl rfl rfl rfl rfl aG rfl rfl (by simp [abR]) λm d=>?_)
    refine ay (d.pk [0,1,2]) (λe=>?_)
    refine Vb Z d e ((Vp [12]∘Vd∘aH) λa Z d=>?_)
    have Z:=Z.sp 5 (.bool ((zb l).isSome)) rfl (congrArg abM (by have I:=o;rw [tk3,K] at I;cases I))
    exact ⟨Z.sub kr,d.pk [0,1,2,3]⟩
   have H:=ne_of_beq_false p
   refine ap Z (λ_=>e) [8,9,10] (bt 13 [11,12]) [(98,.bool false)] λa Z=>?_
   refine s_on Z 11 rfl (bT Z d 3 rfl rfl rfl rfl rfl aG rfl rfl (by simp [abR]) λm d=>?_)
   refine ay (d.pk [0,1,2]) (λe=>?_)
   refine ap Z (λ_=>e) [12] (bt 13 []) [(5,.bool false)] λa Z=>?_
   refine qe kr ?_
   have Z:=Z.sp 5 (.bool ((zb l).isSome)) rfl (congrArg abM (by have I:=o;rw [tk3,K] at I;cases I))
   exact ⟨Z.sub kr,d.pk [0,1,2,3]⟩
  refine ap Z (λ_=>e) [3,4,5,6,7,8,9,10] (bt 13 [11,12]) [(98,.bool false)] λa Z=>?_
  refine s_on Z 11 rfl (bT Z d 3 rfl rfl rfl rfl rfl aG rfl rfl (by simp [abR]) λm d=>?_)
  refine ay (d.pk [0,1,2]) (λe=>?_)
  refine ap Z (λ_=>e) [12] (bt 13 []) [(5,.bool false)] λa Z=>?_
  refine qe kr ?_
  have Z:=Z.sp 5 (.bool ((zb l).isSome)) rfl (congrArg abM (by have I:=o;rw [tk3] at I;rw [LY (l:=l) (λG=>by rw [K] at G;cases G.1),I,ads]))
  exact ⟨Z.sub kr,d.pk [0,1,2,3]⟩
 clear Z d;rintro a BJ ⟨Z,d⟩
 refine Jb Z d ((JZ) (Ju (λs=>?_) λs=>?_))
 ·
  have g:=s
  intro a Z d
  exact dI rfl Z (.cellS (i:=3) Z d rfl rfl aG rfl) (.tmp Z rfl) (LX (b:=⟨1,aA 63 l,(aA 281474976710656 (qd l):Int),0,[]⟩) (A:=none) (c:=0) (by rw [BZ];exact Yh (λG=>by rw [K] at G;cases G.1) g) (acA _ _ _ _) (abr _) d.below)
 have g:=s
 intro a Z d
 exact dI rfl Z (.cellS (i:=3) Z d rfl rfl aG rfl) (.tmp Z rfl) (F5 (by rw [BZ];exact adl.1 (by rw [g];decide)) rfl (by simp [abR]) d.below)
abbrev ahH:=λa b c d e f g h=>((7,vP a 0)::(40,.bool false)::(34,.bool false)::(26,.bool false)::(21,.bool false)::(0,.slice (some ⟨b,c,none⟩) d e)::(15,.bool false)::(6,vI f)::(5,vI d)::(4,vI 0)::(3,vI 0)::(2,vP g 0)::h:List (Nat×Go.Value))
def q4u (A:Option Addr) (n cp:Nat) (l:List Nat) (B:Nat) (w:World) (R:aT B w) (D:B<=w.heap.size) (hr:Rd w w.heap.size 1 A n (l.map B8)) (hc:n<=cp) (hln:abn l=n) (hn:n<=9223372036854775807) (hl:∀b∈l,b<256):
    Calls abo 134 #[.slice A n cp] w (PO 73 w (dz l)):=by
 refine (eF Tryz.func134 68) ?_
 refine (JP∘JA aiz) λw2 S=>(Jp 2∘bA 1∘JI (h:=by exact λc=>qz9 A n cp l _ (c.old hr) hln hn hl)) λuV E=>(Jp 1∘Jx∘Jx∘bM 2∘bN 2∘aK∘Jj) (Jh (λCh=>?_) λCh=>?_)
 ·
  refine (JT∘JP∘eH aiz∘Jp 1∘JV aG aO) λais=>(bM 2∘JZ) λa Z c=>?_
  exact iN rfl Z (.cellS (i:=0) Z c rfl rfl aG rfl) (.tmp Z rfl) (.tmp Z rfl) (Ad (q4q om) c.below)
 have C:(bg l).2=0:=by omega
 obtain ⟨v1,v2,v3,v4⟩:=Ym C
 obtain ⟨d,u⟩:∃x,x=l.take (bg l).1:=⟨_,rfl⟩
 have o:Rd w w.heap.size 1 A (bg l).1 (d.map B8):=by rw [u];exact hr.Bv om
 have p:∀b∈d,b<256:=by rw [u];exact uP hl _
 have F:abn d=(bg l).1:=by rw [u,abv];omega
 refine (aU∘aJ 2∘Jy (h:=by exact aag bn (j:=(bg l).1) rfl rfl rfl om)∘Jp 1∘dY∘Jq) ?_
 obtain ⟨gA,g,rfl,_⟩:=o.sat 0
 refine (JG∘JQ∘JB∘aJ 1∘JI (h:=by exact λc=>Py _ (bg l).1 cp d B _ (R.mem c D) (c.le D) (c.old o) om F om p)) λLG E=>(Jp 2∘dY∘Jj) (Ju (λN=>?_) λN=>?_)
 ·
  have hs:zj d=false:=by simpa using N
  refine (JT∘JP∘eH aiz∘JV aG aO) λFP=>(bM 2∘JZ) λa Z c=>?_
  exact iN rfl Z (.cellS (i:=0) Z c rfl rfl aG rfl) (.tmp Z rfl) (.tmp Z rfl) (Ad (Ca C u (by unfold fB;rw [if_pos hs])) c.below)
 have hs:zj d=true:=by simpa using N
 refine (JF) λa Z c=>?_
 refine wp_seq ?_
 refine Jb Z c ((Vs .n []) λXm=>(Vp [0]∘Vy 1 (v:= .slice (if cp=4 then some ⟨gA,g,none⟩ else (some ⟨gA,g,none⟩:Option Addr).map (·.add (4*1))) (6-4) (cp-4)) (h:=by exact aal bn (i:=4) (j:=6) rfl rfl rfl rfl om om)∘Vo (.slice (some ⟨gA,g+4,none⟩) (6-4) (cp-4)) (by simp only [if_neg (show ¬cp=4 by omega),Option.map_some,acC,Nat.mul_one])∘Vy 2 (v:=vP gA (g+4)) (h:=by exact Yl.arrayAt (k:=2) rfl rfl kr om)∘Vy 3 (v:= .agg #[vB (d.getD 4 0),vB (d.getD 5 0)]) (h:=by exact Pe rfl rfl Ac rfl (λ_ h=>zlp (k:=4) (l:=d) (h.old o) om))∘Vy 4 (v:= .agg #[vB 113,vB 116]) (h:=by exact Pe rfl rfl Ac rfl (λ_ h=>za2 R h D))∘Vy 5 (v:= .bool (!(((d.getD 4 0:Int)==(113:Int))&& ((d.getD 5 0:Int)==(116:Int))))) (h:=by exact aa4 rfl rfl rfl kr kr)∘Vp [6]∘Vd∘aH) (Ju (λO=>?_) λO=>?_))
 ·
  simp only [acF,Bool.and_eq_false_iff,beq_eq_false_iff_ne] at O
  have G:¬(d.getD 4 0=113/\d.getD 5 0=116):=by omega
  refine (JT∘JP∘eH aiz∘JV aG aO) λBN=>(bM 2∘JZ) λa Z c=>?_
  exact iN rfl Z (.cellS (i:=0) Z c rfl rfl aG rfl) (.tmp Z rfl) (.tmp Z rfl) (Ad (Ca C u (by unfold fB;rw [if_neg (by rw [hs];decide),if_pos G])) c.below)
 simp only [ad7,abG,beq_iff_eq] at O
 have G:d.getD 4 0=113/\d.getD 5 0=116:=by omega
 refine (JF∘aJ 1∘Jy (v:=vP gA (g+6)) (h:=by exact Yl.indexAddr (ad:=⟨gA,g,none⟩) (y:=6) (sz:=1) rfl rfl rfl om kr)∘JH (getD_lt p (k:=6) (by first|omega|(simp;omega)))) λhx1=>(Jy (h:=by exact aad o 6 0 (by first|omega|(simp;omega)) rfl rfl)∘Jp 2∘gq∘Jj) (Jh (λhd34=>?_) λhd34=>?_)
 ·
  refine (JT∘JP∘eH aiz∘JV aG aO) λAb=>(bM 2∘JZ) λa Z c=>?_
  exact iN rfl Z (.cellS (i:=0) Z c rfl rfl aG rfl) (.tmp Z rfl) (.tmp Z rfl) (Ad (Ca C u (by unfold fB;rw [if_neg (by rw [hs];decide),if_neg (λL=>L G),if_pos om])) c.below)
 refine (JF∘aJ 1∘Jy (v:=vP gA (g+7)) (h:=by exact Yl.indexAddr (ad:=⟨gA,g,none⟩) (y:=7) (sz:=1) rfl rfl rfl om kr)∘JH (getD_lt p (k:=7) (by first|omega|(simp;omega)))) λhx2=>(Jy (h:=by exact aad o 7 0 (by first|omega|(simp;omega)) rfl rfl)∘Jp 2) (Jh (λvk=>?_) λvk=>?_)
 ·
  refine (Jp 1∘Jy (v:=vP gA (g+7)) (h:=by exact Yl.indexAddr (ad:=⟨gA,g,none⟩) (y:=7) (sz:=1) rfl rfl rfl om kr)∘JH (getD_lt p (k:=7) (by first|omega|(simp;omega)))) λhx3=>(Jy (h:=by exact aad o 7 0 (by first|omega|(simp;omega)) rfl rfl)∘Jp 3∘aH∘Jq) λa Z c=>?_
  rcases hp:uw (d.getD 7 0) ((d.take (abn d-4)).drop 8) with _|b
  ·
   refine Jb Z c (Jh (λP=>?_) λP=>?_)
   ·
    have r:d.getD 7 0≠1/\d.getD 7 0≠2:=by omega
    refine (JT∘JP∘eH aiz∘JV aG aO) λT=>(bM 2∘JZ) λa Z c=>?_
    exact iN rfl Z (.cellS (i:=0) Z c rfl rfl aG rfl) (.tmp Z rfl) (.tmp Z rfl) (Ad (Ca C u (by unfold fB;rw [if_neg (by rw [hs];decide),if_neg (λL=>L G),if_neg om,if_pos r])) c.below)
   have r:d.getD 7 0=1\/d.getD 7 0=2:=by omega
   refine (aU) λa Z c=>?_
   refine qz (λU V=>∃(H:Array Value) (q:Nat),Fr U 68 [] ((8,.bool false)::ahH q gA g ((bg l).1) cp ((bg l).2) S [])/\Mem w V [.blk q H 85,ahG S]/\(H.size=5)/\(∀v∈H.toList,v.oneCell'=true)) ?_ ?_
   ·
    refine Jb Z c ((Vs .n [12]) λQ=>(Vp [0,3,4]∘Vy 1 (v:=vP gA (g+7)) (h:=by exact Yl.indexAddr (ad:=⟨gA,g,none⟩) (y:=7) (sz:=1) rfl rfl rfl om kr)∘VH (getD_lt p (k:=7) (by first|omega|(simp;omega)))) λhx8=>(Vy 2 (h:=by exact aad o 7 0 (by first|omega|(simp;omega)) rfl rfl)∘Fy 5 4∘Vy 6 (v:= .slice (if cp=8 then some ⟨gA,g,none⟩ else (some ⟨gA,g,none⟩:Option Addr).map (·.add (8*1))) (((bg l).1-4)-8) (cp-8)) (h:=by exact aal bn (i:=8) (j:=(bg l).1-4) rfl rfl rfl rfl om om)) λa Z c s=>?_)
    refine zd [7,11] kr rfl ?_
    refine all_cons ?_ ?_
    ·refine qq Z (i:=7) rfl rfl ?_
     refine lq Z [vB (d.getD 7 0),.slice (if cp=8 then some ⟨gA,g,none⟩ else (some ⟨gA,g,none⟩:Option Addr).map (·.add (8*1))) (((bg l).1-4)-8) (cp-8)] rfl rfl ((Ae (d.getD 7 0) r _ (((bg l).1-4)-8) (cp-8) ((d.take (abn d-4)).drop 8) B _ (R.mem c D) (c.le D) (c.old (by rw [F];exact o.xC (i:=8) (j:=(bg l).1-4) om om om)) om (by rw [abC,abv];omega) om (xD (uP p _) _)).mono (λ_ _ h=>h.none hp)) ?_
     rintro _ J ⟨⟨H,rfl,t,M⟩,E⟩
     refine ⟨_,rfl,?_⟩
     replace c:=c.call E
     clear Z;intro a Z
     refine ay (c.pk [0]) (λs=>?_)
     refine Vb Z c s ((Vp [8]∘Vx 9∘Vx 10∘VA 11 .n aiz) λW q=>λa Z c s=>?_)
     refine s_on Z 12 rfl (bT Z c 0 rfl rfl rfl rfl rfl aG rfl t (M) λm c=>?_)
     refine dN kr ?_
     refine ap Z (bU kr) [13] (bt 14 []) [(8,.bool false)] λa Z=>?_
     refine qe kr ?_
     exact ⟨H,q,Z.sub kr,c.pk [0,1],t,M⟩
    refine all_cons ?_ all_nil
    refine qq Z (i:=11) rfl rfl ?_
    refine gZ Z c aiz ?_
    clear Z c;intro a W q Z c
    refine ay (c.pk [1]) (λs=>?_)
    refine s_on Z 7 rfl ?_
    refine lq Z [vB (d.getD 7 0),.slice (if cp=8 then some ⟨gA,g,none⟩ else (some ⟨gA,g,none⟩:Option Addr).map (·.add (8*1))) (((bg l).1-4)-8) (cp-8)] rfl rfl ((Ae (d.getD 7 0) r _ (((bg l).1-4)-8) (cp-8) ((d.take (abn d-4)).drop 8) B _ (R.mem c D) (c.le D) (c.old (by rw [F];exact o.xC (i:=8) (j:=(bg l).1-4) om om om)) om (by rw [abC,abv];omega) om (xD (uP p _) _)).mono (λ_ _ h=>h.none hp)) ?_
    rintro _ J ⟨⟨H,rfl,t,M⟩,E⟩
    refine ⟨_,rfl,?_⟩
    replace c:=c.call E
    clear Z;intro a Z
    refine ay (c.pk [1]) (λs=>?_)
    refine Vb Z c s ((Vp [8]∘Vx 9∘Vx 10) λa Z c s=>?_)
    refine s_on Z 12 rfl (bT Z c 0 rfl rfl rfl rfl rfl aG rfl t (M) λm c=>?_)
    refine dN kr ?_
    refine ap Z (bU kr) [13] (bt 14 []) [(8,.bool false)] λa Z=>?_
    refine qe kr ?_
    exact ⟨H,q,Z.sub kr,c.pk [0,1],t,M⟩
   clear Z c;rintro a X ⟨H,q,Z,c,t,M⟩
   refine Jb Z c ((bN 2∘bQ∘Jj∘JT∘JP∘eH aiz∘JV aG fJ) λY=>(bM 2∘JZ) λa Z c=>?_)
   exact iN rfl Z (.cellS (i:=1) Z c rfl rfl aG rfl) (.tmp Z rfl) (.tmp Z rfl) (Ad (Ca C u (by unfold fB;rw [if_neg (by rw [hs];decide),if_neg (λL=>L G),if_neg om,if_neg om,hp])) c.below)
  ·
   refine Jb Z c (Jh (λP=>?_) λP=>?_)
   ·
    have r:d.getD 7 0≠1/\d.getD 7 0≠2:=by omega
    refine (JT∘JP∘eH aiz∘JV aG aO) λT=>(bM 2∘JZ) λa Z c=>?_
    exact iN rfl Z (.cellS (i:=0) Z c rfl rfl aG rfl) (.tmp Z rfl) (.tmp Z rfl) (Ad (Ca C u (by unfold fB;rw [if_neg (by rw [hs];decide),if_neg (λL=>L G),if_neg om,if_pos r])) c.below)
   have r:d.getD 7 0=1\/d.getD 7 0=2:=by omega
   refine (aU) λa Z c=>?_
   refine qz (λU V=>∃(K:Option Addr) (I:Nat) (q:Nat),Fr U 68 [] ((8,.bool true)::ahH q gA g ((bg l).1) cp ((bg l).2) S [])/\Mem w V [.blk q (b.cells K I) 85,abm K b.evs I eD 73 11,ahG S]/\(abn b.evs<=I)) ?_ ?_
   ·
    refine Jb Z c ((Vs .n [12]) λQ=>(Vp [0,3,4]∘Vy 1 (v:=vP gA (g+7)) (h:=by exact Yl.indexAddr (ad:=⟨gA,g,none⟩) (y:=7) (sz:=1) rfl rfl rfl om kr)∘VH (getD_lt p (k:=7) (by first|omega|(simp;omega)))) λaiu=>(Vy 2 (h:=by exact aad o 7 0 (by first|omega|(simp;omega)) rfl rfl)∘Fy 5 4∘Vy 6 (v:= .slice (if cp=8 then some ⟨gA,g,none⟩ else (some ⟨gA,g,none⟩:Option Addr).map (·.add (8*1))) (((bg l).1-4)-8) (cp-8)) (h:=by exact aal bn (i:=8) (j:=(bg l).1-4) rfl rfl rfl rfl om om)) λa Z c s=>?_)
    refine zd [7,11] kr rfl ?_
    refine all_cons ?_ ?_
    ·refine qq Z (i:=7) rfl rfl ?_
     refine BH Z c [vB (d.getD 7 0),.slice (if cp=8 then some ⟨gA,g,none⟩ else (some ⟨gA,g,none⟩:Option Addr).map (·.add (8*1))) (((bg l).1-4)-8) (cp-8)] ((Ae (d.getD 7 0) r _ (((bg l).1-4)-8) (cp-8) ((d.take (abn d-4)).drop 8) B _ (R.mem c D) (c.le D) (c.old (by rw [F];exact o.xC (i:=8) (j:=(bg l).1-4) om om om)) om (by rw [abC,abv];omega) om (xD (uP p _) _)).mono (λ_ _ h=>h.some hp)) λK I J z c a Z=>?_
     refine ay (c.pk [1]) (λs=>?_)
     refine Vb Z c s ((Vp [8]∘Vx 9∘Vx 10∘VA 11 (.f .n) aiz) λW q=>λa Z c s=>?_)
     refine s_on Z 12 rfl (bT Z c 0 rfl rfl rfl rfl rfl aG rfl rfl (tC _ _ _) λm c=>?_)
     refine dN kr ?_
     refine ap Z (bU kr) [13] (bt 14 []) [(8,.bool true)] λa Z=>?_
     refine qe kr ?_
     exact ⟨K,I,q,Z.sub kr,c.pk [0,1,2],z⟩
    refine all_cons ?_ all_nil
    refine qq Z (i:=11) rfl rfl ?_
    refine gZ Z c aiz ?_
    clear Z c;intro a W q Z c
    refine ay (c.pk [1]) (λs=>?_)
    refine Vb Z c s ((VK 7 (.f .n) (h:=by exact λc=>(Ae (d.getD 7 0) r _ (((bg l).1-4)-8) (cp-8) ((d.take (abn d-4)).drop 8) B _ (R.mem c D) (c.le D) (c.old (by rw [F];exact o.xC (i:=8) (j:=(bg l).1-4) om om om)) om (by rw [abC,abv];omega) om (xD (uP p _) _)).mono (λ_ _ h=>h.some hp))) λK I J z=>(Vp [8]∘Vx 9∘Vx 10) λa Z c s=>?_)
    refine s_on Z 12 rfl (bT Z c 1 rfl rfl rfl rfl rfl aG rfl rfl (tC _ _ _) λm c=>?_)
    refine dN kr ?_
    refine ap Z (bU kr) [13] (bt 14 []) [(8,.bool true)] λa Z=>?_
    refine qe kr ?_
    exact ⟨K,I,q,Z.sub kr,c.pk [1,0,2],z⟩
   clear Z c;rintro a X ⟨K,I,q,Z,c,z⟩
   refine Jb Z c ((bN 2∘bQ∘Jj∘aU∘JP∘dZ aG O0∘Jp 1∘JV aG iq (h1:=by exact tC _ _ _)) λAg=>(bM 2∘JZ) λa Z c=>?_)
   exact iN rfl Z (.cellS (i:=2) Z c rfl rfl aG rfl) (.tmp Z rfl) (.tmp Z rfl) (Yi (PS (e:=0) C u (by unfold fB;rw [if_neg (by rw [hs];decide),if_neg (λL=>L G),if_neg om,if_neg om,hp])) (c.own (i:=1) rfl) z c.below)
 have r:d.getD 7 0=1\/d.getD 7 0=2:=by omega
 refine (Jp 6∘aH∘Jq) λa Z c=>?_
 rcases hp:uw (d.getD 7 0) ((d.take (abn d-4)).drop 8) with _|b
 ·
  refine Jb Z c ((JG∘aU) λa Z c=>?_)
  refine qz (λU V=>∃(H:Array Value) (q:Nat),Fr U 68 [] ((8,.bool false)::ahH q gA g ((bg l).1) cp ((bg l).2) S [])/\Mem w V [.blk q H 85,ahG S]/\(H.size=5)/\(∀v∈H.toList,v.oneCell'=true)) ?_ ?_
  ·
   refine Jb Z c ((Vs .n [12]) λQ=>(Vp [0,3,4]∘Vy 1 (v:=vP gA (g+7)) (h:=by exact Yl.indexAddr (ad:=⟨gA,g,none⟩) (y:=7) (sz:=1) rfl rfl rfl om kr)∘VH (getD_lt p (k:=7) (by first|omega|(simp;omega)))) λhx16=>(Vy 2 (h:=by exact aad o 7 0 (by first|omega|(simp;omega)) rfl rfl)∘Fy 5 4∘Vy 6 (v:= .slice (if cp=8 then some ⟨gA,g,none⟩ else (some ⟨gA,g,none⟩:Option Addr).map (·.add (8*1))) (((bg l).1-4)-8) (cp-8)) (h:=by exact aal bn (i:=8) (j:=(bg l).1-4) rfl rfl rfl rfl om om)) λa Z c s=>?_)
   refine zd [7,11] kr rfl ?_
   refine all_cons ?_ ?_
   ·refine qq Z (i:=7) rfl rfl ?_
    refine lq Z [vB (d.getD 7 0),.slice (if cp=8 then some ⟨gA,g,none⟩ else (some ⟨gA,g,none⟩:Option Addr).map (·.add (8*1))) (((bg l).1-4)-8) (cp-8)] rfl rfl ((Ae (d.getD 7 0) r _ (((bg l).1-4)-8) (cp-8) ((d.take (abn d-4)).drop 8) B _ (R.mem c D) (c.le D) (c.old (by rw [F];exact o.xC (i:=8) (j:=(bg l).1-4) om om om)) om (by rw [abC,abv];omega) om (xD (uP p _) _)).mono (λ_ _ h=>h.none hp)) ?_
    rintro _ J ⟨⟨H,rfl,t,M⟩,E⟩
    refine ⟨_,rfl,?_⟩
    replace c:=c.call E
    clear Z;intro a Z
    refine ay (c.pk [0]) (λs=>?_)
    refine Vb Z c s ((Vp [8]∘Vx 9∘Vx 10∘VA 11 .n aiz) λW q=>λa Z c s=>?_)
    refine s_on Z 12 rfl (bT Z c 0 rfl rfl rfl rfl rfl aG rfl t (M) λm c=>?_)
    refine dN kr ?_
    refine ap Z (bU kr) [13] (bt 14 []) [(8,.bool false)] λa Z=>?_
    refine qe kr ?_
    exact ⟨H,q,Z.sub kr,c.pk [0,1],t,M⟩
   refine all_cons ?_ all_nil
   refine qq Z (i:=11) rfl rfl ?_
   refine gZ Z c aiz ?_
   clear Z c;intro a W q Z c
   refine ay (c.pk [1]) (λs=>?_)
   refine s_on Z 7 rfl ?_
   refine lq Z [vB (d.getD 7 0),.slice (if cp=8 then some ⟨gA,g,none⟩ else (some ⟨gA,g,none⟩:Option Addr).map (·.add (8*1))) (((bg l).1-4)-8) (cp-8)] rfl rfl ((Ae (d.getD 7 0) r _ (((bg l).1-4)-8) (cp-8) ((d.take (abn d-4)).drop 8) B _ (R.mem c D) (c.le D) (c.old (by rw [F];exact o.xC (i:=8) (j:=(bg l).1-4) om om om)) om (by rw [abC,abv];omega) om (xD (uP p _) _)).mono (λ_ _ h=>h.none hp)) ?_
   rintro _ J ⟨⟨H,rfl,t,M⟩,E⟩
   refine ⟨_,rfl,?_⟩
   replace c:=c.call E
   clear Z;intro a Z
   refine ay (c.pk [1]) (λs=>?_)
   refine Vb Z c s ((Vp [8]∘Vx 9∘Vx 10) λa Z c s=>?_)
   refine s_on Z 12 rfl (bT Z c 0 rfl rfl rfl rfl rfl aG rfl t (M) λm c=>?_)
   refine dN kr ?_
   refine ap Z (bU kr) [13] (bt 14 []) [(8,.bool false)] λa Z=>?_
   refine qe kr ?_
   exact ⟨H,q,Z.sub kr,c.pk [0,1],t,M⟩
  clear Z c;rintro a X ⟨H,q,Z,c,t,M⟩
  refine Jb Z c ((bN 2∘bQ∘Jj∘JT∘JP∘eH aiz∘JV aG fJ) λY=>(bM 2∘JZ) λa Z c=>?_)
  exact iN rfl Z (.cellS (i:=1) Z c rfl rfl aG rfl) (.tmp Z rfl) (.tmp Z rfl) (Ad (Ca C u (by unfold fB;rw [if_neg (by rw [hs];decide),if_neg (λL=>L G),if_neg om,if_neg om,hp])) c.below)
 ·
  refine Jb Z c ((JG∘aU) λa Z c=>?_)
  refine qz (λU V=>∃(K:Option Addr) (I:Nat) (q:Nat),Fr U 68 [] ((8,.bool true)::ahH q gA g ((bg l).1) cp ((bg l).2) S [])/\Mem w V [.blk q (b.cells K I) 85,abm K b.evs I eD 73 11,ahG S]/\(abn b.evs<=I)) ?_ ?_
  ·
   refine Jb Z c ((Vs .n [12]) λQ=>(Vp [0,3,4]∘Vy 1 (v:=vP gA (g+7)) (h:=by exact Yl.indexAddr (ad:=⟨gA,g,none⟩) (y:=7) (sz:=1) rfl rfl rfl om kr)∘VH (getD_lt p (k:=7) (by first|omega|(simp;omega)))) λaiv=>(Vy 2 (h:=by exact aad o 7 0 (by first|omega|(simp;omega)) rfl rfl)∘Fy 5 4∘Vy 6 (v:= .slice (if cp=8 then some ⟨gA,g,none⟩ else (some ⟨gA,g,none⟩:Option Addr).map (·.add (8*1))) (((bg l).1-4)-8) (cp-8)) (h:=by exact aal bn (i:=8) (j:=(bg l).1-4) rfl rfl rfl rfl om om)) λa Z c s=>?_)
   refine zd [7,11] kr rfl ?_
   refine all_cons ?_ ?_
   ·refine qq Z (i:=7) rfl rfl ?_
    refine BH Z c [vB (d.getD 7 0),.slice (if cp=8 then some ⟨gA,g,none⟩ else (some ⟨gA,g,none⟩:Option Addr).map (·.add (8*1))) (((bg l).1-4)-8) (cp-8)] ((Ae (d.getD 7 0) r _ (((bg l).1-4)-8) (cp-8) ((d.take (abn d-4)).drop 8) B _ (R.mem c D) (c.le D) (c.old (by rw [F];exact o.xC (i:=8) (j:=(bg l).1-4) om om om)) om (by rw [abC,abv];omega) om (xD (uP p _) _)).mono (λ_ _ h=>h.some hp)) λK I J z c a Z=>?_
    refine ay (c.pk [1]) (λs=>?_)
    refine Vb Z c s ((Vp [8]∘Vx 9∘Vx 10∘VA 11 (.f .n) aiz) λW q=>λa Z c s=>?_)
    refine s_on Z 12 rfl (bT Z c 0 rfl rfl rfl rfl rfl aG rfl rfl (tC _ _ _) λm c=>?_)
    refine dN kr ?_
    refine ap Z (bU kr) [13] (bt 14 []) [(8,.bool true)] λa Z=>?_
    refine qe kr ?_
    exact ⟨K,I,q,Z.sub kr,c.pk [0,1,2],z⟩
   refine all_cons ?_ all_nil
   refine qq Z (i:=11) rfl rfl ?_
   refine gZ Z c aiz ?_
   clear Z c;intro a W q Z c
   refine ay (c.pk [1]) (λs=>?_)
   refine Vb Z c s ((VK 7 (.f .n) (h:=by exact λc=>(Ae (d.getD 7 0) r _ (((bg l).1-4)-8) (cp-8) ((d.take (abn d-4)).drop 8) B _ (R.mem c D) (c.le D) (c.old (by rw [F];exact o.xC (i:=8) (j:=(bg l).1-4) om om om)) om (by rw [abC,abv];omega) om (xD (uP p _) _)).mono (λ_ _ h=>h.some hp))) λK I J z=>(Vp [8]∘Vx 9∘Vx 10) λa Z c s=>?_)
   refine s_on Z 12 rfl (bT Z c 1 rfl rfl rfl rfl rfl aG rfl rfl (tC _ _ _) λm c=>?_)
   refine dN kr ?_
   refine ap Z (bU kr) [13] (bt 14 []) [(8,.bool true)] λa Z=>?_
   refine qe kr ?_
   exact ⟨K,I,q,Z.sub kr,c.pk [1,0,2],z⟩
  clear Z c;rintro a X ⟨K,I,q,Z,c,z⟩
  refine Jb Z c ((bN 2∘bQ∘Jj∘aU∘JP∘dZ aG O0∘Jp 1∘JV aG iq (h1:=by exact tC _ _ _)) λAg=>(bM 2∘JZ) λa Z c=>?_)
  exact iN rfl Z (.cellS (i:=2) Z c rfl rfl aG rfl) (.tmp Z rfl) (.tmp Z rfl) (Yi (PS (e:=0) C u (by unfold fB;rw [if_neg (by rw [hs];decide),if_neg (λL=>L G),if_neg om,if_neg om,hp])) (c.own (i:=1) rfl) z c.below)
def Md {d:Bk} (h:(b.kind:Int)≠d.kind\/(b.cpu:Int)≠d.cpu\/b.lost≠d.lost\/b.next≠d.next):decide (b=d)=false:=by
 rw [decide_eq_false]
 rintro rfl
 omega
def zbi {d:Bk} (h1:b.kind=d.kind) (a:b.cpu=d.cpu) (c:b.lost=d.lost) (e:b.next=d.next):decide (b.evs=d.evs)=decide (b=d):=by
 rw [abY,decide_eq_true_eq,decide_eq_true_eq]
 cases b;cases d
 simp only at h1 a c e
 subst h1;subst a;subst c;subst e
 simp
def zbj (b d:Bk) (A k:Option Addr) (c l:Nat) (w:World) (hr:Rd w w.heap.size 11 A (abn b.evs) (b.evs.flatMap eD)) (j:Rd w w.heap.size 11 k (abn d.evs) (d.evs.flatMap eD)) (o:abn b.evs<=1000000):
    Calls abo 41 #[.agg (b.cells A c),.agg (d.cells k l)] w (Is w (.bool (decide (b=d)))):=by
 refine (jf Tryz.func41 38) ?_
 refine (JP∘JE) λp q=>(JE) λr s=>(Jp 1∘Jr∘Jg 0 O1∘Jg 0 O0∘Jp 2) (Je (λe=>?_) λe=>?_)
 ·
  refine (Jg 1 O1∘Jg 1 O0∘Jp 3) (Je (λf=>?_) λf=>?_)
  ·
   refine (Jg 2 O1∘Jg 2 O0∘Jp 3) (Je (λg=>?_) λg=>?_)
   ·
    refine (Jg 3 O1∘Jg 3 O0∘Jp 3) (Je (λi=>?_) λi=>?_)
    ·
     exact (Jg 4 O1∘Jg 4 O0∘JI (h:=by exact λa=>q4k _ _ _ _ _ _ b.evs d.evs _ (a.old hr) (a.old j) rfl rfl om)) λm n=>(Jp 2∘aH∘aP∘bC) λa=>by exact ⟨by rw [zbi om om om om],a.below⟩
    exact (Jp 7∘aH∘aP∘bC) λa=>by exact ⟨by rw [Md om],a.below⟩
   exact (Jv 14 [(4,.bool false)]∘aH∘aP∘bC) λa=>by exact ⟨by rw [Md om],a.below⟩
  exact (Jv 21 [(4,.bool false)]∘aH∘aP∘bC) λa=>by exact ⟨by rw [Md om],a.below⟩
 exact (Jv 28 [(4,.bool false)]∘gq∘aP∘bC) λa=>by exact ⟨by rw [Md om],a.below⟩
def zr.as {R':List Nat} (h:zr w er R r W) (h1:er=sZ) (a:R=R'):zr w sZ R' r W:=by subst h1;subst a;exact h
def q4v (b:Bk) (a:b.Ok) (A:Option Addr) (c B:Nat) (w:World) (d:aT B w) (e:B<=w.heap.size) (hr:Rd w w.heap.size 11 A (abn b.evs) (b.evs.flatMap eD)) (f:abn b.evs<=1000000) {er:Nat} {R:List Nat} (h1:b.err=er) (g:b.out=R):Calls abo 106 #[.agg (b.cells A c)] w (zr w er R):=
 (Yk b a A c B w d e hr f).mono λ_ _ h=>h.as h1 g
def zbk (A:Option Addr) (n cp:Nat) (l:List Nat) (B:Nat) (w:World) (f:aT B w) (g:B<=w.heap.size) (hr:Rd w w.heap.size 1 A n (l.map B8)) (hc:n<=cp) (a:abn l=n) (i:n<=9223372036854775807) (j:∀b∈l,b<256) {b:Bk} {m er:Nat} (h:dz l=(b,m,er)):
  Calls abo 134 #[.slice A n cp] w λr d=>(∃A c,r= .returned (.tuple #[.agg (b.cells A c),.int .i64 (m:Int),.int .i64 (er:Int)])/\d.ownsRow w.heap.size 73 11 (.slice A (abn b.evs) c) (abn b.evs) (b.evs.flatMap eD)/\abn b.evs<=c)/\Below w.heap.size w d:=
 (q4u A n cp l B w f g hr hc a i j).mono λ_ _ e=>by rw [h] at e;exact e
structure Sb where
 e:Bool
 cpu:Nat
 lost:Nat
 b:Bs
 l:List Sm
structure Sb.Ok (x:Sb):Prop where
 cpu:x.cpu<256
 lost:x.lost<4294967296
 b:x.b.Ok
 l:∀y∈x.l,y.Ok
def Sb.cells (x:Sb) (A:Option Addr) (c:Nat):Array Value:= #[.bool x.e,vB (x.cpu:Int),vW (x.lost:Int),vI x.b.seq,vI x.b.time,.slice A (abn x.l) c]
def zls (x:Sb) (A:Option Addr) (c:Nat):∀v∈(x.cells A c).toList,v.oneCell'=true:=by intro v a;simp [Sb.cells] at a;rcases a with rfl|rfl|rfl|rfl|rfl|rfl<;>rfl
def vC:SI abo 113 6:=⟨by kernel_rfl,by kernel_rfl⟩
def Sb.es (x:Sb):List Ev:=lS x.cpu x.b (x.l.take 60)
def Sb.made (x:Sb):Bk:=if x.e=true then ⟨2,0,0,1+fO x.b.seq 281474976710657,[]⟩ else ⟨1,x.cpu%64,if abn x.es=0/\x.lost=0 then 1 else (x.lost:Int),0,x.es⟩
def YT (w:World) (b:Bk) (r:Ending) (a:World):Prop:=
 (∃A c,r= .returned (.agg (b.cells A c))/\a.ownsRow w.heap.size 73 11 (.slice A (abn b.evs) c) (abn b.evs) (b.evs.flatMap eD)/\abn b.evs<=c)/\Below w.heap.size w a
def Mh {d:Bk} (h:b=d) (a:W.ownsRow w.heap.size 73 11 (.slice A (abn d.evs) c) (abn d.evs) (d.evs.flatMap eD)) (hc:abn d.evs<=c) (hb:Below w.heap.size w W):YT w b (.returned (.agg (d.cells A c))) W:=by
 subst h;exact ⟨⟨A,c,rfl,a,hc⟩,hb⟩
def YU (x:Int):0<=fO x 281474976710657/\fO x 281474976710657<=281474976710656:=by unfold fO;rw [if_neg om];omega
def Qm {x:Sb} (h:x.Ok):∀y∈x.l.take 60,y.Ok:=λy a=>h.l y (acf a)
def zbp {x:Sb} (h:x.Ok):Chain (x.cpu%64) none x.b.based x.es:=quk h.cpu x.b (Qm h)
theorem zlt (x:Sb):abn x.es<=60:=by grind [Sb.es,q0b,lS]
def YV:∀(es:List Ev) (cpu:Nat) (p:Option Ev) (b:Bs),Chain cpu p b es->∀e∈es,e.Ok/\e.cpu=cpu
 |[],_,_,_,_,e,a=>by cases a
 |x::r,cpu,p,b,h,e,a=>by
  obtain ⟨c,d,g,f⟩:=h
  rcases abS.1 a with rfl|a
  ·exact ⟨c.ok,d⟩
  ·exact YV r cpu _ _ f e a
def YW {x:Sb} (h:x.Ok):x.made.Ok/\x.made.err=0/\abn x.made.evs<=60:=by
 unfold Sb.made
 split
 ·have r:=YU x.b.seq
  have c:Bk.Ok ⟨2,0,0,1+fO x.b.seq 281474976710657,[]⟩:=⟨by show 2<256;decide,by show 0<256;decide,by unfold aW;simp,by unfold aW;show _<=1+fO _ _/\1+fO _ _<=_;omega,by intro e l;cases l⟩
  have m:Bk.fits ⟨2,0,0,1+fO x.b.seq 281474976710657,[]⟩=true:=by
   unfold Bk.fits
   rw [if_neg (by show ¬2=1;omega),if_pos rfl]
   unfold Bk.uo
   rw [decide_eq_true_eq]
   exact ⟨by show 1<=1+fO _ _;omega,by show 1+fO _ _<=_;omega,rfl,rfl,rfl⟩
  exact ⟨c,Yp m (by have:=PG ⟨2,0,0,1+fO x.b.seq 281474976710657,[]⟩;simp only [aec] at this;omega),by show 0<=60;omega⟩
 ·have d:=zbp h
  have f:=YV _ _ _ _ d
  have p:=zlt x
  have n:=h.lost
  have q:=Qc x.b
  have g:=(XT q.1 d).1
  obtain ⟨a,o,i,j⟩:∃a:Int,(if abn x.es=0/\x.lost=0 then 1 else (x.lost:Int))=a/\(0<=a/\a<=4294967296)/\(abn x.es=0->0<a):=by
   refine ⟨_,rfl,?_,?_⟩
   ·split<;>omega
   ·intro k;split<;>omega
  rw [o]
  have c:Bk.Ok ⟨1,x.cpu%64,a,0,x.es⟩:=⟨by show 1<256;decide,by show x.cpu%64<256;omega,by unfold aW;show _<=a/\a<=_;omega,by unfold aW;simp,λe l=>(f e l).1⟩
  have m:Bk.fits ⟨1,x.cpu%64,a,0,x.es⟩=true:=by
   unfold Bk.fits
   rw [if_pos rfl]
   unfold Bk.oZ
   rw [decide_eq_true_eq]
   refine ⟨by show (iU x.es).2=0;rw [g],by show x.cpu%64<64;omega,i.1,by show a<=_;omega,rfl,?_⟩
   by_cases k:abn x.es=0
   ·rw [X0 k,decide_eq_true_eq];exact j k
   ·rw [XZ k,decide_eq_true_eq]
    exact (f _ (qf Ev.zero om)).2
  exact ⟨c,Yp m (by have:=PG ⟨1,x.cpu%64,a,0,x.es⟩;simp only at this;omega),p⟩
theorem YX (l:List Sm):l.take (abn (l.take 60))=l.take 60:=by grind
def Gl (n:Nat) (l:List Sm) (h:abn l=n):abO .i64 (if ((60:Int)<(n:Int)) then 60 else (n:Int))=vI ((abn (l.take 60):Nat):Int):=by
 congr 1
 rw [abv]
 split<;>omega
def Ub (s:dL) (c:s.st.av.Ok) (f:bY s.st) (hc:fD s.st) (w:World) (g:eU w s.st):
    Calls abo 44 #[.agg s.cells] w (Is w (vI (dG s:Int))):=by
 refine (eF Tryz.func44 17) ?_
 refine (JP∘JE) λl m=>(bM 1∘JQ∘JB∘JP∘Jg 0 O0∘Jp 2) (Ji (λd=>?_) λd=>?_)
 ·
  exact (Jp 5∘aH∘Jj∘JT∘bF 1∘bC) λb=>by exact ⟨by rw [ZK om];rfl,b.below⟩
 refine (Jg 0 O0∘Jp 3∘aH∘Jj) (Ji (λe=>?_) λe=>?_)
 ·
  exact (JT∘bF 1∘bC) λb=>by exact ⟨by rw [ZK om];rfl,b.below⟩
 refine (JF∘JP∘Jf 1∘Jy (v:= .agg #[vI s.st.au,vQ s.st.aj,abk s.st.gA s.st.gs s.st.gc,abk s.st.lA s.st.cl s.st.lc,abk s.st.uA s.st.cu s.st.uc,abk s.st.tA s.st.ts s.st.tc,abk s.st.sA s.st.rs s.st.sc]) (h:=by exact Pe rfl rfl gG rfl (λ_ h=>h.sub (i:=0) rfl 1 rfl))∘Jo (.agg s.st.cells) (by exact rfl)∘JI (h:=by exact λb=>qu3 s.st c f _ (g.old b))) λj k=>(Jp 2∘gq∘Jj) (Ju (λa=>?_) λa=>?_)
 ·
  exact (JT∘bF 1∘bC) λb=>by exact ⟨by rw [q5y om (by simpa using a)];rfl,b.below⟩
 exact (aU∘bF 1∘bC) λb=>by exact ⟨by rw [ZL om (by simpa using a)];rfl,b.below⟩
abbrev ain:=λa b c d e=>(abl a b c bD 41 1::.blk d #[abk a b c] 117::e:List Fact)
def qs5 (s:dL) (u:s.st.av.Ok) (C:bY s.st) (hc:fD s.st) (w:World) (D:eU w s.st):
    Calls abo 107 #[.agg s.cells] w (QU w (dG s) (jX s)):=by
 refine Fj (vs:=[.agg s.cells]) Tryz.func107 rfl rfl kr (σ0:=[(0,.agg s.cells)]) rfl ?_
 intro a Z
 have b:=Mem.start w
 refine Jb Z b ((JP∘JE) λE k=>(bM 2∘JQ∘JP∘dZ zx O0∘JI (h:=by exact λb=>Ub s u C hc _ (D.old b))) λQ H=>(Jp 1∘bQ∘bA 2∘aK∘Jj) (Jh (λx=>?_) λx=>?_))
 ·
  refine (JT∘bF 3) λa Z b=>?_
  refine Fp ?_
  exact uR rfl Z rfl rfl (q0w _ rfl (zb6 om) b.below)
 have n:dG s=0:=by omega
 have o:=G7 n
 refine (aU∘JP∘JA #[vN]) λI l=>(Jq∘JC (h:=by exact λb=>b.nil 41 1)∘JG∘JQ∘JP∘dZ zx O2∘JL (h:=by exact λb=>q8l s _)) ?_
 rintro b _ J ⟨K,gp,rfl,hm⟩
 refine ⟨_,rfl,_,b.join hm,?_⟩
 refine (aK∘Jj∘JB) λa Z b=>?_
 refine Fh Z b (λF=>∃(q:List Nat) (c:Option Addr) (co:Nat),(q=gI 7 (aN s))/\(abn q<=co)/\F=(ain c q co l [.blk k s.cells 50])) (λ_ _=>False) rfl kr ?_ ?_ (λ_ _ _ _ _ h=>h.elim)
 ·
  clear Z b;intro p B g E y b
  have L:qyv abo w p s (λi F=>∃(q:List Nat) (c:Option Addr) (co:Nat),(q=gI i (aN s))/\(abn q<=co)/\F=(.obj p (.loop (g .ready none)):: .obj B (.deferred (some [])):: (ain c q co l [.blk k s.cells 50]))):=by
   rintro i F fr R z cr ⟨q,c,co,t,j,rfl⟩ hi M b
   replace b:=b.pt (fs':=(ahU p (g .ready none)::abl z (aN s i) cr bD 41 1::ahA B::ain c q co l (.blk k s.cells 50::fr))) 6 [1,0,2,3,4,5]
   refine Ll (v1:= .string (qb i)) (v2:= .slice z (abn (aN s i)) cr) y b de de λa Z=>?_
   refine qo ?_
   refine Jb Z b ((Jp 1∘Jq) λa Z b=>?_)
   have N:abn q<=600000:=by rw [t];exact ZG o om
   have O:=zb5 o hi
   refine ⟨(abl z (aN s i) cr bD 41 1::ahA B::ain c q co l (.blk k s.cells 50::fr)),b.pt (fs':=(ahU p (g .ready none)::abl z (aN s i) cr bD 41 1::ahA B::ain c q co l (.blk k s.cells 50::fr))) 6 [0,1,2,3,4,5],λS b=>?_⟩
   refine wpIn_block ?_
   refine qo ?_
   refine Jb Z b ((Jc O4∘Jp 1∘JD ((aN s i).map bD) 3 (λ_ _=>oV) kD (hr:=by exact λb=>b.rd (i:=1) rfl) (h1:=by exact vM _)) λP d e m=>(JW rQ aO) λG=>(nT∘Jq) λa Z b=>?_)
   have f:abn q+(abn (aN s i))=abn (q++(aN s i)):=nK rfl
   rw [f] at m
   replace b:=b.aY (i:=3) (ys:=(q++(aN s i)).map bD) rfl f (List.map_append.symm)
   rw [f] at b
   refine ⟨(ahA B::ain d (q++(aN s i)) e l (.blk k s.cells 50::fr)),b.pt (fs':=(ahU p (g .busy none)::ahA B::ain d (q++(aN s i)) e l (.blk k s.cells 50::fr))) 6 [0,2,3,4,5],λI b=>?_⟩
   exact ⟨(ahU p (g .ready none)::ahA B::ain d (q++(aN s i)) e l (.blk k s.cells 50::[])),b,rfl,⟨(q++(aN s i)),d,e,by rw [t,zp],m,rfl⟩⟩
  refine (q19 w E K gp p s u C D hc o _ _ L ⟨[],none,0,rfl,abr _,rfl⟩ (b.pk [2,3,0,1,4,5,6])).mono ?_
  rintro r T ⟨v,rfl,U,A,⟨q,c,co,t,j,rfl⟩⟩
  exact ⟨v,rfl,.inl ⟨_,⟨q,c,co,t,j,rfl⟩,A⟩⟩
 clear Z b;rintro B a V _ ⟨q,c,co,t,j,rfl⟩ Z b
 refine Jb Z b ((JG∘JP∘Jc O2∘bM 2∘JZ) λa Z b=>?_)
 refine Bz Z b (i:=0) rfl λa W Z b=>?_
 exact uR rfl Z rfl rfl (q0v (sZ:=0) n.symm (by rw [Eb n,t];rfl) (b.own (i:=1) rfl) j b.below)
def NC:EI abo 298 435 (.agg #[.string (ByteArray.mk #[]),vI 0,vI 0]) 3 32:=⟨by kernel_rfl,by kernel_rfl,rfl,by omega⟩
def q2a (s:dL) (f:s.st.av.Ok) (r:bY s.st) (hc:fD s.st) (B:Nat) (w:World) (v:aT B w) (t:B<=w.heap.size) (x:eU w s.st):
    Calls abo 46 #[.agg s.cells] w (zr w (dG s) (cZ s)):=by
 refine (eF Tryz.func46 22) ?_
 refine (JP∘JE) λO P=>(Jp 2∘Jr∘dZ zx O0∘JK (h:=by exact λc=>qs5 s f r hc _ (x.old c))) λy z Q A=>(Jp 1∘Jx∘Jx∘bM 2∘bN 2∘aK∘Jj) (Jh (λg=>?_) λg=>?_)
 ·
  exact (JT∘bF 3∘bO) λc=>q0x _ rfl (q5z om) c.below
 have d:dG s=0:=by omega
 have j:=G7 d
 have k:=QS j
 rw [<-Eb d] at k
 have C:=zb8 j
 have l:=zb7 s
 rw [<-Eb d] at l
 have D:=zq (jX s)
 refine (aU∘JP∘JU bn #[vB 113,vB 115,vB 1]) λE F=>λa Z c=>?_
 refine fo Z 1 rfl rfl ?_
 refine Zt Z c 0 (e:=5) rfl rfl rfl kr kr rfl de ?_
 clear Z c;intro a G Z c
 refine Jb Z c ((Jp 1∘JK (h:=by exact λc=>Lv y (abn (jX s)) z (jX s) _ (c.rd (i:=1) rfl) (by rw [Eb d];exact ZH f r) (by have:=k;omega))) λH I J u=>λa Z c=>?_)
 refine fo Z 4 rfl rfl ?_
 refine Wn Z c (xs:=([113,115,1]:List Nat).map B8) (news:=((jX s).flatMap ak).map B8) rfl bn rfl rfl (c.vO (i:=1) (size:=1) (n:=3) rfl rfl) (c.rd (i:=0) rfl) om om (λh=>by cases h) om om rfl de ?_
 clear Z c;intro a K m o Z c p
 have b:3+abn ((jX s).flatMap ak)=abn (fV s):=zma d
 rw [b] at p
 replace c:=c.aY (i:=0) (ys:=(fV s).map B8) rfl b (q0y d)
 replace Z:=Z.sp 18 (vS m (abn (fV s)) o) rfl (iB b)
 exact Jb Z c ((JK (h:=by exact λc=>Px (some ⟨m,0,none⟩) (abn (fV s)) o (fV s) B _ (v.mem c t) (c.le t) (c.rd (i:=0) rfl) rfl om (ZJ s))) λL M N q=>(Jx∘Jx∘bM 2∘JZ∘bO) λc=>q0z (sZ:=0) d.symm (Ec d).symm (c.own (i:=0) rfl) q c.below)
def q9b (x:Sb) (s:x.Ok) (A:Option Addr) (c:Nat) (w:World) (hr:Rd w w.heap.size 11 A (abn x.l) (x.l.flatMap rU)) (hc:abn x.l<=c) (P:abn x.l<=9223372036854775807):
    Calls abo 43 #[.agg (x.cells A c)] w (YT w x.made):=by
 refine (eF Tryz.func43 42) ?_
 refine (JP∘JE) λQ G=>(JA aiz) λR H=>(Jq) ?_
 have E:=s.lost
 have I:=s.cpu
 obtain ⟨es,q⟩:∃es,es=x.es:=⟨_,rfl⟩
 refine (JG∘JQ∘JP∘Jg 0 O1∘Jj) (Ju (λr=>?_) λr=>?_)
 ·
  refine (JT∘JP∘Jf 3∘Jg 0 O1∘JL (h:=by exact λe=>YB x.b.seq 281474976710657 s.b.seq (by unfold aW;omega) _)) ?_
  rintro e _ S ⟨rfl,rfl⟩
  refine ⟨_,rfl,_,e,?_⟩
  refine (Jp 1∘Jo (vI (1+fO x.b.seq 281474976710657)) (by have h:=YU x.b.seq;rw [IntWalk.i64_in _ om])∘eH #[vB 2,vB 0,vI 0,vI (1+fO x.b.seq 281474976710657),vN]∘JV aG aO) λJ=>(qI∘aP) λa Z e=>?_
  exact iM rfl Z (.cellS (i:=0) Z e rfl rfl aG rfl) (Mh (b:=x.made) (d:=⟨2,0,0,1+fO x.b.seq 281474976710657,[]⟩) (A:=none) (c:=0) (by unfold Sb.made;rw [if_pos r]) (acA _ _ _ _) (abr _) e.below)
 refine (aU) λa Z e=>?_
 refine qz (λM N=>∃(m:Option Addr) (g:Nat) (u:Nat),Fr M 42 [] [(3,vP u 0),(5,.bool false),(2,vP H 0),(1,vP G 0)]/\Mem w N [.blk u #[vB 1,vB (x.cpu%64:Nat),vI x.lost,vI 0,abk m es g] 85,abm m es g eD 73 11,ahG H,.blk G (x.cells A c) 113]/\(abn es<=g)) ?_ ?_
 ·
  refine Jb Z e ((Vs .n [20]) λO=>(Vf 0 1∘Vf 3 2∘Vf 6 1∘Vf 8 3∘Vf 10 5∘Vf 12 5∘Vc 1 O1∘Vp [2]∘Vo (vB (x.cpu%64:Nat)) (by exact ze .u8 _ 64)∘Vc 4 O1∘Vw 5 .i64∘Vc 7 O1∘Vy 9 (v:= .agg #[vI x.b.seq,vI x.b.time]) (h:=by exact Pe rfl rfl ⟨kr,kr⟩ rfl (λ_ h=>h.sub (i:=1) rfl 3 rfl))∘Vc 11 O1∘Vc 13 O1∘Vl 14∘Vy 15 (v:=vI (if (60:Int)<(abn x.l:Int) then 60 else (abn x.l:Int))) (h:=by exact Yl.min rfl rfl rfl)∘Vo (vI (abn (x.l.take 60))) (by exact Gl _ _ rfl)∘Vy 16 (h:=by exact aag Ai (j:=abn (x.l.take 60)) rfl rfl rfl (by rw [abv];omega))) λa Z e p=>?_)
  refine zd [17,19] kr rfl ?_
  refine all_cons ?_ ?_
  ·refine qq Z (i:=17) rfl rfl ?_
   refine lq Z [vB x.cpu,.agg #[vI x.b.seq,vI x.b.time],abk A (x.l.take 60) c] rfl rfl (YG x.cpu s.cpu x.b s.b _ _ _ (x.l.take 60) (Qm s) _ (by have h:=(e.old hr).upto (k:=abn (x.l.take 60)) (by rw [abv];omega);rw [Mf rU 11 D6] at h;rwa [YX] at h) (by rw [abv];omega) (by rw [abv];omega)) ?_
   rintro _ F ⟨⟨v,rfl,y⟩,z⟩
   rw [show lS x.cpu x.b (x.l.take 60)=x.es from rfl,<-q] at y
   revert p;revert e;revert a;repeat (first|clear Z|clear e|clear p)
   intro a Z e p
   obtain ⟨m,g,rfl,o⟩:=Br y
   refine ⟨_,rfl,?_⟩
   replace e:=e.bX z y
   clear Z;intro a Z
   refine ay (e.pk [1,2]) (λp=>?_)
   refine Vb Z e p ((Vy 18 (v:= .agg #[vB 1,vB (x.cpu%64:Nat),vI x.lost,vI 0,abk m es g]) (h:=by exact Yl.build (vs:=[(0,vB 1),(1,vB (x.cpu%64:Nat)),(2,vI x.lost),(4,abk m es g)]) rfl kr kr)∘VA 19 (.f .n) aiz) λK u=>λa Z e p=>?_)
   refine s_on Z 20 rfl (bT Z e 0 rfl rfl rfl rfl rfl aG rfl rfl (by simp [abR]) λB e=>?_)
   refine dN kr ?_
   refine qe kr ?_
   exact ⟨m,g,u,Z.sub kr,e.pk [0,1,2,3],o⟩
  refine all_cons ?_ all_nil
  refine qq Z (i:=19) rfl rfl ?_
  refine gZ Z e aiz ?_
  clear Z e;intro a K u Z e
  refine ay (e.pk [1,2]) (λp=>?_)
  refine s_on Z 17 rfl ?_
  refine lq Z [vB x.cpu,.agg #[vI x.b.seq,vI x.b.time],abk A (x.l.take 60) c] rfl rfl (YG x.cpu s.cpu x.b s.b _ _ _ (x.l.take 60) (Qm s) _ (by have h:=(e.old hr).upto (k:=abn (x.l.take 60)) (by rw [abv];omega);rw [Mf rU 11 D6] at h;rwa [YX] at h) (by rw [abv];omega) (by rw [abv];omega)) ?_
  rintro _ F ⟨⟨v,rfl,y⟩,z⟩
  rw [show lS x.cpu x.b (x.l.take 60)=x.es from rfl,<-q] at y
  revert p;revert e;revert a;repeat (first|clear Z|clear e|clear p)
  intro a Z e p
  obtain ⟨m,g,rfl,o⟩:=Br y
  refine ⟨_,rfl,?_⟩
  replace e:=e.bX z y
  clear Z;intro a Z
  refine ay (e.pk [2,3]) (λp=>?_)
  refine Vb Z e p ((Vy 18 (v:= .agg #[vB 1,vB (x.cpu%64:Nat),vI x.lost,vI 0,abk m es g]) (h:=by exact Yl.build (vs:=[(0,vB 1),(1,vB (x.cpu%64:Nat)),(2,vI x.lost),(4,abk m es g)]) rfl kr kr)) λa Z e p=>?_)
  refine s_on Z 20 rfl (bT Z e 1 rfl rfl rfl rfl rfl aG rfl rfl (by simp [abR]) λB e=>?_)
  refine dN kr ?_
  refine qe kr ?_
  exact ⟨m,g,u,Z.sub kr,e.pk [1,0,2,3],o⟩
 clear Z e;rintro a K ⟨m,g,u,Z,e,o⟩
 refine Jb Z e ((JQ∘JP∘Jg 4 O0∘Jl∘Jp 2) (Je (λC=>?_) λC=>?_))
 ·
  refine (Jg 2 O0∘Jp 2∘aH∘Jj) (Je (λD=>?_) λD=>?_)
  ·
   refine (JT∘JR∘Jf 2∘JW aO iq) λL=>(ny∘Jr∘dZ aG O0∘JV aG iq) λt=>(ny∘aP) λa Z e=>?_
   exact iM rfl Z (.cellS (i:=2) Z e rfl rfl aG rfl) (Mh (b:=x.made) (d:=⟨1,x.cpu%64,1,0,es⟩) (by unfold Sb.made;rw [if_neg (by rw [r];decide),<-q,if_pos ⟨by omega,by omega⟩]) (e.own (i:=1) rfl) o e.below)
  refine (aU∘JP∘dZ aG O0∘JV aG iq) λt=>(ny∘aP) λa Z e=>?_
  exact iM rfl Z (.cellS (i:=2) Z e rfl rfl aG rfl) (Mh (b:=x.made) (d:=⟨1,x.cpu%64,(x.lost:Int),0,es⟩) (by unfold Sb.made;rw [if_neg (by rw [r];decide),<-q,if_neg om]) (e.own (i:=1) rfl) o e.below)
 refine (Jp 4∘aH∘Jj∘aU∘JP∘dZ aG O0∘JV aG iq) λt=>(ny∘aP) λa Z e=>?_
 exact iM rfl Z (.cellS (i:=2) Z e rfl rfl aG rfl) (Mh (b:=x.made) (d:=⟨1,x.cpu%64,(x.lost:Int),0,es⟩) (by unfold Sb.made;rw [if_neg (by rw [r];decide),<-q,if_neg om]) (e.own (i:=1) rfl) o e.below)
def Ay {v r w:Nat} (h:bV v r w=true):1<=w/\w<=65536/\r<w/\(v<18446744073709551615\/r=0):=by
 unfold bV at h
 rw [decide_eq_true_eq] at h
 omega
def zmd {v r w:Nat} (h:1<=w/\w<=65536/\r<w/\(v<18446744073709551615\/r=0)):bV v r w=true:=by
 unfold bV
 rw [decide_eq_true_eq]
 omega
def Ra {z:Nat} (a:c<18446744073709551616) (hz:1<=z/\z<=65536):(⟨c,0,z⟩:En).Ok:=⟨zmd ⟨hz.1,hz.2,by show 0<z;omega,.inr rfl⟩,a⟩
def Hr (x:En) (a:x.Ok) (w:World):Calls abo 218 #[.agg x.cells] w (Is w (.bool true)):=by
 have c:=Ay a.1
 have b:=QD x.v x.r x.w a.2 om om w
 rw [a.1] at b
 exact b
def q06 (z:Nat) (hz:1<=z/\z<=65536) (w:World):Calls abo 267 #[vI z] w (Is w (.bool true)):=by
 have a:=Zu z w
 rw [decide_eq_true om] at a
 exact a
def q6d (x:En) (e:x.Ok) (d:Nat) (q:d<=4294967295) (w:World):
    Calls abo 266 #[.agg x.cells,vI d] w (Is w (.agg (x.add d).cells)):=by
 have j:=Ay e.1
 have k:=e.2
 have l:=Nat.div_le_self (d*1048576+x.r) x.w
 have o:=adW (d*1048576+x.r) (show x.w>0 by omega)
 refine (jf Tryz.func266 42) ?_
 refine (JP∘JE) λs t=>(JA #[vQ 0,vW 0,vW 0]) λu y=>(bA 1∘Jw .u64∘Jp 1∘Jo (vQ (d*1048576:Nat)) (by exact xB om om)∘Jg 1 O1∘Jw .u64∘Ja∘Jp 1∘aH∘Jj) λa Z b=>?_
 refine wp_seq ?_
 refine Jb Z b ((Vs .n []) λp=>(Vp [0]∘Vf 1 2∘Vp [5]∘Vf 6 2∘Vc 2 O1∘Vw 3 .u64∘Vy 4 (v:=vQ ((d*1048576+x.r)/x.w:Nat)) (h:=by exact abf (m:=(d*1048576+x.r)) (n:=x.w) rfl rfl rfl om (by show _<=18446744073709551615;omega))∘Vp [10]∘Vc 7 O1∘Vw 8 .u64∘Vy 9 (v:=vQ ((d*1048576+x.r)%x.w:Nat)) (h:=by exact aaw (m:=(d*1048576+x.r)) (n:=x.w) rfl rfl rfl om)∘Vp [11]∘Vd∘dY∘bN 1∘Jg 0 O1∘Jp 1∘Jo (vQ (18446744073709551615-x.v:Nat)) (by exact xB om om)∘Jp 1∘dY∘Jj) (Ji (λc=>?_) λc=>?_))
 ·
  refine (JT∘JP∘Jg 2 O1∘eH #[vQ 18446744073709551615,vW 0,vW x.w]∘JV qp aO) λf=>(nA∘aP) λa Z b=>?_
  exact iM rfl Z (.cellS (i:=0) Z b rfl rfl qp rfl) (⟨by rw [show x.add d=⟨nJ,0,x.w⟩ from if_pos (by show 18446744073709551615-x.v<=_;omega)];rfl,b.below⟩)
 refine (aU∘JP∘Jg 0 O1∘Jp 1∘Ja∘Jp 1∘Jv 1 [(38,vW (IntKind.u32.wrap (((d*1048576+x.r)%x.w:Nat):Int)))]∘Jo (vW ((d*1048576+x.r)%x.w:Nat)) (by exact Bw rfl om)∘Jg 2 O1∘eH #[vQ (x.v+((d*1048576+x.r)/x.w):Nat),vW ((d*1048576+x.r)%x.w:Nat),vW x.w]∘JV qp aO) λg=>(iQ∘aP) λa Z b=>?_
 exact iM rfl Z (.cellS (i:=0) Z b rfl rfl qp rfl) (⟨by rw [show x.add d=⟨x.v+(d*1048576+x.r)/x.w,(d*1048576+x.r)%x.w,x.w⟩ from if_neg (by show ¬18446744073709551615-x.v<=_;omega)];rfl,b.below⟩)
def q07 (d:Int) (w:World):Calls abo 265 #[vI d] w (Is w (.bool (decide (0<=d/\d<=4294967295)))):=by
 refine (eF Tryz.func265 9) ?_
 refine (aJ 1∘bA 3) (Ji (λa=>?_) λa=>?_)
 ·
  exact (Jp 4∘aH∘aP∘bC) λb=>Cm om b.below
 exact (Jp 4∘aH∘aP∘bC) λb=>lW om b.below
def q08 (d:Nat) (b:d<=4294967295) (w:World):Calls abo 265 #[vI d] w (Is w (.bool true)):=by
 have a:=q07 d w
 rw [decide_eq_true om] at a
 exact a
def zcd (x:En) (e:x.Ok) (d:Nat) (f:d<=4294967295) (w:World):
    Calls abo 210 #[.agg x.cells,vI d] w (Is w (.tuple #[.agg (x.add d).cells,vI 0])):=by
 refine (jf Tryz.func210 18) ?_
 refine (JP∘JE) λl m=>(JA #[vQ 0,vW 0,vW 0]) λn o=>(bM 1∘JQ∘JP∘dZ qp O1∘JI (h:=by exact λb=>Hr x e _)) λp c=>(Jp 3∘JI (h:=by exact λb=>q08 d f _)) λj c=>(Jp 2∘aH∘Jj∘aU∘JP∘dZ qp O1∘Jp 1∘JI (h:=by exact λb=>q6d x e d f _)) λk c=>(JV qp aO (h1:=by exact mh (x.add d))) λg=>(Jp 1∘dY∘aP) λa Z b=>?_
 exact dI rfl Z (.cellS (i:=0) Z b rfl rfl qp rfl) (.tmp Z rfl) (⟨rfl,b.below⟩)
def Ee (x:En) (e:x.Ok) (z:Nat) (hz:1<=z/\z<=65536) (w:World):
    Calls abo 212 #[.agg x.cells,vI z] w (Is w (.tuple #[.agg (⟨x.v,0,z⟩:En).cells,vI 0])):=by
 refine (jf Tryz.func212 20) ?_
 refine (JP∘JE) λg j=>(JA #[vQ 0,vW 0,vW 0]) λk l=>(bM 1∘JQ∘JP∘dZ qp O1∘JI (h:=by exact λb=>Hr x e _)) λm c=>(Jp 3∘JI (h:=by exact λb=>q06 z hz _)) λf c=>(Jp 2∘aH∘Jj∘aU∘JP∘Jg 0 O1∘Jp 1∘Jv 1 [(18,vW (IntKind.u32.wrap (z:Int)))]∘Jo (vW z) (by exact Bw rfl om)∘eH #[vQ x.v,vW 0,vW z]∘JV qp aO) λd=>(Jp 1∘gq∘aP) λa Z b=>?_
 exact dI rfl Z (.cellS (i:=0) Z b rfl rfl qp rfl) (.tmp Z rfl) (⟨rfl,b.below⟩)
def qxw (a b:Nat) (c:a<18446744073709551616) (hb:b<18446744073709551616) (w:World):
    Calls abo 264 #[vQ a,vQ b] w (Is w (vQ ((a-b:Nat):Int))):=by
 refine (jf Tryz.func264 10) ?_
 exact (aJ 1∘bA 3∘Jy (v:=vQ (if (b:Int)<(a:Int) then (b:Int) else (a:Int))) (h:=by exact Yl.min rfl rfl rfl)∘Jp 1∘Jo (vQ (a-b:Nat)) (by split<;>exact (xB (m:=a-b) om om))∘Jp 1∘kW∘aP) uj
def zih (a b:Nat) (c:a<18446744073709551616) (hb:b<18446744073709551616) (w:World):
    Calls abo 304 #[vQ a,vQ b] w (Is w (vQ ((a+min b (18446744073709551615-a):Nat):Int))):=by
 refine (jf Tryz.func304 11) ?_
 exact (aJ 1∘bA 4∘Jo (vQ (18446744073709551615-a:Nat)) (by exact xB om om)∘Jy (v:=vQ (if ((18446744073709551615-a:Nat):Int)<(b:Int) then ((18446744073709551615-a:Nat):Int) else (b:Int))) (h:=by exact Yl.min rfl rfl rfl)∘Jo (vQ (min b (18446744073709551615-a):Nat)) (by rw [Nat.min_def];split<;>split<;>first|rfl|(congr 1;omega))∘Jp 1∘Jo (vQ (a+min b (18446744073709551615-a):Nat)) (by exact xB om om)∘Jp 1∘aH∘aP) uj
def qxx (b z:Nat) (f:b<18446744073709551616) (hz:1<=z/\z<=65536) (w:World):
    Calls abo 201 #[vQ b,vI z] w (Is w (.tuple #[.agg (⟨b,0,z⟩:En).cells,vI 0])):=by
 refine (jf Tryz.func201 23) ?_
 refine (JP∘JA #[vQ 0,vW 0,vW 0]) λk l=>(Jp 1∘bA 2∘Jv 1 [(9,vW (IntKind.u32.wrap (z:Int)))]∘Jo (vW z) (by exact Bw rfl om)∘eH #[vQ b,vW 0,vW z]∘JA #[vQ 0,vW 0,vW 0]) λm n=>(JV qp aO) λd=>(gq∘Jj∘JQ∘JP∘Jg 2 O0∘Jw .i64∘Jp 2∘Jo (.bool false) (by simp)∘Jp 1∘dZ qp O0∘JI (h:=by exact λc=>Hr (⟨b,0,z⟩:En) (Ra f hz) _)) λg j=>(Jp 2∘aH∘Jj∘aU∘JP∘dZ qp O0∘JV qp fJ) λe=>(Jp 1∘aK∘aP) λa Z c=>?_
 exact dI rfl Z (.cellS (i:=1) Z c rfl rfl qp rfl) (.tmp Z rfl) (⟨rfl,c.below⟩)
def q6e (x:En) (f:x.Ok) (b cr:Nat) (k:b<18446744073709551616) (hc:cr<18446744073709551616) (w:World):
    Calls abo 207 #[.agg x.cells,vQ b,vQ cr] w (Is w (.tuple #[.agg (x.woken b cr).cells,vI 0])):=by
 have l:=f.2
 refine (uU Tryz.func207 25) ?_
 refine (JP∘JE) λo p=>(JA #[vQ 0,vW 0,vW 0]) λq r=>(bM 1∘JQ∘JP∘dZ qp O1∘JI (h:=by exact λc=>Hr x f _)) λm e=>(Jp 1∘bQ∘Jj∘aU∘bN 2∘JI (h:=by exact λc=>qxw b cr k hc _)) λn e=>(Jp 1∘dY∘bA 1∘Jg 0 O1∘Jp 1∘bQ∘Jj) (Ji (λd=>?_) λd=>?_)
 ·
  refine (JT∘aJ 1∘Jg 2 O1∘eH #[vQ (b-cr:Nat),vW 0,vW x.w]∘JV qp aO) λg=>(Jp 1∘dY∘aP) λa Z c=>?_
  exact dI rfl Z (.cellS (i:=0) Z c rfl rfl qp rfl) (.tmp Z rfl) (⟨by rw [show x.woken b cr=⟨b-cr,0,x.w⟩ from if_pos om];rfl,c.below⟩)
 refine (aU∘JP∘dZ qp O1∘JV qp aO (h1:=by exact mh x)) λj=>(Jp 1∘aK∘aP) λa Z c=>?_
 exact dI rfl Z (.cellS (i:=0) Z c rfl rfl qp rfl) (.tmp Z rfl) (⟨by rw [show x.woken b cr=x from if_neg om],c.below⟩)
def q6f (x:En) (l:x.Ok) (fr to:Nat) (o:fr<18446744073709551616) (f:to<18446744073709551616) (w:World):
    Calls abo 269 #[.agg x.cells,vQ fr,vQ to] w (Is w (.tuple #[.agg (x.moved fr to).cells,vI 0])):=by
 have p:=l.2
 refine (uU Tryz.func269 35) ?_
 refine (JP∘JE) λt u=>(JA #[vQ 0,vW 0,vW 0]) λy z=>(bM 1∘JQ∘JP∘dZ qp O1∘JI (h:=by exact λb=>Hr x l _)) λA g=>(Jp 1∘bQ∘Jj∘aU∘JQ∘JP∘Jg 0 O1∘Jp 2∘bQ∘Jj) (Ji (λj=>?_) λj=>?_)
 ·
  have c:tH x.v fr to=to+min (x.v-fr) (18446744073709551615-to):=if_pos om
  refine (JT∘JR∘Jp 1∘Jg 0 O1∘Jp 1∘Js∘JI (h:=by exact λb=>zih to (x.v-fr) f om _)) λq g=>(Jf 0) λa Z b=>?_
  refine fo Z 7 rfl rfl ?_
  refine qG Z b (i:=1) rfl rfl rfl rfl kr rfl rfl (by simp [En.cells]) λm b=>?_
  refine Jb Z b ((iQ∘Jj∘JQ∘JP∘Jg 0 O1∘Jp 1∘aK∘Jj) (Je (λd=>?_) λd=>?_))
  ·
   refine (JT∘JR∘Jf 1∘JW fJ fJ) λk=>(ny∘Jr∘Jy (v:= .agg #[vQ (to+min (x.v-fr) (18446744073709551615-to):Nat),vW 0,vW x.w]) (h:=by exact Pe rfl rfl qp rfl (λ_ h=>qj (h.blk (i:=1) rfl)))∘JV qp aO) λe=>(Jp 1∘aK∘aP) λa Z b=>?_
   exact dI rfl Z (.cellS (i:=0) Z b rfl rfl qp rfl) (.tmp Z rfl) (⟨by rw [show x.moved fr to=⟨tH x.v fr to,0,x.w⟩ from congrArg (λr=>(⟨_,r,_⟩:En)) (if_pos (by rw [c];show _=18446744073709551615;omega)),c];rfl,b.below⟩)
  refine (aU∘JP∘Jy (v:= .agg #[vQ (to+min (x.v-fr) (18446744073709551615-to):Nat),vW x.r,vW x.w]) (h:=by exact Pe rfl rfl qp rfl (λ_ h=>qj (h.blk (i:=1) rfl)))∘JV qp aO) λe=>(Jp 1∘aK∘aP) λa Z b=>?_
  exact dI rfl Z (.cellS (i:=0) Z b rfl rfl qp rfl) (.tmp Z rfl) (⟨by rw [show x.moved fr to=⟨tH x.v fr to,x.r,x.w⟩ from congrArg (λr=>(⟨_,r,_⟩:En)) (if_neg (by rw [c];show ¬_=18446744073709551615;omega)),c];rfl,b.below⟩)
 have c:tH x.v fr to=to- (fr-x.v):=(if_neg om).trans om
 refine (JF∘JR∘Jp 2∘Jg 0 O1∘Js∘JI (h:=by exact λb=>qxw to (fr-x.v) f om _)) λs g=>(Jf 0) λa Z b=>?_
 refine fo Z 7 rfl rfl ?_
 refine qG Z b (i:=1) rfl rfl rfl rfl kr rfl rfl (by simp [En.cells]) λn b=>?_
 refine Jb Z b ((iQ∘Jj∘JQ∘JP∘Jg 0 O1∘Jp 1∘aK∘Jj) (Je (λd=>?_) λd=>?_))
 ·
  refine (JT∘JR∘Jf 1∘JW fJ fJ) λk=>(ny∘Jr∘Jy (v:= .agg #[vQ (to- (fr-x.v):Nat),vW 0,vW x.w]) (h:=by exact Pe rfl rfl qp rfl (λ_ h=>qj (h.blk (i:=1) rfl)))∘JV qp aO) λe=>(Jp 1∘aK∘aP) λa Z b=>?_
  exact dI rfl Z (.cellS (i:=0) Z b rfl rfl qp rfl) (.tmp Z rfl) (⟨by rw [show x.moved fr to=⟨tH x.v fr to,0,x.w⟩ from congrArg (λr=>(⟨_,r,_⟩:En)) (if_pos (by rw [c];show _=18446744073709551615;omega)),c];rfl,b.below⟩)
 refine (aU∘JP∘Jy (v:= .agg #[vQ (to- (fr-x.v):Nat),vW x.r,vW x.w]) (h:=by exact Pe rfl rfl qp rfl (λ_ h=>qj (h.blk (i:=1) rfl)))∘JV qp aO) λe=>(Jp 1∘aK∘aP) λa Z b=>?_
 exact dI rfl Z (.cellS (i:=0) Z b rfl rfl qp rfl) (.tmp Z rfl) (⟨by rw [show x.moved fr to=⟨tH x.v fr to,x.r,x.w⟩ from congrArg (λr=>(⟨_,r,_⟩:En)) (if_neg (by rw [c];show ¬_=18446744073709551615;omega)),c];rfl,b.below⟩)
def xR {α:Type} {l:List α} {t u:α} (h:l[i]?=some t):(l.set i u)[i]?=some u:=ac9 (abB.1 h).1
theorem lQ.split {α:Type} {a b:α} {l m:List α} (h:lQ a b l m):∃p q,l=p++a::q/\m=p++b::q:=by
 induction h with
 |z=>exact ⟨[],_,rfl,rfl⟩
 |s _ c=>obtain ⟨p,q,rfl,rfl⟩:=c;exact ⟨_::p,q,rfl,rfl⟩
def q6g (W w:World) (g d tc i:Nat) (ts:List Tk) (t:Tk) (ht:ts[i]?=some t) (q:abn ts=d) (x:En) (k:x.Ok) (fs:List Fact) (b:Mem W w (fT (some ⟨g,0,none⟩) d tc ts::fs)):
    Calls abo 202 #[.pointer (some ⟨g,i*8,none⟩),.agg x.cells] w (λr l=>r= .returned (.tuple #[])/\Mem W l (fT (some ⟨g,0,none⟩) d tc (ts.set i (t.put x))::fs)):=by
 have m:=(abB.1 ht).1
 have o:=Ay k.1
 refine (mg b ahb 20) ?_
 refine (JP∘JE) λs u=>(Jj∘Vs (.t (.f .n)) [18]) λp=>(Vp [0,1,2]∘Vf 3 0∘Vf 5 1∘Vf 7 2∘Vc 4 O0∘Vc 6 O0∘Vc 8 O0∘Vw 9 .i64∘Vn 10∘Vf 11 6) λa Z b c=>?_
 refine s_on Z 12 rfl ?_
 refine zf Z b (i:=1) rfl rfl rfl rfl kr rfl rfl (by rw [qQ bS 8 ql];omega) λe b=>?_
 replace b:=b.dw (i:=1) (ys:=(ts.set i ({t with v:=x.v})).flatMap bS) rfl (uL bS 8 ql ts i t ({t with v:=x.v}) ht 6 de _ rfl)
 refine ay (b.pt 2 [0]) (λc=>?_)
 refine Vb Z b c ((Vn 13∘Vf 14 7) λa Z b c=>?_)
 refine s_on Z 15 rfl ?_
 refine zf Z b (i:=1) rfl rfl rfl rfl kr rfl rfl (by rw [qQ bS 8 ql,abJ];omega) λh b=>?_
 replace b:=b.dw (i:=1) (ys:=(ts.set i ({t with v:=x.v,r:=x.r})).flatMap bS) rfl ((uL bS 8 ql (ts.set i ({t with v:=x.v})) i ({t with v:=x.v}) ({t with v:=x.v,r:=x.r}) (xR ht) 7 de _ rfl).trans (by rw [ae1]))
 refine ay (b.pt 2 [0]) (λc=>?_)
 refine Vb Z b c ((Vn 16∘Vf 17 2) λa Z b c=>?_)
 refine s_on Z 18 rfl ?_
 refine zf Z b (i:=1) rfl rfl rfl rfl kr rfl rfl (by rw [qQ bS 8 ql,abJ];omega) λj b=>?_
 replace b:=b.dw (i:=1) (ys:=(ts.set i (t.put x)).flatMap bS) rfl ((uL bS 8 ql (ts.set i ({t with v:=x.v,r:=x.r})) i ({t with v:=x.v,r:=x.r}) (t.put x) (xR ht) 2 de _ rfl).trans (by rw [ae1]))
 refine dN kr ?_
 refine qe kr ?_
 exact iF rfl Z ⟨rfl,b.pt 2 [1]⟩
def MQ {tc:Nat} {ts:List Tk} {L:List Fact} (t:Tk) (x:En) (O:lQ (fT (some ⟨g,0,none⟩) c tc ts) (fT (some ⟨g,0,none⟩) c tc (ts.set i (t.put x))) F L) (b:Mem W w F) (ht:ts[i]?=some t) (d:abn ts=c) (e:x.Ok):
  Calls abo 202 #[.pointer (some ⟨g,i*8,none⟩),.agg x.cells] w (λr a=>r= .returned (.tuple #[])/\Mem W a L):=by
 obtain ⟨p,q,rfl,rfl⟩:=O.split
 exact (q6g W w g c tc i ts t ht d x e (p++q) (b.perm ac6)).mono λr a h=>⟨h.1,h.2.perm List.perm_middle.symm⟩
def q09 (W w:World) (g:Nat) (t:Tk) (x:En) (i:x.Ok) (fs:List Fact) (b:Mem W w (.blk g t.cells 232::fs)):
    Calls abo 202 #[vP g 0,.agg x.cells] w (λr j=>r= .returned (.tuple #[])/\Mem W j (.blk g (t.put x).cells 232::fs)):=by
 have k:=Ay i.1
 replace b:Mem W w (.blk g #[vI t.id,vI t.group,vI t.weight,vI t.cpu,vQ t.mask,.bool t.ready,vQ t.v,vW t.r] 232::fs):=b
 refine (mg b ahb 20) ?_
 refine (JP∘JE) λm o=>(Jj∘Vs (.t (.f .n)) [18]) λl=>(Vp [0,1,2]∘Vf 3 0∘Vf 5 1∘Vf 7 2∘Vc 4 O0∘Vc 6 O0∘Vc 8 O0∘Vw 9 .i64∘Vn 10∘Vf 11 6) λa Z b c=>?_
 refine s_on Z 12 rfl (eG Z b 1 λd b=>?_)
 refine ay (b.pt 2 [0]) (λc=>?_)
 refine Vb Z b c ((Vn 13∘Vf 14 7) λa Z b c=>?_)
 refine s_on Z 15 rfl (eG Z b 1 λe b=>?_)
 refine ay (b.pt 2 [0]) (λc=>?_)
 refine Vb Z b c ((Vn 16∘Vf 17 2) λa Z b c=>?_)
 refine s_on Z 18 rfl (eG Z b 1 λh b=>?_)
 refine dN kr ?_
 refine qe kr ?_
 exact iF rfl Z ⟨rfl,b.pt 2 [1]⟩
def zii {L:List Fact} (t:Tk) (x:En) (O:lQ (.blk g t.cells 232) (.blk g (t.put x).cells 232) F L) (b:Mem W w F) (c:x.Ok):
  Calls abo 202 #[vP g 0,.agg x.cells] w (λr a=>r= .returned (.tuple #[])/\Mem W a L):=by
 obtain ⟨p,q,rfl,rfl⟩:=O.split
 exact (q09 W w g t x c (p++q) (b.perm ac6)).mono λr a h=>⟨h.1,h.2.perm List.perm_middle.symm⟩
def MR (id:Int) (w:World):Calls abo 197 #[vI id] w (Is w (.bool (decide (1<=id/\id<=65535)))):=by
 refine (eF Tryz.func197 9) ?_
 refine (aJ 1∘bA 3) (Ji (λa=>?_) λa=>?_)
 ·
  exact (Jp 4∘aH∘aP∘bC) λb=>Cm om b.below
 exact (Jp 4∘aH∘aP∘bC) λb=>lW om b.below
def zij (d:Nat) (cp:Int) (cr:Nat) (gA:Option Addr) (e gc:Nat) (lA:Option Addr) (f lc:Nat) (uA:Option Addr) (g uc:Nat) (tA:Option Addr) (i tc:Nat) (sA:Option Addr) (j sc:Nat) (c:Int) (w:World)
    (hm:w.heap[d]?=some (.cells #[vI cp,vQ cr,.slice gA e gc,.slice lA f lc,.slice uA g uc,.slice tA i tc,.slice sA j sc,.bool true] 273 (0,0))):
    Calls abo 196 #[vP d 0,vI c] w (Is w (.bool (decide (0<=c/\c<cp)))):=by
 refine (jf Tryz.func196 17) ?_
 refine (aJ 1∘bA 3) (Ji (λa=>?_) λa=>?_)
 ·
  exact (Jp 2∘Jn∘Jf 0∘Jf 0∘Jf 0∘Jy (v:=vI cp) (h:=by exact Pd rfl rfl kr (λ_ h=>h.mG hm rfl))∘Jp 3∘aH∘aP∘bC) λb=>Cm om b.below
 exact (Jv 10 [(4,.bool false)]∘dY∘aP∘bC) λb=>lW om b.below
def qno {a b:Nat} (n:Nat) (f:Mem W w F) (h:F.drop n=jC e x m g a b d++T) (_:dO x m g a b d) (c:Int):Calls abo 196 #[vP e 0,vI c] w (Is w (.bool (decide (0<=c/\c<x.au)))):=by
 have j:fM e x.au x.aj x.gA m x.gc x.lA g x.lc x.uA a x.uc x.tA b x.tc x.sA d x.sc∈F:=abL (i:=n) (by rw [h];exact acB ..)
 exact zij e x.au x.aj x.gA m x.gc x.lA g x.lc x.uA a x.uc x.tA b x.tc x.sA d x.sc c w (f.holds _ j).2
def mU (gm:Nat) (x:aF):List Fact:=jC gm x (abn x.gs) (abn x.cl) (abn x.cu) (abn x.ts) (abn x.rs)
def kg (W:World) (gm:Nat) (T:List Fact) (out:iI) (r:Ending) (w':World):Prop:=∃y:aF,r= .returned (.tuple #[.int .i64 out.2.1,.int .i64 (out.2.2:Int)])/\y.av=out.1/\Mem W w' (mU gm y++T)
section
variable {W w w':World} {F A T fs:List Fact} {x y:aF} {ng nl nu nt ns gm g c n:Nat}
theorem Mem.iP (n:Nat) (h:Mem W w F) (a:F.drop n=A):Mem W w A:=a▸h.mQ (List.drop_sublist ..)
theorem Mem.toB (h:Mem W w (jC gm y ng nl nu nt ns++T)) (a:rX y ng nl nu nt ns):Mem W w (mU gm y++T):=by
 obtain ⟨rfl,rfl,rfl,rfl,rfl⟩:=a
 exact h
def qt {out:iI} {got:Int} (n:Nat) (b:Mem W w F) (d:F.drop n=jC gm y ng nl nu nt ns++T) (f:rX y ng nl nu nt ns) (a:out=(y.av,got,e)):kg W gm T out (.returned (.tuple #[.int .i64 got,.int .i64 (e:Int)])) w:=by
 subst a
 exact ⟨y,rfl,rfl,(b.iP n d).toB f⟩
structure gJ (t:Tk) (cp:Int) (ns:Nat):Prop where
 id:1<=t.id/\t.id<=65535
 group:0<=t.group/\t.group<ns
 cpu:0<=t.cpu/\t.cpu<cp
 weight:1<=t.weight/\t.weight<=65536
 mask:xL t.mask cp=false
 bit:t.mask/2^t.cpu.toNat%2=1
 ent:bV t.v t.r t.weight=true
def Rb {s:bE} {t:Tk}:dX s t=true↔gJ t s.au (abn s.sp):=by
 unfold dX l9
 simp only [abG,decide_eq_true_eq,acF]
 constructor
 ·rintro ⟨⟨b,d,e,f,i,j⟩,k,l,m,a⟩
  exact ⟨⟨b,d⟩,⟨e,f⟩,⟨i,j⟩,k,l,m,a⟩
 ·intro h
  exact ⟨⟨h.id.1,h.id.2,h.group.1,h.group.2,h.cpu.1,h.cpu.2⟩,h.weight,h.mask,h.bit,h.ent⟩
theorem dO.task (h:dO x ng nl nu nt ns) {k:Nat} {t:Tk} (ht:x.ts[k]?=some t):gJ t x.au ns/\t.Ok:=by
 obtain ⟨a,rfl⟩:=abB.1 ht
 have b:=(D8 (h.sh.tk k a)).2
 rw [abt,abq a] at b
 have d:=Rb.1 b
 rw [lG,h.ln.s] at d
 exact ⟨d,h.ok.ts _ (ac5 a)⟩
theorem Ht {l:List Tk} {id:Int} (h:¬fidx l id<0):∃(k:Nat) (t:Tk),fidx l id=(k:Int)/\l[k]?=some t/\k<abn l/\t.id=id:=by grind [Tk.zero,Z0,getD_at]
theorem xS {s:bE} {id:Int} (h:fidx s.ts id=(k:Int)) (ht:s.ts[k]?=some t):oH s id=t:=by
 unfold oH
 rw [h]
 exact uz Tk.zero ht
def aaj {v r w:Nat} {f:Int} (h:bV v r f=true) (a:f=(w:Int)) (b:v<18446744073709551616):(⟨v,r,w⟩:En).Ok:=⟨by rw [a] at h;exact h,b⟩
def vV {w:Nat} (h:t.weight=(w:Int)):t.en=⟨t.v,t.r,w⟩:=by unfold Tk.en;rw [h];rfl
def Ef {x:aF} {ts':List Tk} (h:rX x ng nl nu nt ns) (ht:abn ts'=nt):rX {x with ts:=ts'} ng nl nu nt ns:=⟨h.g,h.l,h.u,ht,h.s⟩
def MS {x:aF} {a:List Rw} (h:rX x ng nl nu nt ns) (ht:abn a=ns):rX {x with rs:=a} ng nl nu nt ns:=⟨h.g,h.l,h.u,h.t,ht⟩
end
def nf {b:Bool} (h:b=true):¬b=false:=by rw [h];decide
def yT {b:Bool} (h:b=false):¬b=true:=by rw [h];decide
section
variable {x:aF} {o:bK} {k gt ct wt c d g:Nat} {t:Tk} {e:En} {z:Sp} {em:List Nat}
def qr7 (h1:oG o.task=true) (a:l9 o.weight=true) (hk:fidx x.ts o.task=(k:Int)) (ht:x.ts[k]?=some t) (b:o.weight=(wt:Int)):yN x.av o=(({x with ts:=x.ts.set k (t.put ⟨t.v,0,wt⟩)}:aF).av,0,0):=by
 unfold yN
 rw [if_neg (nf h1),if_neg (nf a),if_neg (by rw [show x.av.ts=x.ts from rfl,hk];omega),xS (s:=x.av) hk ht,show x.av.ts=x.ts from rfl,hk,abE,b]
 rfl
def q6h (h1:oG o.task=true) (hk:fidx x.ts o.task=(k:Int)) (ht:x.ts[k]?=some t) (hr:t.ready=false) (b:t.group=(gt:Int)) (hc:t.cpu=(ct:Int)) (f:t.weight=(wt:Int)) (hz:x.av.spot gt ct=z) (h:(⟨t.v,t.r,wt⟩:En).woken z.floor x.aj=e) (a:kX x.av gt ct=em):
  yM x.av o=(gN ({x with ts:=x.ts.set k {t.put e with ready:=true}}:aF).av em ct,0,0):=by
 unfold yM
 rw [if_neg (nf h1),if_neg (by rw [show x.av.ts=x.ts from rfl,hk];omega),xS (s:=x.av) hk ht,if_neg (by rw [hr];decide)]
 show (gN (x.av.jD (fidx x.ts o.task).toNat {t.put (t.en.woken (x.av.spot t.group.toNat t.cpu.toNat).floor x.aj) with ready:=true}) (kX x.av t.group.toNat t.cpu.toNat) t.cpu.toNat,(0:Int),0)=_
 rw [hk,abE,b,hc,abE,abE,hz,vV f,h,a]
 rfl
def zce (hc:o.cpu=(c:Int)) (a:x.av.pR o.cpu=true):kL x.av o=(({x with cu:=x.cu.set c (o7 x.av c)}:aF).av,(o7 x.av c:Int),0):=by
 unfold kL
 rw [if_neg (nf a),hc,abE]
 rfl
def Eh (c d g:Nat) (s:bE):bE:=pU c d g g s
def qr8 {c d g f:Nat} {s:bE} (b:∀i,0<i->i<=g->d9 s.gs i) (h:g<=f):pU c d f g s=pU c d g g s:=by
 have key:∀(g f a:Nat) (s:bE),(∀i,0<i->i<=g->d9 s.gs i)->g<=f->g<=a->pU c d f g s=pU c d a g s:=by
  intro g
  induction g using aeT with
  | _ g l =>
   intro f a s b n p
   by_cases j:g=0
   ·subst j
    cases f<;>cases a<;>simp [pU]
   ·obtain ⟨f,rfl⟩:∃k,f=k+1:=⟨f-1,by omega⟩
    obtain ⟨a,rfl⟩:∃k,a=k+1:=⟨a-1,by omega⟩
    have m:=b g om (abr _)
    unfold d9 at m
    have e:(s.par g).toNat<g:=by show (s.gs.getD g Gr.zero).parent.toNat<g;omega
    rw [pU,pU,if_neg j,if_neg j]
    exact l (s.par g).toNat e f a _ (λi hi q=>b i hi om) om om
 exact key g f g s b h (abr _)
def qr9 {s:bE} (b:∀i,0<i->i<=g->d9 s.gs i) (f:0<g) {p:Nat} (a:(s.gs.getD g Gr.zero).parent=(p:Int)):Eh c d g s=Eh c d p (s.vJ g c ((s.j6 g c).add d)):=by
 obtain ⟨k,rfl⟩:∃k,g=k+1:=⟨g-1,by omega⟩
 have h:=b (k+1) f (abr _)
 unfold d9 at h
 show pU c d (k+1) (k+1) s=_
 rw [pU,if_neg om]
 have e:(s.par (k+1)).toNat=p:=by show (s.gs.getD (k+1) Gr.zero).parent.toNat=p;rw [a];rfl
 rw [e]
 exact qr8 (s:=s.vJ (k+1) c ((s.j6 (k+1) c).add d)) (λi hi j=>b i hi om) om
def q6i (a:x.av.pR o.cpu=true) (h1:1<=o.ticks/\o.ticks<=4294967295) (hc:o.cpu=(c:Int)) {v:Int} (f:x.cl.getD c 0=v) (h:¬281474976710656<v+o.ticks) (b:x.cu.getD c 0=0):jE x.av o=(({x with cl:=x.cl.set c (v+o.ticks)}:aF).av,0,0):=by
 unfold jE
 rw [if_neg (nf a),if_neg om,hc,abE,show x.av.cl=x.cl from rfl,f,if_neg h]
 dsimp only
 rw [show x.av.cu=x.cu from rfl,if_pos b]
 rfl
def zcf (a:x.av.pR o.cpu=true) (h1:1<=o.ticks/\o.ticks<=4294967295) (hc:o.cpu=(c:Int)) (h:o.ticks=(d:Int)) {v id:Int} (i:x.cl.getD c 0=v) (j:¬281474976710656<v+o.ticks) (b:x.cu.getD c 0=id) (f:id≠0)
  (hk:fidx x.ts id=(k:Int)) (ht:x.ts[k]?=some t) (l:t.group=(gt:Int)) (m:t.weight=(wt:Int)) (n:(⟨t.v,t.r,wt⟩:En).add d=e):
  jE x.av o=(Eh c d gt ({x with cl:=x.cl.set c (v+d),ts:=x.ts.set k (t.put e)}:aF).av,id,0):=by
 unfold jE
 rw [if_neg (nf a),if_neg om,hc,abE,show x.av.cl=x.cl from rfl,i,if_neg j]
 dsimp only
 rw [show x.av.cu=x.cu from rfl,b,if_neg f,xS (s:=x.av) hk ht,l,show x.av.ts=x.ts from rfl,hk,abE,abE,h,abE,vV m,n]
 rfl
def upd {α:Type} (f:α->α) (l:List α) (k:Nat):List α:=(l.take k).map f++l.drop k
theorem zik {α:Type} (f:α->α) (l:List α) (k:Nat):abn (upd f l k)=abn l:=by grind [upd]
def zcg {α:Type} (f:α->α) (l:List α):upd f l 0=l:=rfl
theorem zil {α:Type} (f:α->α) (l:List α) {k:Nat} (h:abn l<=k):upd f l k=l.map f:=by grind [upd,ab9,abI]
theorem zim {α:Type} (f:α->α) {l:List α} {k j:Nat} (h:k<=j):(upd f l k)[j]?=l[j]?:=by grind [upd]
theorem zin {α:Type} (f:α->α) {l:List α} {k:Nat} {z:α} (h:l[k]?=some z):(upd f l k).set k (f z)=upd f l (k+1):=by
 obtain ⟨a,rfl⟩:=abB.1 h
 unfold upd
 have b:abn ((l.take k).map f)=k:=by rw [abx,abv];omega
 rw [aeJ,if_neg (by rw [b];omega),b,Nat.sub_self,List.drop_eq_getElem_cons a,List.set_cons_zero,List.take_succ_eq_append_getElem a,abU,abu]
 rfl
def r0 (z:Sp):Sp:={z with r:=0}
def qva (h:o.group=(g:Int)) (h1:1<=o.group/\o.group<abn x.rs) (i:l9 o.weight=true) {A:Option Addr} {m:Nat} {yl:List Sp} (hy:x.rs.getD g Rw.zero=⟨A,m,yl⟩) {f:Gr} (a:x.gs.getD g Gr.zero=f):
  yO x.av o=(({x with rs:=x.rs.set g ⟨A,m,yl.map r0⟩,gs:=x.gs.set g {f with weight:=o.weight}}:aF).av,0,0):=by
 have b:g<abn x.rs:=by omega
 unfold yO
 rw [if_neg (by rw [lG];omega),if_neg (nf i),h,abE]
 unfold aF.av
 simp only [ae2]
 rw [ZQ b,hy,a]
 rfl
def zch {to:Nat} {h i:Sp} (ht:x.ts[k]?=some t) (j:t.group=(gt:Int)) (hc:t.cpu=(ct:Int)) (l:t.weight=(wt:Int)) (a:x.av.spot gt ct=h) (b:x.av.spot gt to=i) (m:(⟨t.v,t.r,wt⟩:En).moved h.floor i.floor=e) (f:kX x.av gt to=em):
  jr x.av k (to:Int)=if t.ready=true then gN ({x with ts:=x.ts.set k {t.put e with cpu:=(to:Int)}}:aF).av em to else ({x with ts:=x.ts.set k {t.put e with cpu:=(to:Int)}}:aF).av:=by
 have e1:x.av.ts.getD k Tk.zero=t:=uz Tk.zero ht
 unfold jr
 rw [e1]
 dsimp only
 rw [j,hc,abE,abE,abE,a,b,vV l,m,f]
 rfl
end
def Hu (W:World) (gm:Nat) (T:List Fact) (s:bE) (r:Ending) (w':World):Prop:=∃y:aF,r= .returned (.tuple #[])/\y.av=s/\Mem W w' (mU gm y++T)
section
variable {W w w':World} {F A T fs:List Fact} {x y:aF} {ng nl nu nt ns gm g c n:Nat}
def q6j {s:bE} (n:Nat) (a:Mem W w F) (b:F.drop n=jC gm y ng nl nu nt ns++T) (d:rX y ng nl nu nt ns) (hs:y.av=s):Hu W gm T s (.returned (.tuple #[])) w:=⟨y,rfl,hs,(a.iP n b).toB d⟩
def zfm {out:iI} {got:Int} (n:Nat) (b:Mem W w F) (d:F.drop n=mU gm y++T) (a:out=(y.av,got,e)):kg W gm T out (.returned (.tuple #[.int .i64 got,.int .i64 (e:Int)])) w:=by
 subst a
 exact ⟨y,rfl,rfl,b.iP n d⟩
theorem q6k {a:List Rw} (b:g<abn rs) (hz:yl[c]?=some z) (hr:a=rs.set g ⟨E,m,upd r0 yl c⟩):aQ a g c (r0 z)=rs.set g ⟨E,m,upd r0 yl (c+1)⟩:=by grind [q9,r0,aQ,upd,zin,ae1]
end
def mV:Option Nat->Int
 |none=> -1
 |some b=>(b:Int)
def yU (s:bE) (o:bK) (be:Int) (t:Tk):Bool:=tJ s o t&& (decide (be<0)||decide ((s.ts.getD be.toNat Tk.zero).weight<t.weight))
section
variable {s:bE} {o:bK} {n:Nat}
theorem qx0:∀{n b:Nat},gH s o n=some b->b<n:=by intro x;induction x<;>grind [gH]
theorem qsa {be:Int} (hb:mV (gH s o n)=be):mV (gH s o (n+1))=if yU s o be (s.ts.getD n Tk.zero) then (n:Int) else be:=by grind [Tk.zero,gH,mV,tJ,yU]
def qlt {be:Int} (hb:mV (gH s o n)=be): -1<=be/\be<n:=by
 subst hb
 cases h:gH s o n with
 |none=>exact ⟨by decide,by show (-1:Int)<n;omega⟩
 |some b=>have:=qx0 h;exact ⟨by show (-1:Int)<=(b:Int);omega,by show (b:Int)<n;omega⟩
theorem q1a {cpu:Int} {M:Int} (a:∀c,aI s c<=M/\0<=aI s c) (b:0<=M):∀n:Nat,-1<=(iR s cpu n).1/\(iR s cpu n).1<n/\ -1<=(iR s cpu n).2/\(iR s cpu n).2<=M:=by intro x;induction x<;>grind [iR,aI]
def Rf {cpu fr v:Int} (hb:iR s cpu n=(fr,v)):iR s cpu (n+1)=if (n:Int)≠cpu/\v<aI s n then ((n:Int),aI s n) else (fr,v):=by
 rw [iR,hb]
def qsb {o:bK} (a:x.av.pR o.cpu=true) (hb:mV (gH x.av o (abn x.ts))= -1):vK x.av o=(x.av,0,6):=by
 unfold vK
 rw [if_neg (nf a),show x.av.ts=x.ts from rfl]
 cases h:gH x.av o (abn x.ts) with
 |none=>rfl
 |some b=>rw [h] at hb;exact absurd hb (by show ((b:Nat):Int)≠ -1;omega)
def qsc {o:bK} (a:x.av.pR o.cpu=true) (hb:mV (gH x.av o (abn x.ts))=(k:Int)) (ht:x.ts[k]?=some t):vK x.av o=(jr x.av k o.cpu,t.id,0):=by
 unfold vK
 rw [if_neg (nf a),show x.av.ts=x.ts from rfl]
 cases h:gH x.av o (abn x.ts) with
 |none=>rw [h] at hb;exact absurd hb (by show (-1:Int)≠(k:Int);omega)
 |some b=>
  rw [h] at hb
  have e:b=k:=by have d:(b:Int)=(k:Int):=hb;omega
  subst e
  dsimp only
  rw [uz Tk.zero ht]
def qvb {o:bK} (h1:x.av.pR o.to=true) (a:oG o.task=true) (hk:fidx x.ts o.task=(k:Int)) (ht:x.ts[k]?=some t) (b:o.task∉x.cu) (d:t.cpu≠o.to) (e:jq t.mask o.to=true):qc1 x.av o=(jr x.av k o.to,0,0):=by
 unfold qc1
 rw [if_neg (nf h1),if_neg (nf a),if_neg (by rw [show x.av.ts=x.ts from rfl,hk];omega),if_neg (show ¬o.task∈x.av.cu from b),xS (s:=x.av) hk ht,if_neg d,if_neg (nf e),show x.av.ts=x.ts from rfl,hk,abE]
end
def Rh (t:Tk):∀u∈bS t,u.oneCell'=true:=by simp [bS,abR]
def q6l (l:List Tk) (t:Tk):l.flatMap bS++bS t=(l++[t]).flatMap bS:=by simp
def nD (l:List Tk):abn (l.flatMap bS)=abn l*8:=qQ bS 8 ql l
def zT (m:Nat):List Value:=(abW (ae5 Tk.zero.cells).cells m).toList
def MU (m:Nat):abn (zT m)=m*8:=by unfold zT;rw [Array.length_toList,size_zeroCells];rfl
def zme (m:Nat):∀v∈zT m,v.oneCell'=true:=by
 intro v a
 unfold zT abW at a
 simp only [Array.toList_map,ab0] at a
 obtain ⟨k,_,rfl⟩:=a
 have hs:(ae5 Tk.zero.cells).cells.size=8:=rfl
 have b:k% (ae5 Tk.zero.cells).cells.size<8:=by rw [hs];exact adW _ de
 generalize k% (ae5 Tk.zero.cells).cells.size=j at b
 have:∀j,j<8->((ae5 Tk.zero.cells).cells[j]!).oneCell'=true:=by decide
 exact this j b
theorem Mem.mJ {fs:List Fact} (h:Mem W w fs) {j g n c a:Nat} {l q:List Tk} {ys:List Value} (hi:fs[j]?=some (.row (.slice (some ⟨g,0,none⟩) n c) n (l.flatMap bS++ys) 232 8)) (e:∃b,(l.drop a).take b=q) (o:a<=abn l):∀k v,(q.flatMap bS)[k]?=some v->w.cell? ((⟨g,a*8,none⟩:Addr).add k)=some v:=by
 obtain ⟨b,rfl⟩:=e
 intro k v d
 rw [acC]
 refine h.Ld hi (a*8) (ys:=((l.drop a).take b).flatMap bS) (λk v d=>?_) k v d
 have f:l.flatMap bS=(l.take a).flatMap bS++(((l.drop a).take b).flatMap bS++((l.drop a).drop b).flatMap bS):=by
  rw [<-abX,ab1,<-abX,ab1]
 have i:abn ((l.take a).flatMap bS)=a*8:=by rw [nD,abv];omega
 have m:=(abB.1 d).1
 rw [f,abu,<-i,List.getElem?_append_right (Nat.le_add_right _ _),Nat.add_sub_cancel_left,abu,adO m]
 exact d
def vX (l:List Tk) (id:Int):Nat:=abn (l.takeWhile λt=>decide (t.id<=id))
def qsd (l:List Tk) (id:Int):vX l id<=abn l:=(aes _).length_le
def qnq (l:List Tk) (id:Int):l.take (vX l id)=(l.takeWhile λt=>decide (t.id<=id))/\l.drop (vX l id)=(l.dropWhile λt=>decide (t.id<=id)):=by
 have a:=adJ (l₁:=l.takeWhile λt=>decide (t.id<=id)) (l₂:=l.dropWhile λt=>decide (t.id<=id))
 have b:=List.drop_left (l₁:=l.takeWhile λt=>decide (t.id<=id)) (l₂:=l.dropWhile λt=>decide (t.id<=id))
 rw [ae6] at a b
 exact ⟨a,b⟩
def qse {l:List Tk} {id:Int} {k:Nat} (hk:k<=abn l) (h:∀j,j<k->(l.getD j Tk.zero).id<=id) (hs:k=abn l\/id<(l.getD k Tk.zero).id):vX l id=k:=by
 induction l generalizing k with
 |nil=>simp at hk;subst hk;rfl
 | cons t r b =>
  unfold vX at*
  cases k with
  | zero =>
   rcases hs with a|a
   ·simp at a
   ·have c:¬t.id<=id:=by have e:id<t.id:=a;omega
    rw [aeL,if_neg (by rw [decide_eq_true_eq];exact c)]
    rfl
  | succ k =>
   have d:t.id<=id:=h 0 om
   rw [aeL,if_pos (by rw [decide_eq_true_eq];exact d),abT]
   rw [b (k:=k) (by simpa using hk) (λj f=>h (j+1) om) (by
    rcases hs with a|a
    ·exact .inl (by simpa using a)
    ·exact .inr a)]
def rZ (w:World) (l:List Tk) (id:Int) (r:Ending) (a:World):Prop:=(∃i:Int,r= .returned (.int .i64 i)/\(if i<0 then abn l else i.toNat)=vX l id/\ -1<=i/\i<=abn l)/\Below w.heap.size w a
def q1b {l:List Tk} {id:Int} (hk:k<abn l) (h:∀j,j<k->(l.getD j Tk.zero).id<=id) (hs:id<(l.getD k Tk.zero).id) (hb:Below w.heap.size w W):rZ w l id (.returned (.int .i64 (k:Int))) W:=
 ⟨⟨k,rfl,by rw [if_neg om,qse om h (.inr hs)];rfl,by omega,by omega⟩,hb⟩
def q1c {l:List Tk} {id:Int} (h:∀j,j<abn l->(l.getD j Tk.zero).id<=id) (hb:Below w.heap.size w W):rZ w l id (.returned (.int .i64 (-1))) W:=
 ⟨⟨-1,rfl,by rw [if_pos de,qse (abr _) h (.inl rfl)],by omega,by omega⟩,hb⟩
theorem q1d {l:List Tk} {id:Int} (h:∀j,j<k->(l.getD j Tk.zero).id<=id) (hk:(l.getD k Tk.zero).id<=id):∀j,j<k+1->(l.getD j Tk.zero).id<=id:=by grind
def iW (l:List Tk) (i:Nat) (t:Tk):List Tk:=l.take i++t::l.drop i
def qsf (l:List Tk) (i:Nat) (t:Tk):(iW l i t).flatMap bS=(l.take i).flatMap bS++(bS t++(l.drop i).flatMap bS):=by
 unfold iW
 rw [abX,abK]
theorem MV {l:List Tk} {t:Tk} (h:i<=abn l):abn (iW l i t)=abn l+1:=by grind [iW]
def zci {l:List Tk} {t:Tk} (h:i=abn l):l++[t]=iW l i t:=by
 subst h
 unfold iW
 rw [List.take_length,List.drop_length]
def zcj {l:List Tk} {t:Tk} (h:i<=abn l):putAt (putAt ((l.take i).flatMap bS++zT (abn l+1-i)) (i*8) (bS t)) ((i+1)*8) ((l.drop i).flatMap bS)=(iW l i t).flatMap bS:=by
 have a:abn ((l.take i).flatMap bS)=i*8:=by rw [nD,abv];omega
 have b:abn ((l.take i).flatMap bS++bS t)=(i+1)*8:=by rw [abp,a,ql];omega
 have e:((zT (abn l+1-i)).drop (abn (bS t))).drop (abn ((l.drop i).flatMap bS))=[]:=ab9 (by rw [abC,MU,ql,nD,abC];omega)
 rw [<-a,Mj,<-b,Mj,qsf,e,abP,abu]
def q6m {l:List Tk} {t:Tk} {ys:List Value} (h:i<=abn l) (hy:abn ys=8):putAt (putAt (l.flatMap bS++ys) ((i+1)*8) ((l.drop i).flatMap bS)) (i*8) (bS t)=(iW l i t).flatMap bS:=by
 have a:abn ((l.take i).flatMap bS)=i*8:=by rw [nD,abv];omega
 have b:abn ((l.drop i).flatMap bS)=(abn l-i)*8:=by rw [nD,abC]
 have c:l.flatMap bS++ys=(l.take i).flatMap bS++((l.drop i).flatMap bS++ys):=by
  rw [<-abu,<-abX,ab1]
 rw [c,show (i+1)*8=abn ((l.take i).flatMap bS)+8 by rw [a];omega,q0k,<-a,Mj,qsf,abu]
 congr 2
 rw [ql]
 unfold putAt
 have e:((l.drop i).flatMap bS++ys).drop (8+abn ((l.drop i).flatMap bS))=[]:=ab9 (by rw [abp,b,hy];omega)
 rw [abu,List.drop_left' (by rw [abv,abp,b,hy];omega),e,abP]
def zck {l:List Tk} (h:i<abn l):(l.take i).flatMap bS++(l.drop (i+1)).flatMap bS=(l.eraseIdx i).flatMap bS:=by
 rw [<-abX,List.eraseIdx_eq_take_drop_succ]
section
variable {x:aF} {o:bK} {k g c z:Nat} {t t1:Tk} {em:List Nat} {id:Int}
def q1e (a:x.av.pR o.cpu=true) (hc:o.cpu=(c:Int)) (b:x.cu.getD c 0=id) (d:id≠0) (hk:fidx x.ts id=(k:Int)) (ht:x.ts[k]?=some t) (e:o.kind≠4):rV x.av o=(({x with cu:=x.cu.set c 0,ts:=x.ts.set k {t with ready:=false}}:aF).av,id,0):=by
 unfold rV
 rw [if_neg (nf a),hc,abE,show x.av.cu=x.cu from rfl,b,if_neg d]
 dsimp only
 rw [show x.av.ts=x.ts from rfl,hk,abE,uz Tk.zero ht,if_neg e]
 rfl
def zcl (a:x.av.pR o.cpu=true) (hc:o.cpu=(c:Int)) (b:x.cu.getD c 0=id) (d:id≠0) (hk:fidx x.ts id=(k:Int)) (ht:x.ts[k]?=some t) (e:o.kind=4):rV x.av o=(({x with cu:=x.cu.set c 0,ts:=(x.ts.set k {t with ready:=false}).eraseIdx k}:aF).av,id,0):=by
 unfold rV
 rw [if_neg (nf a),hc,abE,show x.av.cu=x.cu from rfl,b,if_neg d]
 dsimp only
 rw [show x.av.ts=x.ts from rfl,hk,abE,uz Tk.zero ht,if_pos e]
 rfl
def qsg (a:x.av.pR o.cpu=true) (h1:oG o.task=true) (h:0<=o.group/\o.group<abn x.rs) (e:¬(l9 o.weight=false\/o.mask=0\/xL o.mask x.au=true)) (i:fidx x.ts o.task<0) (f:jq o.mask o.cpu=true) (d:o.group=(g:Int)) (hc:o.cpu=(c:Int)) {m:Nat} (hz:(x.av.spot g c).floor=m)
  (ht:(⟨o.task,o.group,o.weight,o.cpu,o.mask,true,m,0⟩:Tk)=t1) (b:kX x.av g c=em):yL x.av o=(gN ({x with ts:=iW x.ts (vX x.ts o.task) t1}:aF).av em c,0,0):=by
 unfold yL
 rw [if_neg (nf a),if_neg (nf h1),if_neg (by rw [lG];omega),if_neg (show ¬(l9 o.weight=false\/o.mask=0\/xL o.mask x.av.au=true) from e),if_neg (by rw [show x.av.ts=x.ts from rfl];omega),if_neg (nf f),d,hc,abE,abE,b,hz]
 rw [d,hc] at ht
 rw [show x.av.ts=x.ts from rfl,ht]
 unfold iW
 rw [(qnq x.ts o.task).1,(qnq x.ts o.task).2]
 rfl
end
structure iX (s:bE):Prop where
 ok:s.Ok
 au:1<=s.au/\s.au<=64
 aj:s.aj<=1099511627776
 gs:dF s.gs=true
 cl:(abn s.cl:Int)=s.au
 cu:(abn s.cu:Int)=s.au
 sp:abn s.sp=abn s.gs
 cls:∀c,c<abn s.cl->iG (s.cl.getD c 0)=true
 rows:∀g,g<abn s.sp->(abn (s.sp.getD g []):Int)=s.au
 spots:∀(g c:Nat),g<abn s.sp->(c:Int)<s.au->eu s g (s.spot g c)=true
 sort:eY s.ts
 tasks:∀t∈s.ts,gJ t s.au (abn s.sp)
def kP (s:bE):Prop:=∀c,c<abn s.cu->s.cu.getD c 0=0\/∃t∈s.ts,t.id=s.cu.getD c 0/\t.ready=true/\t.cpu=(c:Int)
structure GoodS (s:bE):Prop where
 sh:iX s
 cur:kP s
theorem qx2 {s:bE}:(∀i,i<abn s.ts->(i=0\/(s.ts.getD (i-1) Tk.zero).id<(s.ts.getD i Tk.zero).id))↔eY s.ts:=by
 constructor
 ·intro h i j b
  induction j with
  |zero=>omega
  |succ j d=>
   grind
 ·intro h i hi
  rcases acr i with a|a
  ·exact .inl a
  ·exact .inr (h (i-1) i om hi)
def vY {α:Type} {l:List α} {x:α} (d:α) (h:x∈l):∃i,i<abn l/\l.getD i d=x:=by
 obtain ⟨i,hi,rfl⟩:=aco h
 exact ⟨i,hi,by rw [abt,abq hi];rfl⟩
theorem Ri {s:bE} (b:s.Ok):nI s=true↔iX s:=by
 unfold nI fU Ml
 simp only [abG,decide_eq_true_eq]
 constructor
 ·rintro ⟨⟨⟨⟨f,j,k⟩,l⟩,m,n,o⟩,p,r,q⟩
  have d:∀g,g<abn s.sp->(abn (s.sp.getD g []):Int)=s.au/\∀c,c<abn (s.sp.getD g [])->eu s g (s.spot g c)=true:=λg a=>by
   grind [xK,rowOk]
  have ht:∀i,i<abn s.ts->(i=0\/(s.ts.getD (i-1) Tk.zero).id<(s.ts.getD i Tk.zero).id)/\dX s (s.ts.getD i Tk.zero)=true:=λi hi=>by
   grind [xK,jg]
  refine ⟨b,⟨f,j⟩,k,l,m,n,o,λc hc=>xK p hc,λg a=>(d g a).1,λg c a hc=>(d g a).2 c (by have:=(d g a).1;omega),qx2.1 λi hi=>(ht i hi).1,λt e=>?_⟩
  obtain ⟨i,hi,rfl⟩:=vY Tk.zero e
  exact Rb.1 (ht i hi).2
 ·intro h
  refine ⟨⟨⟨⟨h.au.1,h.au.2,h.aj⟩,h.gs⟩,h.cl,h.cu,h.sp⟩,vD h.cls,vD λg a=>?_,vD λi hi=>?_⟩
  ·unfold rowOk
   rw [abG,decide_eq_true_eq]
   exact ⟨h.rows g a,vD λc hc=>h.spots g c a (by have:=h.rows g a;omega)⟩
  ·unfold jg
   rw [abG,adM,beq_iff_eq,decide_eq_true_eq]
   exact ⟨qx2.2 h.sort i hi,Rb.2 (h.tasks _ (qf Tk.zero hi))⟩
def q6n {l:List Tk} (hs:eY l) (h1:∀t∈l,1<=t.id):∀i:Nat,i<abn l->((i:Nat):Int)+1<=(l.getD i Tk.zero).id
 |0,h=>by have:=h1 _ (qf Tk.zero h);omega
 |i+1,h=>by
  have:=q6n hs h1 i om
  have:=hs i (i+1) om h
  omega
def iX.few {s:bE} (h:iX s):abn s.ts<=65535:=by
 rcases acr (abn s.ts) with a|a
 ·omega
 ·have b:=q6n h.sort (λt ht=>(h.tasks t ht).id.1) (abn s.ts-1) om
  have d:=(h.tasks _ (qf Tk.zero (show abn s.ts-1<abn s.ts by omega))).id.2
  omega
def zio {l:List Tk} (hs:eY l) {t u:Tk} (ht:t∈l) (d:u∈l) (h:t.id=u.id):t=u:=by
 obtain ⟨i,hi,rfl⟩:=vY Tk.zero ht
 obtain ⟨j,e,rfl⟩:=vY Tk.zero d
 rcases ab5 i j with a|a
 ·have:=hs i j a e;omega
 ·rcases ab5 j i with b|b
  ·have:=hs j i b hi;omega
  ·rw [show i=j by omega]
def q6o {l:List Tk} (hs:eY l) {i:Nat} (hi:i<abn l):fidx l (l.getD i Tk.zero).id=(i:Int):=by
 unfold fidx
 rw [Qx hi rfl (λk a=>by have:=hs k i a hi;omega)]
theorem Rj {s:bE} (hs:eY s.ts):(∀c,c<abn s.cu->eB s c=true)↔kP s:=by
 have key:∀c,eB s c=true↔(s.cu.getD c 0=0\/∃t∈s.ts,t.id=s.cu.getD c 0/\t.ready=true/\t.cpu=(c:Int)):=by
  intro c
  unfold eB
  rw [adM,decide_eq_true_eq]
  refine or_congr Iff.rfl ?_
  constructor
  ·grind [Tk.zero,Qy,qf]
  ·rintro ⟨t,ht,a,d,e⟩
   obtain ⟨i,hi,rfl⟩:=vY Tk.zero ht
   rw [<-a,Qx hi rfl (λk b=>by have:=hs k i b hi;omega)]
   grind
 exact ⟨λh c hc=>(key c).1 (h c hc),λh c hc=>(key c).2 (h c hc)⟩
def MW {y:aF} (h:iX y.av):dO y (abn y.gs) (abn y.cl) (abn y.cu) (abn y.ts) (abn y.rs):=by
 have d:=(qw h.gs).2.1
 have a:abn y.gs<=256:=d
 have f:abn y.rs=abn y.gs:=by rw [<-lG];exact h.sp
 have j:(abn y.cl:Int)=y.au:=h.cl
 have k:(abn y.cu:Int)=y.au:=h.cu
 have m:1<=y.au/\y.au<=64:=h.au
 have n:abn y.ts<=65535:=h.few
 refine ⟨h.ok,⟨by omega,by omega,by omega,by omega,by omega,λr e=>?_⟩,vG ((Ri h.ok).2 h),⟨rfl,rfl,rfl,rfl,rfl⟩⟩
 obtain ⟨g,a,rfl⟩:=vY Rw.zero e
 have b:=h.rows g (by rw [lG];exact a)
 rw [jW a] at b
 have o:((y.rs.getD g Rw.zero).l.length:Int)=y.au:=b
 omega
section
variable {s:bE} {g c i:Nat} {z:Sp} {t t':Tk}
theorem zcm (d:g<abn s.sp) (hc:c<abn (s.sp.getD g [])):∀a b,(s.xM g c z).spot a b=if a=g/\b=c then z else s.spot a b:=by grind [bE.xM,bE.spot,getD_set_ne,q9]
def Ei:(s.xM g c z).sp.length=abn s.sp:=abJ ..
theorem qsh (a:Nat):abn ((s.xM g c z).sp.getD a [])=abn (s.sp.getD a []):=by grind [bE.xM,getD_set_ne,q9]
theorem iX.spot (h:iX s) (b:g<abn s.sp) (hc:(c:Int)<s.au) (hz:z.Ok) (hs:eu s g z=true):iX (s.xM g c z):=by
 have k:=h.rows g b
 have d:=zcm (z:=z) b (show c<abn (s.sp.getD g []) by omega)
 refine ⟨⟨h.ok.au,h.ok.aj,h.ok.gs,h.ok.cl,h.ok.cu,h.ok.ts,λl n y m=>?_⟩,h.au,h.aj,h.gs,h.cl,h.cu,Ei.trans h.sp,h.cls,λf a=>?_,λf o a j=>?_,h.sort,λu p=>?_⟩
 ·rcases abZ (show l∈s.sp.set g ((s.sp.getD g []).set c z) from n) with q|rfl
  ·exact h.ok.sp l q y m
  ·rcases abZ m with r|rfl
   ·exact h.ok.sp _ (qf [] b) y r
   ·exact hz
 ·rw [qsh];exact h.rows f (by rwa [Ei] at a)
 ·rw [d]
  rw [Ei] at a
  split
  ·rename_i e;rw [e.1];exact hs
  ·exact h.spots f o a j
 ·rw [Ei];exact h.tasks u p
theorem zcn {l:List Tk} (hs:eY l) (ht:l[i]?=some t) (f:t'.id=t.id):eY (l.set i t'):=by
 have key:∀k,((l.set i t').getD k Tk.zero).id=(l.getD k Tk.zero).id:=by
  grind
 intro a b d e
 rw [abJ] at e
 rw [key,key]
 exact hs a b d e
theorem iX.task (h:iX s) (ht:s.ts[i]?=some t) (a:t'.id=t.id) (e:t'.Ok) (f:gJ t' s.au (abn s.sp)):iX (s.jD i t'):=by
 refine ⟨⟨h.ok.au,h.ok.aj,h.ok.gs,h.ok.cl,h.ok.cu,λu b=>?_,h.ok.sp⟩,h.au,h.aj,h.gs,h.cl,h.cu,h.sp,h.cls,h.rows,h.spots,zcn h.sort ht a,λu b=>?_⟩
 ·rcases abZ b with d|rfl
  ·exact h.ok.ts u d
  ·exact e
 ·rcases abZ b with d|rfl
  ·exact h.tasks u d
  ·exact f
theorem kP.task (h:kP s) (hs:eY s.ts) (ht:s.ts[i]?=some t) (b:t'.id=t.id) (hr:t.ready=true->(∃c,c<abn s.cu/\s.cu.getD c 0=t.id/\t.cpu=(c:Int))->t'.ready=true/\t'.cpu=t.cpu):kP (s.jD i t'):=by
 intro c hc
 rcases h c hc with a|⟨u,l,a,m,d⟩
 ·exact .inl a
 ·refine .inr ?_
  have hi:=(abB.1 ht).1
  have f:t∈s.ts:=abH ht
  by_cases e:u.id=t.id
  ·have e2:=zio hs l f e
   subst e2
   obtain ⟨n,o⟩:=hr m ⟨c,hc,a.symm,d⟩
   exact ⟨t',abH (ac9 hi),b.trans a,n,o.trans d⟩
  ·obtain ⟨j,p,rfl⟩:=vY Tk.zero l
   have k:i≠j:=λe2=>e (by subst e2;rw [uz Tk.zero ht])
   refine ⟨s.ts.getD j Tk.zero,?_,a,m,d⟩
   have q:(s.ts.set i t')[j]?=some (s.ts.getD j Tk.zero):=by rw [aeF k];exact getD_at Tk.zero p
   exact abH q
end
section
variable {s:bE} {g c i d:Nat} {z:Sp} {t t':Tk} {e:En} {o:bK}
def q6p (h:iX s) (a:g<abn s.gs):∃w:Nat,(s.gs.getD g Gr.zero).weight=(w:Int)/\1<=w/\w<=65536:=MP h.gs a
theorem zco (a:0<g) (h:bV z.v z.r (s.gs.getD g Gr.zero).weight=true):eu s g z=true:=by grind [eu]
def zcp (h:iX s) (a:g<abn s.sp) (hc:(c:Int)<s.au):bV (s.spot g c).v (s.spot g c).r (s.gs.getD g Gr.zero).weight=true:=by
 have:=h.spots g c a hc
 unfold eu at this
 rw [abG] at this
 exact this.1
def q6q (h:iX s) (b:g<abn s.sp) (hc:(c:Int)<s.au):(s.j6 g c).Ok/\((s.j6 g c).w:Int)=(s.gs.getD g Gr.zero).weight:=by
 obtain ⟨w,a,_⟩:=q6p h (g:=g) (by rw [<-h.sp];exact b)
 have f:=zcp h b hc
 have e:s.j6 g c=⟨(s.spot g c).v,(s.spot g c).r,w⟩:=by unfold bE.j6;rw [a];rfl
 rw [e]
 exact ⟨aaj f a (yS h.ok g c).v,a.symm⟩
def Hw {v r w:Nat} (h:bV v r w=true):r<65536:=by
 unfold bV at h
 rw [decide_eq_true_eq] at h
 omega
def iX.run (h:iX s) (b:0<g) (f:g<abn s.sp) (hc:(c:Int)<s.au) (a:e.Ok) (j:(e.w:Int)=(s.gs.getD g Gr.zero).weight):iX (s.vJ g c e):=by
 refine h.spot f hc ⟨a.2,?_,(yS h.ok g c).floor⟩ (zco b ?_)
 ·show e.r<_
  have:=Hw a.1
  omega
 ·show bV e.v e.r _=true
  rw [<-j];exact a.1
def q6r:(s.vJ g c e).sp.length=abn s.sp:=Ei
def iX.wake (h:iX s) (hc:(c:Int)<s.au):∀(l:List Nat),(∀g∈l,0<g/\g<abn s.sp)->iX (gN s l c):=by
 intro l
 induction l generalizing s with
 |nil=>intro _;exact h
 |cons g r n=>
  intro b
  have f:=b g (acB ..)
  have j:=q6q h f.2 hc
  have k:=aay j.1 (s.spot (s.par g).toNat c).floor s.aj (yS h.ok _ _).floor
  have p:iX (lX c s g):=h.run f.1 f.2 hc k.1 (by rw [k.2];exact j.2)
  exact n (s:=lX c s g) p hc λm a=>⟨(b m (acd _ a)).1,by rw [show (lX c s g).sp.length=abn s.sp from q6r];exact (b m (acd _ a)).2⟩
structure dK (s s':bE):Prop where
 au:s'.au=s.au
 aj:s'.aj=s.aj
 gs:s'.gs=s.gs
 cl:s'.cl=s.cl
 cu:s'.cu=s.cu
 ts:s'.ts=s.ts
 len:abn s'.sp=abn s.sp
 row:∀g,abn (s'.sp.getD g [])=abn (s.sp.getD g [])
def dK.refl (s:bE):dK s s:=⟨rfl,rfl,rfl,rfl,rfl,rfl,rfl,λ_=>rfl⟩
theorem dK.trans {a b c:bE} (h:dK a b) (k:dK b c):dK a c:=⟨k.au.trans h.au,k.aj.trans h.aj,k.gs.trans h.gs,k.cl.trans h.cl,k.cu.trans h.cu,k.ts.trans h.ts,k.len.trans h.len,λg=>(k.row g).trans (h.row g)⟩
theorem dK.spot:dK s (s.xM g c z):=⟨rfl,rfl,rfl,rfl,rfl,rfl,Ei,qsh⟩
def CF (c:Nat):∀(l:List Nat) (s:bE),dK s (gN s l c)
 |[],s=>dK.refl s
 |g::r,s=>(dK.spot (s:=s)).trans (CF c r (lX c s g))
def Rk (c d:Nat):∀(f g:Nat) (s:bE),dK s (pU c d f g s)
 |0,_,s=>dK.refl s
 |f+1,g,s=>by
  rw [pU]
  split
  ·exact dK.refl s
  ·exact (dK.spot (s:=s)).trans (Rk c d f _ _)
def iX.CG (h:iX s) (hc:(c:Int)<s.au) (d:Nat):∀(f g:Nat),g<abn s.sp->iX (pU c d f g s):=by
 intro f
 induction f generalizing s with
 |zero=>intro g _;exact h
 | succ f k =>
  intro g a
  rw [pU]
  split
  ·exact h
  ·rename_i n
   have b:=q6q h a hc
   have j:=aav b.1 d
   have l:iX (s.vJ g c ((s.j6 g c).add d)):=h.run om a hc j.1 (by rw [j.2];exact b.2)
   have m:=yK h.gs (g:=g) (by rw [<-h.sp];exact a) g om (abr _)
   unfold d9 at m
   exact k (s:=s.vJ g c ((s.j6 g c).add d)) l hc _ (by rw [q6r];show (s.gs.getD g Gr.zero).parent.toNat<_;omega)
theorem Rl (a:g<abn s.sp):(fF s).sp.getD g []=(s.sp.getD g []).mapIdx λc x=>iH s g c x:=by grind [fF]
theorem qc2:(fF s).sp.length=abn s.sp:=by unfold fF;dsimp only;rw [aeV]
theorem qx3 (g:Nat):abn ((fF s).sp.getD g [])=abn (s.sp.getD g []):=by grind [Rl,qc2]
theorem qsi (a:g<abn s.sp) (hc:c<abn (s.sp.getD g [])):(fF s).spot g c=iH s g c (s.spot g c):=by grind [bE.spot,Rl]
theorem Rm (g c:Nat):((fF s).spot g c).v=(s.spot g c).v/\((fF s).spot g c).r=(s.spot g c).r:=by grind [bE.spot,q58,fF,qc2,qx3,qsi]
theorem zcq (g c:Nat):aR (fF s) g c=aR s g c:=by grind [qnn,fF,qc2,Rm]
def zmf (a:s.Ok) (b:aR s g c≠[]):(aM bJ (aR s g c)).v<18446744073709551616:=by
 rcases MJ (Q8 a b) with ⟨t,ht,_,f⟩|⟨h,_,_,_,_,j⟩
 ·rw [f];exact (a.ts t ht).v
 ·rw [j];exact (yS a h c).v
def zcr (a:s.Ok) (hz:z.Ok):(iH s g c z).Ok:=by
 unfold iH
 split
 ·exact hz
 ·rename_i b
  have:=zmf a (show aR s g c≠[] by simpa using b)
  refine ⟨hz.v,hz.r,?_⟩
  show max z.floor (aM bJ (aR s g c)).v<_
  have:=hz.floor
  rw [af9]
  split<;>omega
def ziq {s s':bE} (a:s'.gs=s.gs) {z b:Sp} (f:b.v=z.v) (hr:b.r=z.r):eu s' g b=eu s g z:=by
 unfold eu
 rw [a,f,hr]
def iX.rise (h:iX s):iX (fF s):=by
 refine ⟨⟨h.ok.au,h.ok.aj,h.ok.gs,h.ok.cl,h.ok.cu,h.ok.ts,λl f y b=>?_⟩,h.au,h.aj,h.gs,h.cl,h.cu,qc2.trans h.sp,h.cls,λg a=>?_,λg c a hc=>?_,h.sort,λu j=>?_⟩
 ·obtain ⟨g,a,rfl⟩:=vY [] f
  rw [qc2] at a
  rw [Rl a] at b
  obtain ⟨c,hc,rfl⟩:=aco b
  rw [aeK]
  exact zcr h.ok (h.ok.sp _ (qf [] a) _ (ac5 _))
 ·rw [qx3];exact h.rows g (by rwa [qc2] at a)
 ·rw [qc2] at a
  have e:=ziq (s:=s) (s':=fF s) (g:=g) rfl (Rm (s:=s) g c).1 (Rm (s:=s) g c).2
  rw [e]
  exact h.spots g c a hc
 ·rw [qc2];exact h.tasks u j
def GoodS.rise (h:GoodS s):GoodS (fF s):=⟨h.sh.rise,h.cur⟩
theorem q1f (h:GoodS s):lT (fF s)=true:=by
 have a:=h.rise
 unfold lT
 rw [(Ri a.sh.ok).2 a.sh,ab8]
 refine vD λc hc=>?_
 rw [(Rj a.sh.sort).2 a.cur c hc,ab8]
 refine vD λg b=>?_
 rw [qc2] at b
 have f:(c:Int)<s.au:=by have k:=h.sh.cu;have l:c<abn s.cu:=hc;omega
 have j:c<abn (s.sp.getD g []):=by have:=h.sh.rows g b;omega
 grind [kK,aR,iH,zcq,qsi]
def Hy (h:iX s) (ht:s.ts[i]?=some t):gJ t s.au (abn s.sp)/\t.Ok:=⟨h.tasks t (abH ht),h.ok.ts t (abH ht)⟩
def MX (a:gJ t s.au (abn s.sp)) (b:t.Ok) (h:e.Ok):gJ (t.put e) s.au (abn s.sp)/\(t.put e).Ok:=by
 have f:=h.1
 unfold bV at f
 rw [decide_eq_true_eq] at f
 refine ⟨⟨a.id,a.group,a.cpu,⟨f.1,f.2.1⟩,a.mask,a.bit,h.1⟩,⟨b.id,b.group,?_,b.cpu,b.mask,h.2,?_⟩⟩
 ·show aW ((e.w:Nat):Int);unfold aW;omega
 ·show e.r<_;omega
def qnr (a:gJ t s.au (abn s.sp)) (f:t.Ok) (b:Bool):gJ {t with ready:=b} s.au (abn s.sp)/\({t with ready:=b}:Tk).Ok:=⟨⟨a.id,a.group,a.cpu,a.weight,a.mask,a.bit,a.ent⟩,⟨f.id,f.group,f.weight,f.cpu,f.mask,f.v,f.r⟩⟩
def Rn (a:gJ t s.au (abn s.sp)) (b:t.Ok):t.en.Ok/\(t.en.w:Int)=t.weight:=by
 have f:=a.weight
 have e:t.en=⟨t.v,t.r,t.weight.toNat⟩:=rfl
 rw [e]
 exact ⟨aaj a.ent om b.v,by show ((t.weight.toNat:Nat):Int)=t.weight;omega⟩
theorem Ro {id:Int} (h:¬fidx s.ts id<0):∃(k:Nat) (t:Tk),fidx s.ts id=(k:Int)/\s.ts[k]?=some t/\t.id=id/\oH s id=t:=by grind [Ht,xS]
def Rp (h:iX s) (a:g<abn s.sp):∀k∈kX s g c,0<k/\k<abn s.sp:=λk b=>by
 have:=qnl (s:=s) (c:=c) (g:=g) (yK h.gs (by rw [<-h.sp];exact a)) k b
 exact ⟨this.1,by omega⟩
theorem kP.but {s s':bE} (h:kP s) (hb:dK s s'):kP s':=by
 unfold kP
 rw [hb.cu,hb.ts]
 exact h
theorem q1g (h:GoodS s) (a:(yM s o).2.2=0):GoodS (yM s o).1:=by
 unfold yM at a⊢
 split at a
 ·cases a
 ·split at a
  ·cases a
  ·rename_i w q
   rw [if_neg w,if_neg q]
   split at a
   ·cases a
   ·rename_i j
    rw [if_neg j]
    obtain ⟨k,t,x,ht,y,b⟩:=Ro q
    rw [b] at j
    simp only [b,x,abE]
    obtain ⟨f,r⟩:=Hy h.sh ht
    have l:t.group.toNat<abn s.sp:=by have:=f.group;omega
    have m:=Rn f r
    have A:=aay m.1 (s.spot t.group.toNat t.cpu.toNat).floor s.aj (yS h.sh.ok _ _).floor
    have u:=MX f r A.1
    have v:=qnr u.1 u.2 true
    have n:iX (s.jD k {t.put (t.en.woken (s.spot t.group.toNat t.cpu.toNat).floor s.aj) with ready:=true}):=h.sh.task ht rfl v.2 v.1
    have p:kP (s.jD k {t.put (t.en.woken (s.spot t.group.toNat t.cpu.toNat).floor s.aj) with ready:=true}):=h.cur.task h.sh.sort ht rfl λB _=>absurd B j
    exact ⟨n.wake (by show ((t.cpu.toNat:Nat):Int)<s.au;have:=f.cpu;omega) _ (Rp h.sh l),p.but (CF ..)⟩
theorem qo9 (h:GoodS s) (a:(yN s o).2.2=0):GoodS (yN s o).1:=by
 unfold yN at a⊢
 split at a
 ·cases a
 ·split at a
  ·cases a
  ·rename_i n f
   rw [if_neg n,if_neg f]
   split at a
   ·cases a
   ·rename_i j
    rw [if_neg j]
    obtain ⟨k,t,p,ht,q,b⟩:=Ro j
    simp only [b,p,abE]
    obtain ⟨u,l⟩:=Hy h.sh ht
    have x:1<=o.weight/\o.weight<=65536:=by simpa [l9] using f
    obtain ⟨z,hz⟩:∃z:Nat,o.weight=(z:Int):=⟨o.weight.toNat,by omega⟩
    have m:=MX u l (e:=⟨t.v,0,z⟩) ⟨by unfold bV;rw [decide_eq_true_eq];exact ⟨by show (1:Int)<=(z:Int);omega,by show (z:Int)<=_;omega,by show ((0:Nat):Int)<(z:Int);omega,.inr rfl⟩,l.v⟩
    have e:({t with r:=0,weight:=o.weight}:Tk)=t.put ⟨t.v,0,z⟩:=by rw [hz];rfl
    rw [e]
    exact ⟨h.sh.task ht rfl m.2 m.1,h.cur.task h.sh.sort ht rfl λw _=>⟨w,rfl⟩⟩
theorem zir (h:iX s) {v:Int} (j:0<=v/\v<=281474976710656):iX {s with cl:=s.cl.set c v}:=by
 refine ⟨⟨h.ok.au,h.ok.aj,h.ok.gs,λz hz=>?_,h.ok.cu,h.ok.ts,h.ok.sp⟩,h.au,h.aj,h.gs,by show (abn (s.cl.set c v):Int)=_;rw [abJ];exact h.cl,h.cu,h.sp,λd b=>?_,h.rows,h.spots,h.sort,h.tasks⟩
 ·rcases abZ hz with f|rfl
  ·exact h.ok.cl z f
  ·unfold aW;omega
 ·have a:d<abn (s.cl.set c v):=b
  show iG ((s.cl.set c v).getD d 0)=true
  rw [abJ] at a
  by_cases e:c=d
  ·grind [iG,q9]
  ·rw [getD_set_ne _ _ e]
   exact h.cls d a
def q6s (h:iX s) {v:Int} (a:aW v):iX {s with cu:=s.cu.set c v}:=by
 refine ⟨⟨h.ok.au,h.ok.aj,h.ok.gs,h.ok.cl,λz hz=>?_,h.ok.ts,h.ok.sp⟩,h.au,h.aj,h.gs,h.cl,by show (abn (s.cu.set c v):Int)=_;rw [abJ];exact h.cu,h.sp,h.cls,h.rows,h.spots,h.sort,h.tasks⟩
 rcases abZ hz with b|rfl
 ·exact h.ok.cu z b
 ·exact a
def Ej {x:Int} (h:¬s.pR x=false):0<=x/\x<s.au:=by
 unfold bE.pR at h
 simpa using h
theorem q6t (h:GoodS s) (a:(jE s o).2.2=0):GoodS (jE s o).1:=by
 unfold jE at a⊢
 split at a
 ·cases a
 ·split at a
  ·cases a
  ·rename_i x D
   rw [if_neg x,if_neg D]
   split at a
   ·cases a
   ·rename_i E
    rw [if_neg E]
    have hc:=Ej x
    have b:=h.sh.cls o.cpu.toNat (by have:=h.sh.cl;omega)
    have y:0<=s.cl.getD o.cpu.toNat 0/\s.cl.getD o.cpu.toNat 0<=281474976710656:=by unfold iG at b;simpa using b
    have f:iX {s with cl:=s.cl.set o.cpu.toNat (s.cl.getD o.cpu.toNat 0+o.ticks)}:=zir h.sh ⟨by omega,by omega⟩
    dsimp only at a⊢
    by_cases l:s.cu.getD o.cpu.toNat 0=0
    ·rw [if_pos l];exact ⟨f,h.cur⟩
    ·rw [if_neg l]
     rcases h.cur o.cpu.toNat (by have:=h.sh.cu;omega) with F|⟨t,m,j,G,n⟩
     ·exact absurd F l
     ·obtain ⟨k,A,rfl⟩:=vY Tk.zero m
      have p:=q6o h.sh.sort A
      have ht:=getD_at Tk.zero A
      obtain ⟨t,q⟩:∃t,s.ts.getD k Tk.zero=t:=⟨_,rfl⟩
      rw [q] at j G n p ht
      rw [<-j,p,xS p ht,abE]
      obtain ⟨r,B⟩:=Hy h.sh ht
      have u:=Rn r B
      have H:=aav u.1 o.ticks.toNat
      have C:=MX r B H.1
      have v:iX ({s with cl:=s.cl.set o.cpu.toNat (s.cl.getD o.cpu.toNat 0+o.ticks)}.jD k (t.put (t.en.add o.ticks.toNat))):=f.task ht rfl C.2 C.1
      have w:kP ({s with cl:=s.cl.set o.cpu.toNat (s.cl.getD o.cpu.toNat 0+o.ticks)}.jD k (t.put (t.en.add o.ticks.toNat))):=kP.task (s:={s with cl:=s.cl.set o.cpu.toNat (s.cl.getD o.cpu.toNat 0+o.ticks)}) h.cur h.sh.sort ht rfl λI _=>⟨I,rfl⟩
      exact ⟨v.CG (by show ((o.cpu.toNat:Nat):Int)<s.au;omega) _ _ _ (by show t.group.toNat<abn s.sp;have:=r.group;omega),w.but (Rk ..)⟩
theorem zcs (a:s.Ok):∀(n g:Nat),g<abn s.sp->abn s.sp-g<=n->vU s c g=0\/∃t∈s.ts,t.ready=true/\t.cpu=(c:Int)/\vU s c g=t.id.toNat:=by
 intro n
 induction n with
 |zero=>intro g b f;omega
 |succ n h=>
  grind [Tk.here,MK,qlp,qln,qlo,aR]
theorem q6u (h:GoodS s) (a:(kL s o).2.2=0):GoodS (kL s o).1:=by
 unfold kL at a⊢
 split at a
 ·cases a
 ·rename_i f
  rw [if_neg f]
  have hc:=Ej f
  have k:=(qw h.sh.gs).1
  have j:=zcs (c:=o.cpu.toNat) h.sh.ok (abn s.sp) 0 (by rw [h.sh.sp];omega) om
  rw [<-q56] at j
  have l:aW ((o7 s o.cpu.toNat:Nat):Int):=by
   unfold aW
   rcases j with m|⟨t,ht,_,_,m⟩
   ·omega
   ·have:=(h.sh.tasks t ht).id;omega
  refine ⟨q6s h.sh l,λd n=>?_⟩
  have b:d<abn s.cu:=by have p:d<abn (s.cu.set o.cpu.toNat (o7 s o.cpu.toNat:Int)):=n;rwa [abJ] at p
  show (s.cu.set o.cpu.toNat (o7 s o.cpu.toNat:Int)).getD d 0=0\/_
  by_cases e:o.cpu.toNat=d
  ·grind
  ·show (s.cu.set o.cpu.toNat (o7 s o.cpu.toNat:Int)).getD d 0=0\/∃t∈s.ts,t.id=(s.cu.set o.cpu.toNat (o7 s o.cpu.toNat:Int)).getD d 0/\_
   rw [getD_set_ne _ _ e]
   exact h.cur d b
end
section
variable {s:bE} {g c i d:Nat} {t t':Tk} {o:bK}
theorem qnt {l a:List Gr} (h:∀g,(l.getD g Gr.zero).parent=(a.getD g Gr.zero).parent):∀f g,jy l f g=jy a f g
 |0,_=>rfl
 |f+1,g=>by rw [jy,jy,h g,qnt h f]
theorem zct {l:List Gr} {w:Int} (h:dF l=true) (a:0<g) (b:g<abn l) (e:l9 w=true):dF (l.set g {l.getD g Gr.zero with weight:=w})=true:=by grind [Gr.zero,vD,qnt,iV,pO,getD_set_ne,q9,dF,qw]
theorem qsj (h:GoodS s) (f:(yO s o).2.2=0):GoodS (yO s o).1:=by
 unfold yO at f⊢
 split at f
 ·cases f
 ·split at f
  ·cases f
  ·rename_i E w
   rw [if_neg E,if_neg w]
   obtain ⟨g,F⟩:∃g:Nat,o.group=(g:Int):=⟨o.group.toNat,by omega⟩
   rw [F,abE]
   have G:l9 o.weight=true:=by simpa using w
   have q:1<=o.weight/\o.weight<=65536:=by simpa [l9] using w
   have j:g<abn s.sp:=by omega
   have m:g<abn s.gs:=by rw [<-h.sh.sp];exact j
   have A:=h.sh.ok.gs _ (qf Gr.zero m)
   have a:abn (s.sp.set g ((s.sp.getD g []).map λx=>{x with r:=0}))=abn s.sp:=abJ ..
   have B:∀k e:Nat,((s.sp.set g ((s.sp.getD g []).map λx=>{x with r:=0})).getD k []).getD e Sp.zero=if k=g then r0 (s.spot k e) else s.spot k e:=λk e=>by
    by_cases n:g=k
    ·subst n
     rw [q9 _ _ j,if_pos rfl]
     show _=r0 ((s.sp.getD g []).getD e Sp.zero)
     rw [abt,ac0,abt (l:=s.sp.getD g [])]
     cases (s.sp.getD g [])[e]?<;>rfl
    ·rw [getD_set_ne _ _ n,if_neg (λh=>n h.symm)];rfl
   refine ⟨⟨⟨h.sh.ok.au,h.sh.ok.aj,λx H=>?_,h.sh.ok.cl,h.sh.ok.cu,h.sh.ok.ts,λl I y C=>?_⟩,h.sh.au,h.sh.aj,zct h.sh.gs om m G,h.sh.cl,h.sh.cu,?_,h.sh.cls,λk n=>?_,λk e n f=>?_,h.sh.sort,λu J=>?_⟩,h.cur⟩
   ·rcases abZ H with b|rfl
    ·exact h.sh.ok.gs x b
    ·exact ⟨A.parent,by show aW o.weight;unfold aW;omega⟩
   ·rcases abZ I with b|rfl
    ·exact h.sh.ok.sp l b y C
    ·obtain ⟨z,hz,rfl⟩:=ab0.1 C
     have:=h.sh.ok.sp _ (qf [] j) z hz
     exact ⟨this.v,by show 0<_;omega,this.floor⟩
   ·rw [a,abJ];exact h.sh.sp
   ·have p:k<abn s.sp:=by rw [<-a];exact n
    have:=h.sh.rows k p
    grind
   ·have p:k<abn s.sp:=by rw [<-a];exact n
    have b:=h.sh.spots k e p f
    unfold eu at b⊢
    have e1:=B k e
    unfold bE.spot at b⊢e1
    dsimp only at b⊢e1
    rw [e1]
    by_cases e2:g=k
    ·subst e2
     rw [if_pos rfl,q9 _ _ m]
     rw [abG] at b⊢
     have D:=b.1
     unfold bV at D⊢
     rw [decide_eq_true_eq] at D⊢
     refine ⟨⟨q.1,q.2,by show ((0:Nat):Int)<o.weight;omega,.inr rfl⟩,?_⟩
     grind
    ·grind
   ·show gJ u s.au (abn (s.sp.set g _))
    rw [a]
    exact h.sh.tasks u J
theorem qsk (h:GoodS s) (ht:s.ts[i]?=some t) {to:Nat} (b:(to:Int)<s.au) (hb:t.mask/2^to%2=1) (n:∀d,d<abn s.cu->s.cu.getD d 0=t.id->t.cpu=(d:Int)->False):GoodS (jr s i (to:Int)):=by
 unfold jr
 rw [uz Tk.zero ht]
 dsimp only
 rw [abE]
 obtain ⟨j,m⟩:=Hy h.sh ht
 have k:=Rn j m
 have hm:=aaP k.1 (s.spot t.group.toNat t.cpu.toNat).floor (s.spot t.group.toNat to).floor (yS h.sh.ok _ _).floor
 have a:=MX j m hm.1
 have p:aW (to:Int):=by have:=h.sh.au;unfold aW;omega
 have e:iX (s.jD i {t.put (t.en.moved (s.spot t.group.toNat t.cpu.toNat).floor (s.spot t.group.toNat to).floor) with cpu:=(to:Int)}):=
  h.sh.task ht rfl ⟨a.2.id,a.2.group,a.2.weight,p,a.2.mask,a.2.v,a.2.r⟩ ⟨a.1.id,a.1.group,⟨by show (0:Int)<=(to:Int);omega,b⟩,a.1.weight,a.1.mask,by show t.mask/2^ ((to:Int)).toNat%2=1;rw [abE];exact hb,a.1.ent⟩
 have f:kP (s.jD i {t.put (t.en.moved (s.spot t.group.toNat t.cpu.toNat).floor (s.spot t.group.toNat to).floor) with cpu:=(to:Int)}):=
  h.cur.task h.sh.sort ht rfl λ_ ⟨d,q,u,w⟩=>(n d q u w).elim
 have l:t.group.toNat<abn s.sp:=by have:=j.group;omega
 split
 ·exact ⟨e.wake b _ (Rp h.sh l),f.but (CF ..)⟩
 ·exact ⟨e,f⟩
theorem Rq {x:Int} (h:jq m x=true):m/2^x.toNat%2=1:=of_decide_eq_true h
theorem qsl (h:GoodS s) (a:(qc1 s o).2.2=0):GoodS (qc1 s o).1:=by
 unfold qc1 at a⊢
 split at a
 ·cases a
 ·split at a
  ·cases a
  ·split at a
   ·cases a
   ·split at a
    ·cases a
    ·split at a
     ·cases a
     ·split at a
      ·cases a
      ·rename_i b f e j l m
       rw [if_neg b,if_neg f,if_neg e,if_neg j,if_neg l,if_neg m]
       obtain ⟨k,t,r,ht,n,p⟩:=Ro e
       have q:=Ej b
       grind [jq,Rq,qf,qsk]
theorem zcu:∀{n b:Nat},gH s o n=some b->tJ s o (s.ts.getD b Tk.zero)=true:=by intro x;induction x<;>grind [gH]
theorem qsm (h:GoodS s) (a:(vK s o).2.2=0):GoodS (vK s o).1:=by
 unfold vK at a⊢
 split at a
 ·cases a
 ·rename_i e
  rw [if_neg e]
  cases hb:gH s o (abn s.ts) with
  |none=>rw [hb] at a;cases a
  |some b=>
   dsimp only
   have f:=qx0 hb
   have hm:=zcu hb
   have ht:=getD_at Tk.zero f
   have j:=Ej e
   grind [Rq,qsk,tJ]
theorem Rs {l:List Tk}:eY l↔l.Pairwise λa b=>a.id<b.id:=by
 rw [List.pairwise_iff_getElem]
 constructor
 ·intro h i j hi f e
  have:=h i j e f
  grind
 ·intro h i j e f
  grind
theorem iX.ts (h:iX s) {l:List Tk} (hs:eY l) (b:∀u∈l,gJ u s.au (abn s.sp)/\u.Ok):iX {s with ts:=l}:=
 ⟨⟨h.ok.au,h.ok.aj,h.ok.gs,h.ok.cl,h.ok.cu,λu a=>(b u a).2,h.ok.sp⟩,h.au,h.aj,h.gs,h.cl,h.cu,h.sp,h.cls,h.rows,h.spots,hs,λu a=>(b u a).1⟩
theorem q6w {l:List Tk} {id:Int} (h:¬0<=fidx l id):∀t∈l,t.id≠id:=by grind [Tk.zero,Qz,gF,qf]
def qgl {α:Type} {p:α->Bool}:∀{l:List α} {u:α},u∈l.takeWhile p->p u=true
 |[],u,h=>by cases h
 | a :: r, u, h => by
  rw [aeL] at h
  split at h
  ·rename_i b
   rcases abS.1 h with rfl|h
   ·exact b
   ·exact qgl h
  ·cases h
theorem qfk {α:Type} {p:α->Bool}:∀{l:List α} {a:α} {r:List α},l.dropWhile p=a::r->p a=false
 |[],_,_,h=>by cases h
 |b::q,a,r,h=>by
  rw [List.dropWhile_cons] at h
  split at h
  ·exact qfk h
  ·grind
theorem zcv {l:List Tk} {id:Int} (hs:eY l) (m:∀t∈l,t.id≠id) (ht:t.id=id):eY ((l.takeWhile λt=>decide (t.id<=id))++t::(l.dropWhile λt=>decide (t.id<=id))):=by
 rw [Rs] at hs⊢
 have k:∀u∈l.takeWhile (λt=>decide (t.id<=id)),u.id<id:=λu e=>by
  have f:=qgl e
  rw [decide_eq_true_eq] at f
  have:=m u ((aes _).subset e)
  omega
 have h:=hs.sublist (List.dropWhile_sublist λt=>decide (t.id<=id))
 have j:∀u∈l.dropWhile (λt=>decide (t.id<=id)),id<u.id:=λu e=>by
  cases hdr:l.dropWhile (λt=>decide (t.id<=id)) with
  |nil=>rw [hdr] at e;cases e
  | cons a r =>
   have f:¬decide (a.id<=id)=true:=by
    have:=qfk hdr
    rw [this];decide
   rw [decide_eq_true_eq] at f
   rw [hdr] at e h
   rcases abS.1 e with rfl|e
   ·omega
   ·have:=(aek.1 h).1 u e;omega
 rw [List.pairwise_append]
 refine ⟨hs.sublist (aes _),aek.2 ⟨λu e=>?_,h⟩,λa n b p=>?_⟩
 ·have:=j u e;omega
 ·grind
theorem q6x {l:List Tk} {p:Tk->Bool} {u:Tk}:u∈l.takeWhile p++t::l.dropWhile p↔u=t\/u∈l:=by grind [ae6]
theorem q1h (e : o.Ok) (h : GoodS s) (a : (yL s o).2.2 = 0) : GoodS (yL s o).1 := by
 unfold yL at a⊢
 split at a
 ·cases a
 ·split at a
  ·cases a
  ·split at a
   ·cases a
   ·split at a
    ·cases a
    ·split at a
     ·cases a
     ·split at a
      ·cases a
      ·rename_i w x y f z A
       rw [if_neg w,if_neg x,if_neg y,if_neg f,if_neg z,if_neg A]
       have hc:=Ej w
       have j:o.group.toNat<abn s.sp:=by omega
       have k:1<=o.task/\o.task<=65535:=by simpa [oG] using x
       have l:0<=o.group/\o.group<abn s.sp:=adp.1 y
       have m:1<=o.weight/\o.weight<=65536:=by have:=λh=>f (.inl h);simpa [l9] using this
       have hm:xL o.mask s.au=false:=by have:=λh=>f (.inr (.inr h));simpa using this
       have B:o.mask/2^o.cpu.toNat%2=1:=Rq (by simpa using A)
       have C:=(yS h.sh.ok o.group.toNat o.cpu.toNat).floor
       have n:gJ (⟨o.task,o.group,o.weight,o.cpu,o.mask,true,(s.spot o.group.toNat o.cpu.toNat).floor,0⟩:Tk) s.au (abn s.sp):=⟨k,l,hc,m,hm,B,by unfold bV;rw [decide_eq_true_eq];exact ⟨m.1,m.2,by show ((0:Nat):Int)<o.weight;omega,.inr rfl⟩⟩
       have p:(⟨o.task,o.group,o.weight,o.cpu,o.mask,true,(s.spot o.group.toNat o.cpu.toNat).floor,0⟩:Tk).Ok:=⟨e.task,e.group,e.weight,e.cpu,e.mask,C,by show 0<_;omega⟩
       have q:=h.sh.ts (zcv h.sh.sort (q6w z) (t:=⟨o.task,o.group,o.weight,o.cpu,o.mask,true,(s.spot o.group.toNat o.cpu.toNat).floor,0⟩) rfl) (λu b=>by
        rcases q6x.1 b with rfl|b
        ·exact ⟨n,p⟩
        ·exact ⟨h.sh.tasks u b,h.sh.ok.ts u b⟩)
       have r:kP {s with ts:=(s.ts.takeWhile λt=>decide (t.id<=o.task))++(⟨o.task,o.group,o.weight,o.cpu,o.mask,true,(s.spot o.group.toNat o.cpu.toNat).floor,0⟩::(s.ts.dropWhile λt=>decide (t.id<=o.task)))}:=λd D=>by
        rcases h.cur d D with v|⟨u,b,v⟩
        ·exact .inl v
        ·exact .inr ⟨u,q6x.2 (.inr b),v⟩
       exact ⟨q.wake (by show ((o.cpu.toNat:Nat):Int)<s.au;omega) _ (Rp h.sh j),r.but (CF ..)⟩
theorem q1i (h:GoodS s) (p:(rV s o).2.2=0):GoodS (rV s o).1:=by
 unfold rV at p⊢
 split at p
 ·cases p
 ·split at p
  ·cases p
  ·rename_i E F
   rw [if_neg E,if_neg F]
   have hc:=Ej E
   dsimp only
   rcases h.cur o.cpu.toNat (by have:=h.sh.cu;omega) with I|⟨t,z,q,J,A⟩
   ·exact absurd I F
   ·obtain ⟨k,G,rfl⟩:=vY Tk.zero z
    have H:=q6o h.sh.sort G
    have ht:=getD_at Tk.zero G
    obtain ⟨t,r⟩:∃t,s.ts.getD k Tk.zero=t:=⟨_,rfl⟩
    rw [r] at q J A H ht
    rw [<-q,H,abE,r]
    obtain ⟨K,B⟩:=Hy h.sh ht
    have v:=qnr K B false
    have C:iX {s with cu:=s.cu.set o.cpu.toNat 0}:=q6s h.sh (by unfold aW;omega)
    have a:iX {s with cu:=s.cu.set o.cpu.toNat 0,ts:=s.ts.set k {t with ready:=false}}:=C.task (s:={s with cu:=s.cu.set o.cpu.toNat 0}) ht rfl v.2 v.1
    have m:∀d,d<abn (s.cu.set o.cpu.toNat 0)->(s.cu.set o.cpu.toNat 0).getD d 0=0\/∃j u,s.ts[j]?=some u/\j≠k/\u.id=(s.cu.set o.cpu.toNat 0).getD d 0/\u.ready=true/\u.cpu=(d:Int):=λd n=>by
     rw [abJ] at n
     by_cases e:o.cpu.toNat=d
     ·grind
     ·rw [getD_set_ne _ _ e]
      rcases h.cur d n with b|⟨u,D,b,x,L⟩
      ·exact .inl b
      ·obtain ⟨j,y,rfl⟩:=vY Tk.zero D
       grind
    split
    ·refine ⟨a.ts (s:={s with cu:=s.cu.set o.cpu.toNat 0,ts:=s.ts.set k {t with ready:=false}}) (l:=(s.ts.set k {t with ready:=false}).eraseIdx k) (Rs.2 ((Rs.1 a.sort).sublist (afV ..))) (λu D=>?_),λd n=>?_⟩
     ·have w:=(afV ..).subset D
      exact ⟨a.tasks u w,a.ok.ts u w⟩
     ·rcases m d n with b|⟨j,u,y,f,b⟩
      ·exact .inl b
      ·refine .inr ⟨u,?_,b⟩
       have x:(s.ts.set k {t with ready:=false})[j]?=some u:=by rw [aeF (λe=>f e.symm)];exact y
       exact List.mem_eraseIdx_iff_getElem?.2 ⟨j,f,x⟩
    ·refine ⟨a,λd n=>?_⟩
     rcases m d n with b|⟨j,u,y,f,b⟩
     ·exact .inl b
     ·refine .inr ⟨u,?_,b⟩
      have x:(s.ts.set k {t with ready:=false})[j]?=some u:=by rw [aeF (λe=>f e.symm)];exact y
      exact abH x
theorem Rt (a:o.Ok) (h:GoodS s) (b:(dB s o).2.2=0):GoodS (dB s o).1:=by grind [qsm,q1i,qsl,q6u,qsj,qo9,q1g,q1h,q6t,dB]
end
def MZ (w:World) (R:List Nat) (r:Ending) (a:World):Prop:=
 (∃A c,r= .returned (.slice A (abn R) c)/\a.ownsRow w.heap.size 3 1 (.slice A (abn R) c) (abn R) (R.map dM)/\abn R<=c)/\Below w.heap.size w a
def zfn {q:List Nat} (a:q=R) (b:W.ownsRow w.heap.size 3 1 (.slice A (abn q) c) (abn q) (q.map dM)) (hc:abn q<=c) (hb:Below w.heap.size w W):MZ w R (.returned (.slice A (abn q) c)) W:=by
 subst a
 exact ⟨⟨A,c,rfl,b,hc⟩,hb⟩
def zis (b:x.av.Ok) (a:ShAt x) (j:aR x.av g c≠[]):(aM bJ (aR x.av g c)).id<=1000000:=by
 rcases MK b j with ⟨_,t,ht,_,k⟩|⟨_,h,m,_,e,_⟩
 ·obtain ⟨i,hi,rfl⟩:=aco ht
  have f:=pV (a.tk i hi)
  rw [abt,abq (l:=x.ts) hi] at f
  have e:1<=(x.av.ts[i]).id/\(x.av.ts[i]).id<=65535:=f
  rw [k]
  show (x.av.ts[i]).id.toNat<=1000000
  omega
 ·rw [m]
  rw [lG,a.rs] at e
  obtain ⟨_,_,_,d⟩:=mI a.cfg
  have:=(qw d).2.1
  omega
def qnu (b:ShAt x):∀t∈x.ts,1<=t.weight/\t.weight<=65536:=by
 intro t ht
 obtain ⟨i,hi,rfl⟩:=aco ht
 have a:=(D8 (b.tk i hi)).2
 rw [abt,abq hi] at a
 unfold dX l9 at a
 simp only [abG,decide_eq_true_eq,Option.getD_some] at a
 exact a.2.1
def q6y (x:aF) (E g c:Nat) (w:World) (H:x.av.Ok) (F:bY x) (o:ShAt x) (I:eU w x) (hm:w.heap[E]?=some (.cells #[vI x.au,vQ x.aj,abk x.gA x.gs x.gc,abk x.lA x.cl x.lc,abk x.uA x.cu x.uc,abk x.tA x.ts x.tc,abk x.sA x.rs x.sc,.bool true] 273 (0,0))) (hc:(c:Int)<x.au) (hg:g<abn x.rs):
    Calls abo 200 #[vP E 0,vI g,vI c] w (MZ w (kX x.av g c)):=by
 have P:=F.s;have Q:=F.t;have R:=F.g;have V:=o.rs
 obtain ⟨W,Y,_,r⟩:=mI o.cfg
 refine (uU Tryz.func200 35) ?_
 refine (aJ 1∘Jq∘JC (h:=by exact λb=>b.nil 3 1)∘JG∘cO 1∘JQ∘JB) λa Z b=>?_
 refine qg (λS aS wS=>∃(k:Nat) (q:List Nat) (X:Option Addr) (G:Nat),(k<=g)/\(q++kX x.av k c=kX x.av g c)/\(abn q<=g-k)/\(abn q<=G)/\S=0+k/\Fr aS 35 [] ((7,abk X q G)::(6,vN)::(0,vP E 0)::ahK 1 k 2 c [])/\Mem w wS [abl X q G dM 3 1]) (m:=0+g) ⟨g,[],none,0,abr _,rfl,abA _,abr _,rfl,Z.sub kr,b.pk [0]⟩ ?_
 clear Z b;rintro S a w_ ⟨k,q,X,G,hk,J,hql,u,rfl,Z,b⟩
 refine Jb Z b ((bN 2∘aK∘Jj) (Ji (λz=>?_) λz=>?_))
 ·
  have A:0<k:=by omega
  have K:=yK r (g:=k) om k A (abr _)
  intro a Z b
  unfold d9 at K
  obtain ⟨y,T⟩:∃y:Nat,(x.gs.getD k Gr.zero).parent=(y:Int):=⟨(x.gs.getD k Gr.zero).parent.toNat,by omega⟩
  refine Jb Z b ((eO∘bN 3∘JL (h:=by exact λb=>MC x H F o E c om _ k (abr _) om _ (I.old b) (b.lu hm))) ?_)
  rintro b _ M0 ⟨rfl,L⟩
  refine ⟨_,rfl,_,b.call L,?_⟩
  refine (Jp 1∘Jx∘Jx∘JA #[vQ 0,vQ 0,vQ 0]) λw8 g8=>(JV tK aO (h1:=by exact Cq (aM bJ (aR x.av k c)))) λU=>(Jp 1∘aH∘bA 1∘Jj) (Ju (λe=>?_) λe=>?_)
  ·
   have p:q=kX x.av g c:=by rw [<-J,Z9 (by simpa using e),abP]
   exact (JT∘JX∘JG∘aJ 2∘aK∘aP∘bC) λb=>zfn p (b.own (i:=1) rfl) u b.below
  have M:aR x.av k c=[]:=by simpa using e
  have f:=Z8 (s:=x.av) (c:=c) (g:=k) (yK r om) A M
  replace f:kX x.av k c=k::kX x.av (x.gs.getD k Gr.zero).parent.toNat c:=f
  rw [T,abE] at f
  refine (aU∘JR∘Jp 2∘JU kE #[vI k]) λw32 g32=>(JD ([k].map dM) 2 (λ_ _=>iq) kE (hr:=by exact λb=>b.bB (i:=0) (n:=1) (size:=1) rfl rfl) (h1:=by simp [abR,dM])) λLH B C j=>(Jp 1∘gq∘Jq) ?_
  have d:abn q+1=abn (q++[k]):=Q7 rfl
  rw [d] at j
  refine (JC (h:=by exact λb=>b.aY (i:=2) (ys:=(q++[k]).map dM) rfl d (List.map_append.symm))∘Jk 7 (.slice B (abn (q++[k])) C) (h:=by exact iB d)∘JG∘JR∘Jp 1∘Jn∘Jf 0∘Jf 0∘Jf 2∘Jy (v:= .slice x.gA (abn x.gs) x.gc) (h:=by exact Pd rfl rfl kr (λ_ h=>h.mG hm rfl))∘Jp 1) ?_
  obtain ⟨N,O,D,_⟩:=Rd.sat I.g k
  have l:=I.g;rw [D] at l
  refine (Jk 17 (.slice (some ⟨N,O,none⟩) (abn x.gs) x.gc) (h:=by rw [D];try rfl)∘iC k 2∘Jf 0∘DT qK l k Gr.zero∘Jo (vI y) (by rw [T])∘Jp 1∘aH∘Jq) λa Z b=>?_
  exact ⟨_,om,y,(q++[k]),B,C,by omega,by rw [<-J,f,abu];rfl,by rw [abp];show abn q+1<=g-y;omega,j,rfl,Z.sub kr,b.pk [2]⟩
 have p:q=kX x.av g c:=by rw [<-J,show k=0 by omega,qu5,abP]
 exact (JF∘JX∘JG∘aJ 2∘aK∘aP∘bC) λb=>zfn p (b.own (i:=0) rfl) u b.below
def q6z (x:aF) (o c:Nat) (w:World) (i:x.av.Ok) (p:bY x) (f:ShAt x) (H:eU w x) (hm:w.heap[o]?=some (.cells #[vI x.au,vQ x.aj,abk x.gA x.gs x.gc,abk x.lA x.cl x.lc,abk x.uA x.cu x.uc,abk x.tA x.ts x.tc,abk x.sA x.rs x.sc,.bool true] 273 (0,0))) (hc:(c:Int)<x.au):
    Calls abo 211 #[vP o 0,vI c] w (Is w (vI (o7 x.av c:Int))):=by
 have B:=p.s;have C:=p.t;have D:=p.g;have I:=f.rs
 obtain ⟨J,K,_,q⟩:=mI f.cfg
 have E:0<abn x.rs:=by have S:=(qw q).1;omega
 refine (jf Tryz.func211 28) ?_
 refine (aJ 1∘bA 1∘Jj∘JB) λa Z b=>?_
 refine qg (λF L M=>∃(g:Nat),(g<abn x.rs)/\(vU x.av c g=o7 x.av c)/\F=abn x.rs-g/\Fr L 28 [] [(5,vI g),(4,vI 0),(0,vP o 0),(1,vI c)]/\Mem w M []) (m:=abn x.rs-0) ⟨0,by omega,rfl,rfl,Z.sub kr,b.pk []⟩ ?_
 clear Z b;rintro F a T ⟨g,U,r,rfl,Z,b⟩
 refine Jb Z b ((JB∘aJ 3∘JL (h:=by exact λb=>MC x i p f o c om _ g (abr _) om _ (H.old b) (b.lu hm))) ?_)
 rintro b _ N ⟨rfl,u⟩
 refine ⟨_,rfl,_,b.call u,?_⟩
 refine (Jp 1∘Jx∘Jx∘JA #[vQ 0,vQ 0,vQ 0]) λV l=>(JV tK aO (h1:=by exact Cq (aM bJ (aR x.av g c)))) λG=>(bM 1∘JQ∘JB∘aJ 3∘bQ∘Jj) (Ju (λd=>?_) λd=>?_)
 ·
  have e:aR x.av g c=[]:=by simpa using d
  exact (JT∘bF 1∘bC) λb=>by exact ⟨by rw [<-r,qln (by rw [lG];omega) e];rfl,b.below⟩
 have e:aR x.av g c≠[]:=by simpa using d
 have O:abn x.av.sp=abn x.rs:=lG
 refine (JF∘JP∘Jy (v:=vP l 1) (h:=by exact Yl.sP (ad:=⟨l,0,none⟩) (m:=3) (y:=1) (sz:=1) rfl rfl rfl kr de)∘Jc O0∘Jp 2∘dY∘Jj) (Je (λn=>?_) λn=>?_)
 ·
  have j:(aM bJ (aR x.av g c)).k=0:=by omega
  have P:=zis i f e
  have z:=qlo (s:=x.av) (c:=c) (g:=g) om e j
  exact (JT∘JP∘Jy (v:=vP l 2) (h:=by exact Yl.sP (ad:=⟨l,0,none⟩) (m:=3) (y:=2) (sz:=1) rfl rfl rfl kr de)∘Jc O0∘Jv 1 [(24,vI (IntKind.i64.wrap ((aM bJ (aR x.av g c)).id:Int)))]∘Jo (vI ((aM bJ (aR x.av g c)).id)) (by exact za rfl om)∘Jp 1∘dY∘aP∘bC) λb=>by exact ⟨by rw [<-r,z],b.below⟩
 have j:(aM bJ (aR x.av g c)).k≠0:=by omega
 obtain ⟨A,Q,R⟩:=qlp (s:=x.av) (c:=c) (g:=g) i om e j
 refine (aU∘JR∘Jy (v:=vP l 2) (h:=by exact Yl.sP (ad:=⟨l,0,none⟩) (m:=3) (y:=2) (sz:=1) rfl rfl rfl kr de)∘Jc O0∘Jv 1 [(27,vI (IntKind.i64.wrap ((aM bJ (aR x.av g c)).id:Int)))]∘Jo (vI ((aM bJ (aR x.av g c)).id)) (by exact za rfl om)∘Jp 1∘dY∘Jq) λa Z b=>?_
 exact ⟨_,om,(aM bJ (aR x.av g c)).id,by omega,by rw [<-A];exact r,rfl,Z.sub kr,b.pk []⟩
def q1j (x:aF) (C c:Nat) (w:World) (K:x.av.Ok) (y:bY x) (l:ShAt x) (D:eU w x) (hm:w.heap[C]?=some (.cells #[vI x.au,vQ x.aj,abk x.gA x.gs x.gc,abk x.lA x.cl x.lc,abk x.uA x.cu x.uc,abk x.tA x.ts x.tc,abk x.sA x.rs x.sc,.bool true] 273 (0,0))):
    Calls abo 215 #[vP C 0,vI c] w (Is w (vI (aI x.av c))):=by
 have E:=y.s;have F:=y.t;have G:=y.g;have L:=l.rs
 obtain ⟨M,N,_,O⟩:=mI l.cfg
 have n:=qnu l
 refine (jf Tryz.func215 32) ?_
 refine (aJ 1∘bA 1∘Jj∘bN 1∘Jn∘Jf 0∘Jf 5∘Jy (v:= .slice x.tA (abn x.ts) x.tc) (h:=by exact Pd rfl rfl kr (λ_ h=>h.mG hm rfl))∘Jl∘bM 1∘JB) λa Z b=>?_
 refine qg (λH A B=>∃(i:Nat),(i<=abn x.ts)/\H=abn x.ts-i/\Fr A 32 [] (ahK 14 i 13 (abn x.ts) [(12,abk x.tA x.ts x.tc),(5,vI (gV (x.ts.take i) c)),(4,vI 0),(1,vI c)])/\Mem w B []) (m:=abn x.ts-0) ⟨0,abA _,rfl,Z.sub kr,b.pk []⟩ ?_
 clear Z b;rintro H a R ⟨i,hi,rfl,Z,b⟩
 refine Jb Z b ((cO 1∘JQ) (Ji (λo=>?_) λo=>?_))
 ·
  have p:i<abn x.ts:=by omega
  obtain ⟨t,ht⟩:∃z,(x.ts.getD i Tk.zero)=z:=⟨_,rfl⟩
  have d:=q01 (c:=c) p
  rw [ht] at d
  have P:=qnm (c:=c) n i;have Q:=qnm (c:=c) n (i+1)
  refine (eO∘JP) ?_
  obtain ⟨q,r,j,_⟩:=Rd.sat D.t i
  have k:=D.t;rw [j] at k
  refine (Jk 12 (.slice (some ⟨q,r,none⟩) (abn x.ts) x.tc) (h:=by rw [j];try rfl)∘iC i 8∘pG Tk.cells ql k fE i Tk.zero∘Jo (.agg t.cells) (by rw [ht])∘JA aiA) λS I=>(JV fE aO (h1:=by exact Gu t)) λJ=>(bQ∘Jj) λa Z b=>?_
  refine qz (λA B=>Fr A 32 [] ((25,.bool (t.ready&&decide (t.cpu=(c:Int))))::(7,vP I 0)::(12,abk (some ⟨q,r,none⟩) x.ts x.tc)::(15,.bool true)::ahK 14 i 13 (abn x.ts) [(5,vI (gV (x.ts.take i) c)),(4,vI 0),(1,vI c)])/\Mem w B [.blk I t.cells 232]) ?_ ?_
  ·
   refine zn ?_
   refine Jb Z b ((Jg 5 O0∘Jp 1) (Ju (λe=>?_) λe=>?_))
   ·
    refine (Jg 3 O0∘Jp 3∘kW∘Jq) λa Z b=>?_
    have Z:=Z.sp 25 (.bool (t.ready&&decide (t.cpu=(c:Int)))) rfl (congrArg abM (by rw [e,ab8,abY,beq_iff_eq,decide_eq_true_eq]))
    exact ⟨Z.sub kr,b.pk [0]⟩
   refine (Jp 5∘aH∘Jq) λa Z b=>?_
   have Z:=Z.sp 25 (.bool (t.ready&&decide (t.cpu=(c:Int)))) rfl (congrArg abM (by rw [e];try rfl))
   exact ⟨Z.sub kr,b.pk [0]⟩
  clear Z b;rintro a T ⟨Z,b⟩
  refine Jb Z b (Ju (λf=>?_) λf=>?_)
  ·
   rw [if_pos f] at d
   refine (JT∘JR∘Jp 1∘Jg 2 O0∘Jp 1∘Jo (vI (gV (x.ts.take (i+1)) c)) (by rw [d];exact mF ⟨by omega,by omega⟩)∘Jp 1∘dY∘Jj∘JR∘dx 1∘Jp 1∘aK∘Jq) λa Z b=>?_
   replace Z:=Z.sp 12 (abk x.tA x.ts x.tc) rfl (by rw [j])
   exact ⟨_,om,i+1,by omega,rfl,Z.sub kr,b.pk []⟩
  rw [if_neg (by rw [f];decide),Int.add_zero] at d
  refine (Jk 5 (vI (gV (x.ts.take (i+1)) c)) (h:=by rw [d])∘aU∘JR∘dx 1∘Jp 1∘aK∘Jq) λa Z b=>?_
  replace Z:=Z.sp 12 (abk x.tA x.ts x.tc) rfl (by rw [j])
  exact ⟨_,om,i+1,by omega,rfl,Z.sub kr,b.pk []⟩
 have u:gV (x.ts.take i) c=aI x.av c:=by rw [abI om];rfl
 exact (JF∘JX∘JG∘aJ 2∘aK∘aP∘bC) λb=>by exact ⟨by rw [u],b.below⟩
def zcw {h b:Nat} (n:Nat) (i:Mem W w F) (j:F.drop n=jC d x m e f h b++T) (a:dO x m e f h b) (hc:(c:Int)<x.au) (k:g<b):Calls abo 200 #[vP d 0,vI g,vI c] w (MZ w (kX x.av g c)):=
 q6y x d g c w a.ok a.few a.sh (i.tL n j a.ln) (i.nZ n j a.ln) hc (by rw [a.ln.s];exact k)
def zcx {b:Nat} (n:Nat) (h:Mem W w F) (i:F.drop n=jC b x m g d e f++T) (a:dO x m g d e f) (hc:(c:Int)<x.au):Calls abo 211 #[vP b 0,vI c] w (Is w (vI (o7 x.av c:Int))):=
 q6z x b c w a.ok a.few a.sh (h.tL n i a.ln) (h.nZ n i a.ln) hc
def q60 {m g d e f b c:Nat} (n:Nat) (h:Mem W w F) (i:F.drop n=jC b x m g d e f++T) (a:dO x m g d e f):Calls abo 215 #[vP b 0,vI c] w (Is w (vI (aI x.av c))):=
 q1j x b c w a.ok a.few a.sh (h.tL n i a.ln) (h.nZ n i a.ln)
def Ru (W:World) (c:Nat) (x:aF) (d e f g b:Nat) (T:List Fact) (s:bE) (r:Ending) (h:World):Prop:=∃a,r= .returned (.tuple #[])/\abn a=b/\eP x.gs x.au a/\({x with rs:=a}:aF).av=s/\Mem W h (jC c {x with rs:=a} d e f g b++T)
def zfo {b:Nat} {s:bE} {a:List Rw} (e:a.length=b) (hs:eP x.gs x.au a) (f:({x with rs:=a}:aF).av=s) (hm:Mem W w (jC c {x with rs:=a} m g n d b++T)):Ru W c x m g n d b T s (.returned (.tuple #[])) w:=⟨a,rfl,e,hs,f,hm⟩
def El (x e:En) (b:x.Ok) (a cr:Nat) (c:a<18446744073709551616) (hc:cr<18446744073709551616) (d:x.woken a cr=e) (w:World):
  Calls abo 207 #[.agg x.cells,vQ a,vQ cr] w (Is w (.tuple #[.agg e.cells,vI 0])):=d▸q6e x b a cr c hc w
def q1k (W w:World) (x:aF) (K c:Nat) (u B C D t:Nat) (hx:rX x u B C D t) (T:List Fact) (E:Option Addr) (ec:Nat) (l:List Nat) (hT: abl E l ec dM 3 1∈T) (hlm:∀g∈l,0<g/\g<t) (hln:abn l<=1000000)
    (L:dF x.gs=true) (hrg:abn x.rs=abn x.gs) (hsp:eP x.gs x.au x.rs) (M:x.aj<18446744073709551616) (hcp:x.au<=64) (hc:(c:Int)<x.au) (b:Mem W w (jC K x u B C D t++T)):
    Calls abo 206 #[vP K 0,abk E l ec,vI c] w (Ru W K x u B C D t T (gN x.av l c)):=by
 obtain ⟨cp,cr,gA,gc,gs,lA,lc,cl,uA,uc,cu,tA,tc,ts,sA,sc,rs⟩:=x
 replace b:Mem W w (fM K cp cr gA u gc lA B lc uA C uc tA D tc sA t sc::fG gA u gc gs::fI lA B lc cl::fI uA C uc cu::fT tA D tc ts::fS sA t sc rs::(fR rs++(T))):=b
 obtain ⟨mK,hll,nL,hlt,hls⟩:=hx;replace mK:abn gs=u:=mK;replace hls:abn rs=t:=hls
 have hrE:Rd w w.heap.size 1 E (abn l) (l.map dM):=b.Z6 6 rfl hT
 replace L:dF gs=true:=L;replace hrg:abn rs=abn gs:=hrg;replace M:cr<18446744073709551616:=M;replace hcp:cp<=64:=hcp;replace hc:(c:Int)<cp:=hc;replace hsp:eP gs cp rs:=hsp
 have hgl:=qw L
 have nM:=hgl.1;have nN:=hgl.2.1
 obtain ⟨qM,rfl⟩:=zo (b.own (i:=1) rfl) om
 obtain ⟨qN,rfl⟩:=zo (b.own (i:=5) rfl) om
 refine (yR b Tryz.func206 82) ?_
 refine (aJ 1∘Jl∘bM 1∘JB) λa Z b=>?_
 refine qg (λmS aS wS=>∃(i:Nat) (d:List Rw),(i<=abn l)/\(abn d=t)/\(eP gs cp d)/\((⟨cp,cr,some ⟨qM,0,none⟩,gc,gs,lA,lc,cl,uA,uc,cu,tA,tc,ts,some ⟨qN,0,none⟩,sc,d⟩:aF).av=gN (⟨cp,cr,some ⟨qM,0,none⟩,gc,gs,lA,lc,cl,uA,uc,cu,tA,tc,ts,some ⟨qN,0,none⟩,sc,rs⟩:aF).av (l.take i) c)/\mS=abn l-i/\Fr aS 82 [] (ahK 14 i 13 (abn l) [(12,abk E l ec),(0,vP K 0),(2,vI c)])/\Mem W wS (fM K cp cr (some ⟨qM,0,none⟩) u gc lA B lc uA C uc tA D tc (some ⟨qN,0,none⟩) t sc::fG (some ⟨qM,0,none⟩) u gc gs::fI lA B lc cl::fI uA C uc cu::fT tA D tc ts::fS (some ⟨qN,0,none⟩) t sc d::(fR d++(T)))) (m:=abn l-0) ⟨0,rs,abA _,hls,hsp,rfl,rfl,Z.sub kr,b.pt 6 [0,1,2,3,4,5]⟩ ?_
 clear Z b;rintro mS a w_ ⟨i,d,hi,hl2,G,V,rfl,Z,b⟩
 refine Jb Z b ((cO 1∘JQ) (Ji (λCh=>?_) λCh=>?_))
 ·
  have X:i<abn l:=by omega
  obtain ⟨g,hge⟩:∃z,(l.getD i 0)=z:=⟨_,rfl⟩
  have hg0:=hlm g (by rw [<-hge];exact qf 0 X)
  obtain ⟨⟨yA,yc,yl⟩,Y⟩:∃y,d.getD g Rw.zero=y:=⟨_,rfl⟩
  have hys:=G g om;rw [Y] at hys
  have hyl:(abn yl:Int)=cp:=hys.1
  repeat (first|clear Z|clear b)
  intro a Z b
  obtain ⟨gy,rfl⟩:=b.jG 6 rfl om Y om
  obtain ⟨o,H⟩:∃z,yl[c]?=some z:=⟨_,abq om⟩
  have I:=hys.2 o (abH H)
  have hyv:=I.1.v;have qL:=I.1.r;have r9:=I.1.floor
  have hpb:=yK L (g:=g) om g hg0.1 (abr _)
  unfold d9 at hpb
  obtain ⟨p,hpp⟩:∃p:Nat,(gs.getD g Gr.zero).parent=(p:Int):=⟨(gs.getD g Gr.zero).parent.toNat,by omega⟩
  have hpg:p<g:=by omega
  obtain ⟨⟨pA,pc,pl⟩,hp⟩:∃y,d.getD p Rw.zero=y:=⟨_,rfl⟩
  have hps:=G p om;rw [hp] at hps
  have hpl:(abn pl:Int)=cp:=hps.1
  revert b;revert a;repeat (first|clear Z|clear b)
  intro a Z b
  obtain ⟨gp,rfl⟩:=b.jG 6 rfl om hp om
  obtain ⟨pz,hpz⟩:∃z,pl[c]?=some z:=⟨_,abq om⟩
  have hpo:=hps.2 pz (abH hpz)
  have hpv:=hpo.1.v;have hpr:=hpo.1.r;have P:=hpo.1.floor
  obtain ⟨J,Q,amS,amT⟩:=MP L (g:=g) om
  have R:(⟨o.v,o.r,J⟩:En).Ok:=⟨by have:=I.2;rw [Q] at this;exact this,I.1.v⟩
  obtain ⟨e,N⟩:∃e,(⟨o.v,o.r,J⟩:En).woken pz.floor cr=e:=⟨_,rfl⟩
  have S:e.Ok/\e.w=J:=by rw [<-N];exact aay R _ _ P
  have hev:=S.1.2;have her:e.r<4294967296:=by have:=Ay S.1.1;omega
  refine Jb Z b ((eO∘JP) ?_)
  obtain ⟨gE,oE,rfl,_⟩:=hrE.sat i
  refine (iC i 1∘Jy (v:=vI (l.getD i 0)) (h:=by exact Pd rfl rfl kr (λ_ h=>(h.Z6 6 rfl hT).Bu (k:=i) (uM (F:=dM) (k:=i) (x:=(l.getD i 0)) ((getD_at 0 om)))))∘Jo (vI g) (by rw [hge])∘Jp 1∘bQ∘bA 1∘Jn∘Jf 0∘Jg 6 O0∘Jp 1∘nU g 1∘Jy (v:= .slice ((d.getD g Rw.zero).A) ((d.getD g Rw.zero).l.length) ((d.getD g Rw.zero).c)) (h:=by exact aaf 5 g Rw.zero om rfl rfl rfl)∘Jo (vS gy (abn yl) yc) (by rw [Y])∘Jp 1∘nU c 3∘Jp 1∘aH∘bA 1∘Jn∘Jf 0∘Jf 0∘Jg 2 O0∘Jp 1∘nU g 2∘Jy (v:= .agg ((gs.getD g Gr.zero).cells)) (h:=by exact Pe rfl rfl lU rfl (λ_ h=>h.zV qK (i:=1) rfl ((getD_at Gr.zero om))))∘JA #[vI 0,vI 0]) λw9 g9=>(JV lU aO (h1:=by exact Y6 (gs.getD g Gr.zero))) λaaS=>(aH∘Jj) λa Z b=>?_
  refine qz (λaS wS=>∃(q:Nat),Fr aS 82 [] ((10,vP q 0)::(9,vP g9 0)::(8,vP gy (c*3))::(7,vI g)::(15,.bool true)::ahK 14 i 13 (abn l) [(12,abk (some ⟨gE,oE,none⟩) l ec),(0,vP K 0),(2,vI c)])/\Mem W wS (.blk q e.cells 333:: .blk g9 ((gs.getD g Gr.zero).cells) 198::fM K cp cr (some ⟨qM,0,none⟩) u gc lA B lc uA C uc tA D tc (some ⟨qN,0,none⟩) t sc::fG (some ⟨qM,0,none⟩) u gc gs::fI lA B lc cl::fI uA C uc cu::fT tA D tc ts::fS (some ⟨qN,0,none⟩) t sc d::(fR d++(T)))) ?_ ?_
  ·
   refine Jb Z b ((Vs .n [35]) λwd5=>(Vp [0,4]∘Vf 8 1∘Vp [11]∘Vf 16 0∘Vp [20,24]∘Vn 1∘Vf 2 0∘Vy 3 (v:=vQ o.v) (h:=by exact Pd rfl rfl kr (λ_ h=>h.uy 7 (j:=0) rfl om Y (H) rfl))∘Vn 5∘Vf 6 1∘Vy 7 (v:=vW o.r) (h:=by exact Pd rfl rfl kr (λ_ h=>h.uy 7 (j:=1) rfl om Y (H) rfl))∘Vc 9 O0∘Vo (vI J) (by rw [Q])∘Vn 12∘Vf 13 0∘Vf 14 6∘Vc 15 O1∘Vc 17 O0∘Vo (vI p) (by rw [hpp])∘Vy 18 (h:=by exact Yl.iK qN p 1 rfl rfl rfl)∘Vy 19 (v:= .slice ((d.getD p Rw.zero).A) ((d.getD p Rw.zero).l.length) ((d.getD p Rw.zero).c)) (h:=by exact aaf 6 p Rw.zero om rfl rfl rfl)∘Vo (vS gp (abn pl) pc) (by rw [hp])∘Vy 21 (h:=by exact Yl.iK gp c 3 rfl rfl rfl)∘Vf 22 2∘Vy 23 (v:=vQ pz.floor) (h:=by exact Pd rfl rfl kr (λ_ h=>h.uy 7 (j:=2) rfl om hp (hpz) rfl))∘Vn 25∘Vf 26 0∘Vf 27 0∘Vf 28 1∘Vc 29 O1) λa Z b s=>?_)
   refine zd [10,34] kr rfl ?_
   refine all_cons ?_ ?_
   ·refine qq Z (i:=10) rfl rfl ?_
    refine jd Z b [vQ o.v,vW o.r,vI J] (.agg #[vQ o.v,vW o.r,vW J]) rfl rfl (zc o.v o.r (J:Int) om _) λBU U b a Z=>?_
    refine ay (b.pt 7 [0,1,2,3,4,5,6]) (λs=>?_)
    refine zd [30,34] kr rfl ?_
    refine all_cons ?_ ?_
    ·refine qq Z (i:=30) rfl rfl ?_
     refine jd Z b [.agg #[vQ o.v,vW o.r,vW J],vQ pz.floor,vQ cr] (.tuple #[.agg e.cells,vI 0]) rfl rfl (El (⟨o.v,o.r,J⟩:En) e R pz.floor cr P M N _) λM4 U b a Z=>?_
     refine ay (b.pt 7 [0,1,2,3,4,5,6]) (λs=>?_)
     refine Vb Z b s ((Vp [31]∘Vx 32∘Vx 33∘VA 34 .n #[vQ 0,vW 0,vW 0]) λqY q=>λa Z b s=>?_)
     refine s_on Z 35 rfl (bT Z b 0 rfl rfl rfl rfl rfl qp rfl rfl (mh e) λO b=>?_)
     refine dN kr ?_
     refine ap Z (bU kr) [36] (bt 37 []) [] λa Z=>?_
     refine qe kr ?_
     exact ⟨q,Z.sub kr,b.pt 8 [0,1,2,3,4,5,6,7]⟩
    refine all_cons ?_ all_nil
    refine qq Z (i:=34) rfl rfl ?_
    refine gZ Z b #[vQ 0,vW 0,vW 0] ?_
    clear Z b;intro a qY q Z b
    refine ay (b.pt 8 [1,2,3,4,5,6,7]) (λs=>?_)
    refine Vb Z b s ((VI 30 (.f .n) (h:=by exact λb=>El (⟨o.v,o.r,J⟩:En) e R pz.floor cr P M N _)) λM4 U=>(Vp [31]∘Vx 32∘Vx 33) λa Z b s=>?_)
    refine s_on Z 35 rfl (bT Z b 0 rfl rfl rfl rfl rfl qp rfl rfl (mh e) λO b=>?_)
    refine dN kr ?_
    refine ap Z (bU kr) [36] (bt 37 []) [] λa Z=>?_
    refine qe kr ?_
    exact ⟨q,Z.sub kr,b.pt 8 [0,1,2,3,4,5,6,7]⟩
   refine all_cons ?_ all_nil
   refine qq Z (i:=34) rfl rfl ?_
   refine gZ Z b #[vQ 0,vW 0,vW 0] ?_
   clear Z b;intro a qY q Z b
   refine ay (b.pt 8 [1,2,3,4,5,6,7]) (λs=>?_)
   refine Vb Z b s ((VI 10 (.f .n) (h:=by exact λb=>zc o.v o.r (J:Int) om _)) λBU U=>(VI 30 (.f .n) (h:=by exact λb=>El (⟨o.v,o.r,J⟩:En) e R pz.floor cr P M N _)) λM4 U=>(Vp [31]∘Vx 32∘Vx 33) λa Z b s=>?_)
   refine s_on Z 35 rfl (bT Z b 0 rfl rfl rfl rfl rfl qp rfl rfl (mh e) λO b=>?_)
   refine dN kr ?_
   refine ap Z (bU kr) [36] (bt 37 []) [] λa Z=>?_
   refine qe kr ?_
   exact ⟨q,Z.sub kr,b.pt 8 [0,1,2,3,4,5,6,7]⟩
  clear Z b;rintro a w5 ⟨q,Z,b⟩
  refine EX b [.blk q e.cells 333,.blk g9 ((gs.getD g Gr.zero).cells) 198,fM K cp cr (some ⟨qM,0,none⟩) u gc lA B lc uA C uc tA D tc (some ⟨qN,0,none⟩) t sc,fG (some ⟨qM,0,none⟩) u gc gs,fI lA B lc cl,fI uA C uc cu,fT tA D tc ts] [0,1,2,3,4,5,6] [11] λb s=>?_
  refine ap Z (λ_=>s) [0,1,2,4] (bf 12 [0,1,2,4]) [(75,vP q 1),(73,vP q 0),(72,vP gy (c*3)),(71,vP gy (c*3))] λa Z=>?_
  refine dD Z s 3 0 (v:=vQ e.v) λa Z=>?_
  refine dD Z s 5 0 (v:=vW e.r) λa Z=>?_
  refine oz Z s 6 λa Z=>?_
  refine ap Z (λ_=>s) [7] (bt 12 [8,9,10,11]) [(78,vP gy (c*3))] λa Z=>?_
  refine s_on Z 8 rfl ?_
  refine CB Z b 7 (c:=c) 0 ({o with v:=e.v}) rfl rfl rfl rfl kr rfl rfl om (Y) (H) rfl de rfl λCJ b=>?_
  replace b:Mem W CJ (.blk q e.cells 333:: .blk g9 ((gs.getD g Gr.zero).cells) 198::fM K cp cr (some ⟨qM,0,none⟩) u gc lA B lc uA C uc tA D tc (some ⟨qN,0,none⟩) t sc::fG (some ⟨qM,0,none⟩) u gc gs::fI lA B lc cl::fI uA C uc cu::fT tA D tc ts::fS (some ⟨qN,0,none⟩) t sc (aQ d g c ({o with v:=e.v}))::(fR (aQ d g c ({o with v:=e.v}))++(T))):=b
  refine ay (b.pk [0,1,2,3,4,5,6]) (λs=>?_)
  refine BG Z (λ_=>s) 9 λa Z=>?_
  refine ap Z (λ_=>s) [10] (bt 12 [11]) [(80,vP gy (c*3+1))] λa Z=>?_
  refine s_on Z 11 rfl ?_
  refine CB Z b 7 (c:=c) 1 ({o with v:=e.v,r:=e.r}) rfl rfl rfl rfl kr rfl rfl (by first|omega|(rw [zl];omega)) (ML om Y) (xR H) rfl de rfl λHz b=>?_
  replace b:Mem W Hz (.blk q e.cells 333:: .blk g9 ((gs.getD g Gr.zero).cells) 198::fM K cp cr (some ⟨qM,0,none⟩) u gc lA B lc uA C uc tA D tc (some ⟨qN,0,none⟩) t sc::fG (some ⟨qM,0,none⟩) u gc gs::fI lA B lc cl::fI uA C uc cu::fT tA D tc ts::fS (some ⟨qN,0,none⟩) t sc (aQ (aQ d g c ({o with v:=e.v})) g c ({o with v:=e.v,r:=e.r}))::(fR (aQ (aQ d g c ({o with v:=e.v})) g c ({o with v:=e.v,r:=e.r}))++(T))):=b
  rw [Q0 (by first|omega|(rw [zl];omega))] at b
  refine dN kr ?_
  refine qe kr ?_
  refine Jb Z b ((JG∘JR∘dx 1∘Jp 1∘aH∘Jq) λa Z b=>?_)
  exact ⟨_,om,i+1,(aQ d g c {o with v:=e.v,r:=e.r}),by omega,by rw [zl];exact hl2,G.put {o with v:=e.v,r:=e.r} ⟨hev,her,I.1.floor⟩ (by rw [Q];have:=S.1.1;rw [S.2] at this;exact this),by rw [q02 X,<-V,hge];exact q57 (x:=(⟨cp,cr,some ⟨qM,0,none⟩,gc,gs,lA,lc,cl,uA,uc,cu,tA,tc,ts,some ⟨qN,0,none⟩,sc,d⟩:aF)) (by show g<abn d;omega) Y H hpp (by show p<abn d;omega) hp hpz Q N,rfl,Z.sub kr,b.pt 8 [2,3,4,5,6,7]⟩
 refine (JF∘JX) λa Z b=>?_
 exact iF rfl Z (zfo (x:=(⟨cp,cr,some ⟨qM,0,none⟩,gc,gs,lA,lc,cl,uA,uc,cu,tA,tc,ts,some ⟨qN,0,none⟩,sc,rs⟩:aF)) hl2 G (by rw [show ({(⟨cp,cr,some ⟨qM,0,none⟩,gc,gs,lA,lc,cl,uA,uc,cu,tA,tc,ts,some ⟨qN,0,none⟩,sc,rs⟩:aF) with rs:=d}:aF)=(⟨cp,cr,some ⟨qM,0,none⟩,gc,gs,lA,lc,cl,uA,uc,cu,tA,tc,ts,some ⟨qN,0,none⟩,sc,d⟩:aF) from rfl,V,abI om]) b)
def zcy {a h:Nat} {b:List Mb} (n:Nat) (i:Mem W w F) (j:F.drop n=jC h x m d e f a++T) (k:dO x m d e f a) (hc:(c:Int)<x.au) (l:g<a) (hm:aR x.av g c=b):Calls abo 162 #[vP h 0,vI g,vI c] w (Is w (.tuple #[.agg (aM bJ b).cells,.bool (!b.isEmpty)])):=hm▸zca n i j k hc l
def zcz (a:x.av.Ok) {g c:Nat} (b:aR x.av g c≠[]):(aM bJ (aR x.av g c)).v<18446744073709551616:=by
 rcases MJ (Q8 a b) with ⟨t,ht,_,d⟩|⟨h,_,_,_,_,e⟩
 ·rw [d];exact (a.ts t ht).v
 ·rw [e];exact (yS a h c).v
def q1l (W w:World) (x:aF) (I:Nat) (s t u B k:Nat) (hx:dO x s t u B k) (T:List Fact) (e:Mem W w (jC I x s t u B k++T)):
    Calls abo 157 #[vP I 0] w (Ru W I x s t u B k T (fF x.av)):=by
 obtain ⟨cp,cr,gA,gc,gs,lA,lc,cl,uA,uc,cu,tA,tc,ts,sA,sc,rs⟩:=x
 replace e:Mem W w (fM I cp cr gA s gc lA t lc uA u uc tA B tc sA k sc::fG gA s gc gs::fI lA t lc cl::fI uA u uc cu::fT tA B tc ts::fS sA k sc rs::(fR rs++(T))):=e
 obtain ⟨mK,hll,nL,hlt,Q⟩:=hx.ln
 replace mK:abn gs=s:=mK;replace hll:abn cl=t:=hll;replace nL:abn cu=u:=nL;replace hlt:abn ts=B:=hlt;replace Q:abn rs=k:=Q
 have hrg:=hx.sh.rs;replace hrg:abn rs=abn gs:=hrg
 obtain ⟨N,O,_,J⟩:=mI hx.sh.cfg
 replace N:1<=cp:=N;replace O:cp<=64:=O;replace J:dF gs=true:=J
 have nM:=(qw J).1;have nN:=(qw J).2.1
 obtain ⟨d,rfl⟩:=zo (e.own (i:=5) rfl) om
 refine (Q6 e Tryz.func157 45) ?_
 refine (aJ 1∘Jn∘Jf 0∘Jg 6 O0∘Jl∘bM 1∘JB) λa Z e=>?_
 refine qg (λmS aS wS=>∃(g:Nat) (f:List Rw),(g<=k)/\(abn f=k)/\(dO (⟨cp,cr,gA,gc,gs,lA,lc,cl,uA,uc,cu,tA,tc,ts,some ⟨d,0,none⟩,sc,f⟩:aF) s t u B k)/\(jv (⟨cp,cr,gA,gc,gs,lA,lc,cl,uA,uc,cu,tA,tc,ts,some ⟨d,0,none⟩,sc,rs⟩:aF) f g 0)/\mS=k-g/\Fr aS 45 [] (ahK 13 g 12 k [(11,vS d k sc),(0,vP I 0)])/\Mem W wS (fM I cp cr gA s gc lA t lc uA u uc tA B tc (some ⟨d,0,none⟩) k sc::fG gA s gc gs::fI lA t lc cl::fI uA u uc cu::fT tA B tc ts::fS (some ⟨d,0,none⟩) k sc f::(fR f++(T)))) (m:=k-0) ⟨0,rs,abA _,Q,hx,q03,rfl,Z.sub kr,e.pt 6 [0,1,2,3,4,5]⟩ ?_
 clear Z e;rintro mS a w_ ⟨g,f,hg,hl2,R,hR,rfl,Z,e⟩
 refine Jb Z e ((cO 1∘JQ) (Ji (λyV=>?_) λyV=>?_))
 ·
  have amX:g<k:=by omega
  obtain ⟨⟨yA,yc,yl⟩,hy⟩:∃y,f.getD g Rw.zero=y:=⟨_,rfl⟩
  have K:=R.spots g (by show g<abn f;omega)
  replace K:((f.getD g Rw.zero).l.length:Int)=cp/\_:=K
  rw [hy] at K
  have hyl:(abn yl:Int)=cp:=K.1
  repeat (first|clear Z|clear e)
  intro a Z e
  obtain ⟨Y,rfl⟩:=e.jG 6 rfl om hy om
  have S:=hR.2.1 g
  rw [hy] at S
  replace S:abn yl=(rs.getD g Rw.zero).l.length:=S
  refine Jb Z e ((eO∘aJ 1∘nU g 1∘Jy (v:= .slice ((f.getD g Rw.zero).A) ((f.getD g Rw.zero).l.length) ((f.getD g Rw.zero).c)) (h:=by exact aaf 5 g Rw.zero om rfl rfl rfl)∘Jo (vS Y (abn yl) yc) (by rw [hy])∘Jp 2∘bA 1∘Jl∘bM 1∘JB) λa Z e=>?_)
  refine qg (λmS aS wS=>∃(c:Nat) (b:List Rw) (p:List Sp),(abn b=k)/\(dO (⟨cp,cr,gA,gc,gs,lA,lc,cl,uA,uc,cu,tA,tc,ts,some ⟨d,0,none⟩,sc,b⟩:aF) s t u B k)/\(jv (⟨cp,cr,gA,gc,gs,lA,lc,cl,uA,uc,cu,tA,tc,ts,some ⟨d,0,none⟩,sc,rs⟩:aF) b g c)/\(b.getD g Rw.zero=⟨some ⟨Y,0,none⟩,yc,p⟩)/\(abn p=abn yl)/\mS=abn yl-c/\Fr aS 45 [] (ahK 20 c 19 (abn yl) ((3,vS Y (abn yl) yc)::(2,vI g)::(14,.bool true)::ahK 13 g 12 k [(11,vS d k sc),(0,vP I 0)]))/\Mem W wS (fM I cp cr gA s gc lA t lc uA u uc tA B tc (some ⟨d,0,none⟩) k sc::fG gA s gc gs::fI lA t lc cl::fI uA u uc cu::fT tA B tc ts::fS (some ⟨d,0,none⟩) k sc b::(fR b++(T)))) (m:=abn yl-0) ⟨0,f,yl,hl2,R,hR,hy,rfl,rfl,Z.sub kr,e.pt 6 [0,1,2,3,4,5]⟩ ?_
  clear Z e;rintro mS a w_ ⟨c,b,p,U,E,L,q,P,rfl,Z,e⟩
  refine Jb Z e ((cO 1∘JQ) (Ji (λBP=>?_) λBP=>?_))
  ·
   have hc21:c<abn yl:=by omega
   obtain ⟨o,F⟩:∃z,p[c]?=some z:=⟨_,abq om⟩
   obtain ⟨C,G⟩:∃z,aR (⟨cp,cr,gA,gc,gs,lA,lc,cl,uA,uc,cu,tA,tc,ts,some ⟨d,0,none⟩,sc,rs⟩:aF).av g c=z:=⟨_,rfl⟩
   have D:=E.spots g (by show g<abn b;omega)
   replace D:((b.getD g Rw.zero).l.length:Int)=cp/\∀z∈(b.getD g Rw.zero).l,z.Ok/\_:=D
   rw [q] at D
   have V:=(D.2 o (abH F)).1
   have hzf:=V.floor
   have M:=(Co (x:=(⟨cp,cr,gA,gc,gs,lA,lc,cl,uA,uc,cu,tA,tc,ts,some ⟨d,0,none⟩,sc,b⟩:aF)) (by show g<abn b;omega) (E.sh.row g (by show g<abn b;omega))).2 c (by show c<(b.getD g Rw.zero).l.length;rw [q];show c<abn p;omega)
   replace M:eu _ g ((b.getD g Rw.zero).l.getD c Sp.zero)=true:=M
   rw [q,show (⟨some ⟨Y,0,none⟩,yc,p⟩:Rw).l.getD c Sp.zero=o from uz Sp.zero F] at M
   refine (eO∘aJ 2∘aK∘bA 3∘JI (h:=by exact λe=>zcy 0 e rfl E (by show (c:Int)<cp;omega) om ((q59 L g c).trans G))) λHl hbw=>(Jp 1∘Jx∘Jx∘JA #[vQ 0,vQ 0,vQ 0]) λw5 g5=>(JV tK aO (h1:=by exact Cq (aM bJ C))) λCJ=>(Jp 1∘bA 1∘Jj) (Ju (λH=>?_) λH=>?_)
   ·
    have hne:C≠[]:=by simpa using H
    have hbv:=zcz (x:=(⟨cp,cr,gA,gc,gs,lA,lc,cl,uA,uc,cu,tA,tc,ts,some ⟨d,0,none⟩,sc,rs⟩:aF)) hx.ok (g:=g) (c:=c) (by rw [G];exact hne)
    rw [G] at hbv
    have hr1:iH (⟨cp,cr,gA,gc,gs,lA,lc,cl,uA,uc,cu,tA,tc,ts,some ⟨d,0,none⟩,sc,rs⟩:aF).av g c o={o with floor:=max o.floor (aM bJ C).v}:=by unfold iH;rw [G,if_neg (by simpa using hne)]
    refine (JT∘Vs .n [12]) λM5=>(Vp [0,1,2,3]∘Vy 4 (h:=by exact Yl.iK Y c 3 rfl rfl rfl)∘Vf 5 2∘Vy 6 (v:=vQ o.floor) (h:=by exact Pd rfl rfl kr (λ_ h=>h.uy 7 (j:=2) rfl om q (F) rfl))∘nH 7 tK O0∘VI 8 .n (h:=by exact λe=>ZB (aM bJ C) _)) λHV hbw=>(Vy 9 (v:=vQ (if ((aM bJ C).v:Int)>(o.floor:Int) then ((aM bJ C).v:Int) else (o.floor:Int))) (h:=by exact Yl.max rfl rfl rfl)∘Vo (vQ (max o.floor (aM bJ C).v:Nat)) (by rw [af9];split<;>split<;>first|rfl|(congr 1;omega))∘Vu 10 (h:=by exact λ_=>Yl.iK Y c 3 rfl rfl rfl)∘Vf 11 2) λa Z e HS=>?_
    refine s_on Z 12 rfl ?_
    refine CB Z e 6 (c:=c) 2 ({o with floor:=max o.floor (aM bJ C).v}) rfl rfl rfl rfl kr rfl rfl om (q) (F) rfl de rfl λX e=>?_
    replace e:Mem W X (.blk g5 ((aM bJ C).cells) 283::fM I cp cr gA s gc lA t lc uA u uc tA B tc (some ⟨d,0,none⟩) k sc::fG gA s gc gs::fI lA t lc cl::fI uA u uc cu::fT tA B tc ts::fS (some ⟨d,0,none⟩) k sc (aQ b g c ({o with floor:=max o.floor (aM bJ C).v}))::(fR (aQ b g c ({o with floor:=max o.floor (aM bJ C).v}))++(T))):=e
    refine dN kr ?_
    refine qe kr ?_
    refine Jb Z e ((JG∘JR∘dx 1∘Jp 1∘aH∘Jq) λa Z e=>?_)
    exact ⟨_,om,c+1,(aQ b g c {o with floor:=max o.floor (aM bJ C).v}),(p.set c {o with floor:=max o.floor (aM bJ C).v}),by rw [zl];exact U,E.put (by show g<abn b;omega) {o with floor:=max o.floor (aM bJ C).v} ⟨V.v,V.r,by show max _ _<_;rw [af9];split<;>omega⟩ M,q04 L (by show g<abn rs;omega) (by show c<(rs.getD g Rw.zero).l.length;omega) (by rw [q];exact F) hr1,ML om q,by rw [abJ];exact P,rfl,Z.sub kr,e.pt 7 [1,2,3,4,5,6]⟩
   have hem:aR (⟨cp,cr,gA,gc,gs,lA,lc,cl,uA,uc,cu,tA,tc,ts,some ⟨d,0,none⟩,sc,rs⟩:aF).av g c=[]:=by rw [G];simpa using H
   refine (aU∘JR∘dx 1∘Jp 1∘aK∘Jq) λa Z e=>?_
   exact ⟨_,om,c+1,b,p,U,E,q05 L hem,q,P,rfl,Z.sub kr,e.pt 7 [1,2,3,4,5,6]⟩
  refine (JF∘JX∘JG∘JR∘dx 1∘Jp 1∘aK∘Jq) λa Z e=>?_
  exact ⟨_,om,g+1,b,by omega,U,E,q6a L (by show (rs.getD g Rw.zero).l.length<=c;omega),rfl,Z.sub kr,e.pt 6 [0,1,2,3,4,5]⟩
 refine (JF∘JX) λa Z e=>?_
 exact iF rfl Z (zfo (x:=(⟨cp,cr,gA,gc,gs,lA,lc,cl,uA,uc,cu,tA,tc,ts,some ⟨d,0,none⟩,sc,rs⟩:aF)) hl2 R.spots (q6b hR (by show abn rs<=g;omega)) e)
end Go.Proofs.YtekiimhdnigmcaaGreatDoor
