/- Parts. -/
import Derived.Test.YtekiimhdnigmcaaGreatDoorQbZ3
set_option linter.all false
set_option maxRecDepth 100000
set_option maxHeartbeats 1000000
namespace Go.Proofs.YtekiimhdnigmcaaGreatDoor
open Go.RowKit
open Go renaming World→aiM,Value→aiN,Program→aiO,TypeId→aiP,Ending→aiQ,Operand→aiR,Oper→aiS,Deferred→aiU,Exit→aiV
open List renaming length→abo
open _root_.Go.Proofs.Tryz renaming prog→abp,func202→ahi
open _root_.List renaming length_append→abq,getElem?_eq_getElem→abr,getD_eq_getElem?_getD→abt,append_assoc→abv,length_map→abw,length_take→abx,getElem?_eq_some_iff→abB,length_drop→abE,mem_of_getElem?→abJ,length_set→abK,take_of_length_le→abL,append_nil→abM,flatMap_cons→abR,mem_of_mem_drop→abU,length_cons→abV,mem_cons→abY,map_append→abZ,flatMap_append→ab1,mem_or_eq_of_mem_set→ab4,mem_cons_of_mem→ab5,mem_map→ab7,take_append_drop→ab8,mem_append→acg,mem_cons_self→acj,getElem_of_mem→acp,drop_of_length_le→acs,not_mem_nil→acv,perm_append_comm→acD,mem_of_mem_take→acG,getElem?_map→acM,drop_drop→acN,mem_append_right→acP,mem_flatMap→acV,length→acW,mem_map_of_mem→ac5,getElem_mem→ac7,perm_middle→ac8,getElem?_set_self→adf,take_left→adO,getElem?_eq_none→adR,getElem?_append_left→adT,ext_getElem→ad8,length_nil→aeh,pairwise_cons→aey,takeWhile_sublist→aeL,getElem?_set_ne→aeW,set_append→ae1,getElem_mapIdx→ae2,takeWhile_cons→ae3,length_mapIdx→afd,set_set→afk,map_set→afl,takeWhile_append_dropWhile→afq,perm_append_comm_assoc→afI,eraseIdx_sublist→agc,length_pos_iff→agq,getElem_map→agM
open Nat renaming le_refl→abu,zero_le→abz,lt_or_ge→ab6,eq_zero_or_pos→ach,le_trans→ada,mod_lt→ad1,strongRecOn→afb,max_def→agr
open Bool renaming and_eq_true→abG,eq_iff_iff→ab3,true_and→acn,not_eq_true'→acL,false_and→adw,and_false→adx,or_eq_true→adD,not_eq_false'→aec
open Int renaming toNat_natCast→abH,le_refl→af4,ofNat_inj→ahh
open Value renaming bool→abN,int→abT,oneCell'→abX,agg→afp
open Builtin renaming zeroCells→ab2
open World renaming ownsRow_nil→acH
open Addr renaming add_mid→acI
open Option renaming not_isSome_iff_eq_none→ads
open Classical renaming not_not→adu
open Rw renaming l→aeb
open aiX renaming row→aga
variable {w W:aiM} {a s:dF} {b:Bk} {c d e er m g cpu lost k i tX f:Nat} {l R:List Nat} {A E:aiW} {q:List Ev×Nat×Nat} {x:aF} {r:aiQ} {T F:List aiX} {t:Tk} {z:Sp} {rs:List Rw} {yl:List Sp}
def q5f (g:Nat) (b:Bk) (o:b.Ok) (A:aiW) (c B:Nat) (w:aiM) (r:aR B w) (p:B<=w.heap.size) (hr:Rd w w.heap.size 11 A (abo b.evs) (b.evs.flatMap fC)) (u:abo b.evs<=1000000) (hb:w.heap[g]?=some (.cells (b.cells A c) 85 (0,0))):
    Calls abp 225 #[vP g 0] w (Is w (.bool b.pQ)):=by
 refine (fE Tryz.func225 47) ?_
 refine (dh 1∘JQ∘JP∘Jf 4∘Jy (v:= .slice A (abo b.evs) c) (h:=by exact Pd rfl rfl kr (λ_ h=>h.mH hb rfl))∘JI (h:=by exact λd=>zmz A (abo b.evs) c b.evs o.evs B _ (r.mem d p).laid (d.le p) (d.old hr) om (i:=(jg b.evs).1) (er:=(jg b.evs).2) rfl)) λx s=>(Jp 1∘Jx∘Jx∘Jp 2∘aJ∘bg 3) (Jh (λe=>?_) λe=>?_)
 ·
  exact (Jv 19 [(31,.bool true)]∘lq∘Jj∘JT∘bE 1∘aW) λd=>by exact ⟨by rw [show b.pQ=false from decide_eq_false om],d.below⟩
 refine (Jf 1∘Jy (v:=vB b.cpu) (h:=by exact Pd rfl rfl kr (λ_ h=>h.mH hb rfl))∘Jp 3) (Ji (λf=>?_) λf=>?_)
 ·
  exact (Jv 14 [(31,.bool true)]∘aJ∘Jj∘JT∘bE 1∘aW) λd=>by exact ⟨by rw [show b.pQ=false from decide_eq_false om],d.below⟩
 refine (Jf 2∘Jy (v:=vI b.lost) (h:=by exact Pd rfl rfl kr (λ_ h=>h.mH hb rfl))∘Jp 3) (Ji (λj=>?_) λj=>?_)
 ·
  exact (Jv 9 [(31,.bool true)]∘aJ∘Jj∘JT∘bE 1∘aW) λd=>by exact ⟨by rw [show b.pQ=false from decide_eq_false om],d.below⟩
 refine (Jf 2∘Jy (v:=vI b.lost) (h:=by exact Pd rfl rfl kr (λ_ h=>h.mH hb rfl))∘Jp 3) (Ji (λk=>?_) λk=>?_)
 ·
  exact (Jp 4∘aJ∘Jj∘JT∘bE 1∘aW) λd=>by exact ⟨by rw [show b.pQ=false from decide_eq_false om],d.below⟩
 refine (Jf 3∘Jy (v:=vI b.next) (h:=by exact Pd rfl rfl kr (λ_ h=>h.mH hb rfl))∘Jp 2∘aJ∘Jj) (Jh (λl=>?_) λl=>?_)
 ·
  exact (JT∘bE 1∘aW) λd=>by exact ⟨by rw [show b.pQ=false from decide_eq_false om],d.below⟩
 refine (aQ∘JQ∘JP∘Jf 4∘Jy (v:= .slice A (abo b.evs) c) (h:=by exact Pd rfl rfl kr (λ_ h=>h.mH hb rfl))∘Jl∘Jp 1∘eP∘Jj) (Je (λm=>?_) λm=>?_)
 ·
  exact (JT∘JP∘Jf 2∘Jy (v:=vI b.lost) (h:=by exact Pd rfl rfl kr (λ_ h=>h.mH hb rfl))∘Jp 2∘eP∘aP∘aW) λd=>by exact ⟨by rw [ab3.2 (show (decide ((b.lost:Int)>(0:Int)))=true↔b.pQ=true by unfold Bk.pQ;rw [YM om];simp only [decide_eq_true_eq,beq_iff_eq];omega)],d.below⟩
 refine (aQ) λa Z d=>?_
 refine wp_seq ?_
 refine Jb Z d ((Vs .n []) λt=>(Vf 0 4∘Vf 5 1∘Vy 1 (v:= .slice A (abo b.evs) c) (h:=by exact Pd rfl rfl kr (λ_ h=>h.mH hb rfl))) ?_)
 obtain ⟨gA,q,rfl,_⟩:=hr.sat 0
 exact (Vy 2 (v:=vP gA q) (h:=by exact Yl.indexAddr (ad:=⟨gA,q,none⟩) (y:=0) (sz:=11) rfl rfl rfl om kr)∘Vf 3 2∘Gd 4 qbv hr 2 0 Ev.zero (hk:=by first|omega|(simp;omega))∘Vy 6 (v:=vB b.cpu) (h:=by exact Pd rfl rfl kr (λ_ h=>h.mH hb rfl))∘Vp [7,8]∘Vd∘aJ∘JZ∘aW) λd=>by exact ⟨by rw [ab3.2 (show (((b.evs.getD 0 Ev.zero).cpu:Int)==(b.cpu:Int))=true↔b.pQ=true by unfold Bk.pQ;rw [YL om];simp only [decide_eq_true_eq,beq_iff_eq];omega)],d.below⟩
def q5g (g:Nat) (b:Bk) (A:aiW) (c:Nat) (w:aiM) (hb:w.heap[g]?=some (.cells (b.cells A c) 85 (0,0))):
    Calls abp 226 #[vP g 0] w (Is w (.bool b.uN)):=by
 refine (fE Tryz.func226 26) ?_
 refine (aM 1∘Jr∘Jf 3∘Jy (v:=vI b.next) (h:=by exact Pd rfl rfl kr (λ_ h=>h.mH hb rfl))∘Jp 2) (Ji (λi=>?_) λi=>?_)
 ·
  refine (Jf 3∘Jy (v:=vI b.next) (h:=by exact Pd rfl rfl kr (λ_ h=>h.mH hb rfl))∘Jp 3) (Ji (λd=>?_) λd=>?_)
  ·
   refine (Jf 1∘Jy (v:=vB b.cpu) (h:=by exact Pd rfl rfl kr (λ_ h=>h.mH hb rfl))∘Jp 3) (Je (λe=>?_) λe=>?_)
   ·
    refine (Jf 2∘Jy (v:=vI b.lost) (h:=by exact Pd rfl rfl kr (λ_ h=>h.mH hb rfl))∘Jp 3) (Je (λf=>?_) λf=>?_)
    ·
     exact (Jf 4∘Jy (v:= .slice A (abo b.evs) c) (h:=by exact Pd rfl rfl kr (λ_ h=>h.mH hb rfl))∘Jl∘Jp 3∘aJ∘aP∘aW) λa=>by exact ⟨by rw [ab3.2 (show ((abo b.evs:Int)==(0:Int))=true↔b.uN=true by unfold Bk.uN;simp only [decide_eq_true_eq,beq_iff_eq];omega)],a.below⟩
    exact (Jp 6∘aJ∘aP∘aW) λa=>by exact ⟨by rw [show b.uN=false from decide_eq_false om],a.below⟩
   exact (Jv 11 [(1,.bool false)]∘aJ∘aP∘aW) λa=>by exact ⟨by rw [show b.uN=false from decide_eq_false om],a.below⟩
  exact (Jv 16 [(1,.bool false)]∘aJ∘aP∘aW) λa=>by exact ⟨by rw [show b.uN=false from decide_eq_false om],a.below⟩
 exact (Jv 21 [(1,.bool false)]∘fJ∘aP∘aW) λa=>by exact ⟨by rw [show b.uN=false from decide_eq_false om],a.below⟩
def GI (b:Bk) (k:b.Ok) (A:aiW) (c B:Nat) (w:aiM) (r:aR B w) (o:B<=w.heap.size) (hr:Rd w w.heap.size 11 A (abo b.evs) (b.evs.flatMap fC)) (s:abo b.evs<=1000000):
    Calls abp 164 #[.agg (b.cells A c)] w (Is w (.bool b.fits)):=by
 refine (fE Tryz.func164 19) ?_
 refine (JP∘JE) λt g1=>(Jp 1∘Jr) λa Z d=>?_
 refine fo Z 0 rfl rfl ?_
 refine q39 Z d rfl rfl de ?_
 clear Z d;intro a u x Z d
 refine Jb Z d ((Jy (h:=by exact Yl.makeFunc (fst:=[]) (caps:=[vP g1 0]) rfl rfl rfl)) λa Z d=>?_)
 refine fo Z 2 rfl rfl ?_
 refine Xn Z d (i:=0) (kt:=5) (et:=23) (kd:= .int .u8) (Or.inr rfl) rfl kr kr rfl rfl rfl rfl (by first|trivial|rfl) (rfl) λp d=>?_
 refine Jb Z d ((Jy (h:=by exact Yl.makeFunc (fst:=[]) (caps:=[vP g1 0]) rfl rfl rfl)) λa Z d=>?_)
 refine fo Z 4 rfl rfl ?_
 refine Xn Z d (i:=0) (kt:=5) (et:=23) (kd:= .int .u8) (Or.inr rfl) rfl kr kr rfl rfl rfl rfl (by first|trivial|rfl) (rfl) λq d=>?_
 refine Jb Z d ((Jp 2∘fJ∘Jq) λa Z d=>?_)
 rcases zm7 b.kind with e|e|⟨e,l⟩
 ·
  refine Jb Z d ((JG∘aM 1∘Jg 0 O1∘Jy (v:= .func (.func 225) #[] #[vP g1 0]) (h:=by exact aaO (kt:=5) (et:=23) (kd:= .int .u8) (j:=0) (es:=(#[].push {key:=vB 1,val:= .func (.func 225) #[] #[vP g1 0],born:=0}).push {key:=vB 2,val:= .func (.func 226) #[] #[vP g1 0],born:=0+1}) (clock:=0+1+1) rfl kr kr rfl rfl (λ_ h=>h.jC (i:=0) rfl) (by first|trivial|rfl) (by rw [e];rfl))∘Jp 1∘fJ∘bg 1∘Jy (v:= .bool true) (h:=by exact aaI rfl rfl rfl kr)∘Jp 2) λa Z d=>?_)
  refine fo Z 4 rfl rfl ?_
  refine zh Z (f:=225) (vs:=[]) (fst:=[]) (caps:=[vP g1 0]) rfl rfl rfl kr rfl de (q5f _ b k A c B _ (r.mem d o) (d.le o) (d.old hr) s (d.blk (i:=1) rfl)) ?_
  rintro _ m ⟨rfl,g⟩
  refine ⟨_,rfl,?_⟩
  replace d:=d.call g
  clear Z;intro a Z
  exact Jb Z d ((Jp 2∘aJ∘aP∘JM (.f .n)∘aW) λd=>by exact ⟨by unfold Bk.fits;rw [if_pos e],d.below⟩)
 ·
  refine Jb Z d ((JG∘aM 1∘Jg 0 O1∘Jy (v:= .func (.func 226) #[] #[vP g1 0]) (h:=by exact aaO (kt:=5) (et:=23) (kd:= .int .u8) (j:=1) (es:=(#[].push {key:=vB 1,val:= .func (.func 225) #[] #[vP g1 0],born:=0}).push {key:=vB 2,val:= .func (.func 226) #[] #[vP g1 0],born:=0+1}) (clock:=0+1+1) rfl kr kr rfl rfl (λ_ h=>h.jC (i:=0) rfl) (by first|trivial|rfl) (by rw [e];rfl))∘Jp 1∘fJ∘bg 1∘Jy (v:= .bool true) (h:=by exact aaI rfl rfl rfl kr)∘Jp 2) λa Z d=>?_)
  refine fo Z 4 rfl rfl ?_
  refine zh Z (f:=226) (vs:=[]) (fst:=[]) (caps:=[vP g1 0]) rfl rfl rfl kr rfl de (q5g _ b A c _ (d.blk (i:=1) rfl)) ?_
  rintro _ m ⟨rfl,g⟩
  refine ⟨_,rfl,?_⟩
  replace d:=d.call g
  clear Z;intro a Z
  exact Jb Z d ((Jp 2∘aJ∘aP∘JM (.f .n)∘aW) λd=>by exact ⟨by unfold Bk.fits;rw [if_neg om,if_pos e],d.below⟩)
 ·
  exact Jb Z d ((JG∘aM 1∘Jg 0 O1∘Jy (v:= .nilFunc) (h:=by exact abg (kt:=5) (et:=23) (kd:= .int .u8) (es:=(#[].push {key:=vB 1,val:= .func (.func 225) #[] #[vP g1 0],born:=0}).push {key:=vB 2,val:= .func (.func 226) #[] #[vP g1 0],born:=0+1}) (clock:=0+1+1) rfl kr kr rfl rfl (λ_ h=>h.jC (i:=0) rfl) (by first|trivial|rfl) (by have e1:((b.kind:Int)==1)=false:=(by rw [beq_eq_false_iff_ne];omega);have e2:((b.kind:Int)==2)=false:=(by rw [beq_eq_false_iff_ne];omega);simp [Instr.findNow,Instr.sameNow,e1,e2]) kr)∘Jp 1∘fJ∘bg 1∘Jy (v:= .bool false) (h:=by exact abk rfl rfl rfl kr)∘Jp 5∘aJ∘aP∘JM (.f .n)∘aW) λd=>by exact ⟨by unfold Bk.fits;rw [if_neg e,if_neg l],d.below⟩)
def zce (b:Bk) (A:aiW) (c:Nat) (w:aiM) (hr:Rd w w.heap.size 11 A (abo b.evs) (b.evs.flatMap fC)) (k:abo b.evs≠0):
    Calls abp 172 #[.agg (b.cells A c)] w (Is w (.agg b.base.cells)):=by
 refine (fE Tryz.func172 14) ?_
 refine (JP∘JE) λl g1=>(JA #[vI 0,vI 0]) λm o=>(Jj) λa Z d=>?_
 refine wp_seq ?_
 refine Jb Z d ((Vs .n [11]) λj=>(Vf 0 4∘Vf 5 4∘Vc 1 O1) ?_)
 obtain ⟨gA,e,rfl,_⟩:=hr.sat 0
 refine (Vy 2 (v:=vP gA e) (h:=by exact Yl.indexAddr (ad:=⟨gA,e,none⟩) (y:=0) (sz:=11) rfl rfl rfl om kr)∘Vf 3 0∘XV 4 qbv hr 0 Ev.zero (hk:=by first|omega|(simp;omega))∘Vc 6 O1∘Vy 7 (v:=vP gA e) (h:=by exact Yl.indexAddr (ad:=⟨gA,e,none⟩) (y:=0) (sz:=11) rfl rfl rfl om kr)∘Vf 8 1∘Gd 9 qbv hr 1 0 Ev.zero (hk:=by first|omega|(simp;omega))∘Vy 10 (v:= .agg #[vI ((b.evs.getD 0 Ev.zero).seq),vI ((b.evs.getD 0 Ev.zero).time)]) (h:=by exact Yl.build (vs:=(ahY 0 ((b.evs.getD 0 Ev.zero).seq) 1 ((b.evs.getD 0 Ev.zero).time) [])) rfl kr kr)) λa Z d p=>?_
 refine s_on Z 11 rfl (bS Z d 0 rfl rfl rfl rfl rfl ⟨kr,kr⟩ rfl rfl (by simp [abX]) λg d=>?_)
 refine dU kr ?_
 refine qe kr ?_
 refine Jb Z d ((JM (.t (.f .n))∘JZ) λa Z d=>?_)
 exact iV rfl Z (.cellS (i:=0) Z d rfl rfl ⟨kr,kr⟩ rfl) (⟨by rw [q5b];rfl,d.below⟩)
def QI (x:Nat) (c:x<18446744073709551616) (w:aiM):
    Calls abp 227 #[vQ x] w (sD w (ak x)):=by
 refine (fE Tryz.func227 5) ?_
 exact (aM 1∘bg 1∘JK (h:=by exact λa=>q0l c)) λd e f b=>(Jp 1∘bU∘aP∘aW) λa=>by exact ⟨⟨_,_,rfl,a.own (i:=0) rfl,b⟩,a.below⟩
def QJ {a b c d:Part} (f:Rd w w.heap.size 1 a.A (abo a.l) (a.l.map B8)) (hb:Rd w w.heap.size 1 b.A (abo b.l) (b.l.map B8)) (hc:Rd w w.heap.size 1 c.A (abo c.l) (c.l.map B8)) (g:Rd w w.heap.size 1 d.A (abo d.l) (d.l.map B8)):∀p∈[a,b,c,d],Rd w w.heap.size 1 p.A (abo p.l) (p.l.map B8):=by
 intro p e
 simp only [abY,acv,or_false] at e
 rcases e with rfl|rfl|rfl|rfl
 ·exact f
 ·exact hb
 ·exact hc
 ·exact g
def zcf (b:Bk) (g:b.Ok) (A:aiW) (c B:Nat) (w:aiM) (N:aR B w) (F:B<=w.heap.size) (hr:Rd w w.heap.size 11 A (abo b.evs) (b.evs.flatMap fC)) (hn:abo b.evs<=1000000) (C:b.fits=true):
    Calls abp 165 #[.agg (b.cells A c)] w (sD w b.body):=by
 have G:=g.cpu
 refine (fE Tryz.func165 52) ?_
 refine (JP∘JE) λw1 g1=>(bM 1∘JQ∘JP∘Jg 0 O0∘Jp 1∘aL∘Jj) (Je (λD=>?_) λD=>?_)
 ·
  have s:b.kind=2:=by omega
  obtain ⟨n1,n2,n3,n4,n5⟩:=YN C s
  exact (JT∘JP∘Jg 3 O0∘Jv 1 [(12,vQ (IntKind.u64.wrap b.next))]∘Jo (vQ b.next.toNat) (by exact xQ om om)∘JK (h:=by exact λe=>QI b.next.toNat om _)) λO P Q u=>(Jp 1∘eP∘aP∘aW) λe=>by exact sD.as ⟨⟨_,_,rfl,e.own (i:=0) rfl,u⟩,e.below⟩ (by unfold Bk.body;rw [if_pos s])
 have s:b.kind≠2:=by omega
 obtain ⟨m0,m1,m2,m3,m4⟩:=q5c C s
 refine (aQ∘JP∘Jg 1 O0∘Jw .u64∘Jg 2 O0∘Jv 1 [(19,vQ (IntKind.u64.wrap b.lost))]∘Jo (vQ b.lost.toNat) (by exact xQ om om)∘Jg 4 O0∘Jl∘Jw .u64∘JU kM #[vQ b.cpu,vQ b.lost.toNat,vQ (abo b.evs)]) λR S=>(JK (h:=by exact λe=>Mr _ 3 _ [b.cpu,b.lost.toNat,abo b.evs] _ (e.bB (i:=0) (n:=3) (size:=1) rfl rfl) (by intro x T;simp only [abY,acv,or_false] at T;omega) om)) λj k U v=>(Jp 1∘aJ∘Jj∘JQ∘JP∘Jg 4 O2∘Jl∘Jp 1∘bU∘Jj) (Je (λy=>?_) λy=>?_)
 ·
  exact (JT∘aM 2∘aL∘aP∘JM (.t (.f .n))∘aW) λe=>by exact sD.as ⟨⟨_,_,rfl,e.own (i:=0) rfl,v⟩,e.below⟩ (by unfold Bk.body;rw [if_neg s,if_pos om];simp)
 have H:=q0u g (MI C s).2 om
 obtain ⟨q1,q2,q3,q4⟩:=zcb g C s om
 refine (aQ∘JP∘eH aG O2∘JI (h:=by exact λe=>zce b A c _ (e.old hr) om)) λV W=>(JA #[vI 0,vI 0]) λw4 g4=>(JV ⟨kr,kr⟩ aO (h1:=by exact LX b.base)) λI=>(bU∘Jr∘eH ⟨kr,kr⟩ O0∘Jg 4 O3∘JK (h:=by exact λe=>zbw b.base A (abo b.evs) c b.evs g.evs B _ (N.mem e F).laid (e.le F) (e.old hr) om H.1 H.2)) λl m X J=>(Jp 1∘Jx∘Jx∘Jp 2∘mJ∘Jj) λa Z e=>?_
 refine wp_seq ?_
 refine Jb Z e ((Vs .n []) λY=>(Vp [0]∘Vf 1 0∘Vf 5 1∘Vp [9]∘Vc 2 O1∘Vq [3] [(43,vQ (IntKind.u64.wrap b.base.seq))]∘Vo (vQ b.base.seq.toNat) (by exact xQ om om)∘Vc 6 O1∘Vq [7] [(47,vQ (IntKind.u64.wrap b.base.time))]∘Vo (vQ b.base.time.toNat) (by exact xQ om om)∘VK 4 .n (h:=by exact λe=>QI b.base.seq.toNat om _)) λo p QK K=>(VK 8 (.f .n) (h:=by exact λe=>QI b.base.time.toNat om _)) λq r Cx L=>λa Z e M=>?_)
 refine s_on Z 10 rfl (jA Z e GA [(0,abl j ([b.cpu,b.lost.toNat,abo b.evs].flatMap ak) k),(1,abl o (ak b.base.seq.toNat) p),(2,abl q (ak b.base.time.toNat) r),(3,abl l (recs b.base b.evs) m)] #[abl j ([b.cpu,b.lost.toNat,abo b.evs].flatMap ak) k,abl o (ak b.base.seq.toNat) p,abl q (ak b.base.time.toNat) r,abl l (recs b.base b.evs) m] ?_)
 clear Z e;intro a Gn g50 Z e
 refine av (e.pk [3,4,5,6,7]) (λM=>?_)
 have E:=QJ (a:=⟨j,k,[b.cpu,b.lost.toNat,abo b.evs].flatMap ak⟩) (b:=⟨o,p,ak b.base.seq.toNat⟩) (c:=⟨q,r,ak b.base.time.toNat⟩) (d:=⟨l,m,recs b.base b.evs⟩) (e.rd (i:=5) rfl) (e.rd (i:=2) rfl) (e.rd (i:=1) rfl) (e.rd (i:=3) rfl)
 exact Vb Z e M ((VK 11 (.f (.f (.f .n))) (h:=by exact λe=>(q0w _ 4 _ [⟨j,k,[b.cpu,b.lost.toNat,abo b.evs].flatMap ak⟩,⟨o,p,ak b.base.seq.toNat⟩,⟨q,r,ak b.base.time.toNat⟩,⟨l,m,recs b.base b.evs⟩] _ (e.bB (i:=0) (n:=4) (size:=1) rfl rfl) rfl om E (by have h1:=uH [b.cpu,b.lost.toNat,abo b.evs];have h2:=BK b.base.seq.toNat;have h3:=BK b.base.time.toNat;have h4:=YI b.evs b.base;simp only [abR,List.flatMap_nil,abq,abM,abV,aeh] at h1⊢;omega)).mono (λ_ _ h=>h.as (R':=ak b.cpu++ak b.lost.toNat++ak (abo b.evs)++(ak b.base.seq.toNat++ak b.base.time.toNat++recs b.base b.evs)) (by simp)))) λA51 c51 Qn z=>(Vp [12]∘Vd∘aJ∘JM (.t (.f (.f (.f (.f (.t (.t (.f .n))))))))∘JZ∘aW) λe=>by exact sD.as ⟨⟨_,_,rfl,e.own (i:=0) rfl,z⟩,e.below⟩ (by unfold Bk.body;rw [if_neg s,if_neg om]))
instance YS:DecidableEq Bk:=λ⟨a,b,c,d,e⟩ ⟨f,g,h,i,j⟩=>
 decidable_of_iff (a=f/\b=g/\c=h/\d=i/\e=j) (by simp)
def q5h (h:8+abo b.body+4<=4096):(#[abT .u8 (((8+abo b.body+4)%256:Nat):Int),.int .u8 (((8+abo b.body+4)/256%256:Nat):Int),.int .u8 0,.int .u8 0,.int .u8 113,.int .u8 116,.int .u8 1,.int .u8 (b.kind:Int)]:Array aiN).toList++b.body.map B8=b.raw.map B8:=by
 have a:8+abo b.body+4=12+abo b.body:=by omega
 have e1:(12+abo b.body)/65536%256=0:=by omega
 have e2:(12+abo b.body)/16777216%256=0:=by omega
 unfold Bk.raw rA
 rw [a,e1,e2]
 simp [B8]
def qve {b:Bs} {e:Ev} (h:e.kind<256):∀x∈zk b e,x<256:=by
 intro x a
 unfold zk at a
 rcases abY.1 a with rfl|a
 ·exact h
 ·obtain ⟨y,_,c⟩:=acV.1 a
  exact yM y x c
def YT:∀(l:List Ev) (b:Bs),(∀e∈l,e.Ok)->∀x∈recs b l,x<256
 |[],_,_,x,c=>by simp [recs] at c
 |e::r,b,a,x,c=>by
  rw [recs] at c
  rcases acg.1 c with h|h
  ·exact qve (a e (by simp)).kind x h
  ·exact YT r e.at (λy d=>a y (by simp [d])) x h
def zi1 (c:b.Ok):∀x∈b.body,x<256:=by
 intro x a
 unfold Bk.body at a
 split at a
 ·exact yM _ x a
 ·rcases acg.1 a with h|h
  ·rcases acg.1 h with h|h
   ·rcases acg.1 h with h|h
    ·exact yM _ x h
    ·exact yM _ x h
   ·exact yM _ x h
  ·split at h
   ·cases h
   ·rcases acg.1 h with h|h
    ·rcases acg.1 h with h|h
     ·exact yM _ x h
     ·exact yM _ x h
    ·exact YT _ _ c.evs x h
def YU (a:b.Ok):∀x∈b.raw,x<256:=by
 intro x c
 unfold Bk.raw at c
 rcases acg.1 c with h|h
 ·rcases acg.1 h with h|h
  ·exact XH _ x h
  ·simp only [abY,acv,or_false] at h
   have:=a.kind
   omega
 ·exact zi1 a x h
theorem MK (b:Bk):abo b.raw=8+abo b.body:=by unfold Bk.raw rA;simp;omega
theorem QL (b:Bk):abo b.body<=50+61*abo b.evs:=by grind [Bk.body,YI,BK]
def YV (h:b.err=er) (c:er≠0) (hb:Below w.heap.size w W):mh w b.err b.out (.returned (.tuple #[.slice none 0 0,.int .i64 (er:Int)])) W:=by
 have a:b.out=[]:=by unfold Bk.out;rw [if_neg om]
 rw [h,a]
 exact ⟨⟨none,0,rfl,acH _ _ _ _,abu _⟩,hb⟩
theorem GJ (h:b.err=0):b.out=aY b.raw:=by unfold Bk.out;rw [if_pos h]
theorem QM (b:Bk):abo b.out<=4096:=by grind [Bk.err,Bk.out,MK,pY]
def zm8 (a:b.Ok):∀x∈b.out,x<256:=by
 unfold Bk.out
 split
 ·exact Mk (YU a)
 ·intro x c;cases c
theorem rD (most:Nat) (l:List Nat):aA most l<=most:=by unfold aA;split<;>omega
def EF (most:Nat) (l:List Nat):(if ((most:Nat):Int)<(((aD l).1:Nat):Int) then ((most:Nat):Int) else (((aD l).1:Nat):Int))=((aA most l:Nat):Int):=by unfold aA;split<;>split<;>omega
def ML (l:List Nat):abo (qd l)=abo l- (aD l).2.1:=by unfold qd;rw [abE]
def EG (l:List Nat):abo (qd l)<=abo l:=by rw [ML];omega
theorem YW {most:Nat} (h:(aD l).2.2≠0):bn most l=false:=by unfold bn;rw [decide_eq_false];omega
def YX (W:aiM) (d e:Nat) (l:List Nat) (a:Bool) (most:Nat) (fr:List aiX) (r:aiQ) (f:aiM):Prop:=
 r= .returned (.int .i64 ((aA most l:Nat):Int))/\∃b c,Rd W W.heap.size 1 b (abo (qd l)) ((qd l).map B8)/\abo (qd l)<=c/\
  Mem W f (ahS d b (abo (qd l)) c::aiw e (a&&bn most l)::fr)
def QN {n most:Nat} {a b:Bool} {fr:List aiX} (hr:Rd W W.heap.size 1 A (abo l) (l.map B8)) (hc:abo l<=c) (d:(a&&bn most l)=b) (e:n=abo l)
  (f:Mem W w (.blk m #[.slice (if c=(aD l).2.1 then A else A.map (·.add ((aD l).2.1*1))) (n- (aD l).2.1) (c- (aD l).2.1)] 30:: .blk g #[.bool b] 4::fr)):
  YX W m g l a most fr (.returned (.int .i64 ((aA most l:Nat):Int))) w:=by
 subst d;subst e
 refine ⟨rfl,(if c=(aD l).2.1 then A else A.map (·.add ((aD l).2.1*1))),c- (aD l).2.1,?_,?_,?_⟩
 ·rw [ML]
  exact hr.F4 (xJ l) hc
 ·rw [ML];omega
 ·rw [ML];exact f
def Cy (w:aiM) (q:Option Bk) (r:aiQ) (d:aiM):Prop:=
 (∃ a : Array aiN, r = .returned (.tuple #[.agg a, .bool q.isSome]) /\ a.size = 5 /\ (∀ v ∈ a.toList, v.oneCell' = true) /\
  (∀b,q=some b->∃A c,a=b.cells A c/\d.ownsRow w.heap.size 73 11 (.slice A (abo b.evs) c) (abo b.evs) (b.evs.flatMap fC)/\abo b.evs<=c))/\Below w.heap.size w d
def GK {q:Option Bk} {C:Array aiN} (h:q=none) (hs:C.size=5) (h1:∀v∈C.toList,v.oneCell'=true) (hb:Below w.heap.size w W):Cy w q (.returned (.tuple #[.agg C,.bool false])) W:=by
 subst h
 exact ⟨⟨C,rfl,hs,h1,λb h=>by cases h⟩,hb⟩
def MN {q:Option Bk} (h:q=some b) (a:W.ownsRow w.heap.size 73 11 (.slice A (abo b.evs) c) (abo b.evs) (b.evs.flatMap fC)) (hc:abo b.evs<=c) (hb:Below w.heap.size w W):Cy w q (.returned (.tuple #[.agg (b.cells A c),.bool true])) W:=by
 subst h
 exact ⟨⟨_,rfl,rfl,uQ _ _ _,λd h=>by injection h with h;subst h;exact ⟨A,c,rfl,a,hc⟩⟩,hb⟩
def tk3 {l:List Nat}:(((true&&bn 63 l)&&bn 281474976710656 (qd l))&&bn 4096 (qd (qd l)))=uO l:=by unfold uO;simp
def YZ (l:List Nat):uP 2 l=tZ l:=by unfold uP;rw [if_pos rfl]
def Cz (l:List Nat):uP 1 l=ze l:=by unfold uP;rw [if_neg om]
def GL {x:Nat} (h:x<=281474976710657):Bk.Ok ⟨2,0,0,(x:Int),[]⟩:=⟨by show 2<256;decide,by show 0<256;decide,by unfold aX;simp,MJ h,by simp⟩
def vK {es:List Ev} (h:cpu<256) (b:lost<=281474976710656) (a:∀e∈es,e.Ok):Bk.Ok ⟨1,cpu,(lost:Int),0,es⟩:=⟨by show 1<256;decide,h,MJ (by show lost<=_;omega),by unfold aX;simp,a⟩
def Y0 (a:uO l=true) (b:0<aA 4096 (qd (qd l)))
  (c:gW ⟨(aA 281474976710656 (qd (qd (qd l))):Int),(aA 281474976710656 (qd (qd (qd (qd l)))):Int)⟩ (aA 63 l) (aA 4096 (qd (qd l)):Int) (qd (qd (qd (qd (qd l)))))=q):
  ze l=uf (aA 63 l) (aA 281474976710656 (qd l)) (qd (qd (qd l))) q:=by
 unfold ze
 rw [if_pos ⟨a,b⟩,c]
theorem Y1 (h:¬(q.2.2=0/\(q.1.getD 0 Ev.zero).seq=(aA 281474976710656 l:Int)/\(q.1.getD 0 Ev.zero).time=(aA 281474976710656 (qd l):Int)/\bn 281474976710656 l=true/\bn 281474976710656 (qd l)=true/\abo (qd (qd l))-q.2.1=0/\Bk.fits ⟨1,cpu,lost,0,q.1⟩=true)):uf cpu lost l q=none:=by
 unfold uf
 rw [if_neg]
 intro a
 obtain ⟨c,d,f,g,i,b,j⟩:=a
 rw [abE] at b
 have e:q.1.headD Ev.zero=q.1.getD 0 Ev.zero:=by cases q.1<;>rfl
 grind
theorem qng (h:q.2.2=0/\(q.1.getD 0 Ev.zero).seq=(aA 281474976710656 l:Int)/\(q.1.getD 0 Ev.zero).time=(aA 281474976710656 (qd l):Int)/\bn 281474976710656 l=true/\bn 281474976710656 (qd l)=true/\abo (qd (qd l))-q.2.1=0/\Bk.fits ⟨1,cpu,lost,0,q.1⟩=true):uf cpu lost l q=some ⟨1,cpu,lost,0,q.1⟩:=by
 unfold uf
 rw [if_pos]
 obtain ⟨a,b,c,d,f,g,i⟩:=h
 have e:q.1.headD Ev.zero=q.1.getD 0 Ev.zero:=by cases q.1<;>rfl
 grind
theorem QO (l:List Nat):(tZ l).isSome=(bn 281474976710657 l&& (decide (abo (qd l)=0)&&Bk.fits ⟨2,0,0,(aA 281474976710657 l:Int),[]⟩)):=by grind [tZ]
theorem qsc (h:(tZ l).isSome=true):tZ l=some ⟨2,0,0,(aA 281474976710657 l:Int),[]⟩:=by grind [tZ]
theorem MO (h:¬(uO l=true/\0<aA 4096 (qd (qd l)))):(ze l).isSome=(uO l&& (decide (abo (qd (qd (qd l)))=0)&&Bk.fits ⟨1,aA 63 l,(aA 281474976710656 (qd l):Int),0,[]⟩)):=by grind [ze]
theorem Y2 (h:¬(uO l=true/\0<aA 4096 (qd (qd l)))) (hs:(ze l).isSome=true):ze l=some ⟨1,aA 63 l,(aA 281474976710656 (qd l):Int),0,[]⟩:=by grind [ze]
theorem QS {cpu lost L:Nat} {es:List Ev} (h:(es.getD 0 Ev.zero).seq=(aA 281474976710656 l:Int)/\(es.getD 0 Ev.zero).time=(aA 281474976710656 (qd l):Int)):(uf cpu lost l (es,L,0)).isSome=((bn 281474976710656 l&&bn 281474976710656 (qd l))&& (decide (abo (qd (qd l))-L=0)&&Bk.fits ⟨1,cpu,(lost:Int),0,es⟩)):=by grind [Bk.fits,Y1,qng,bn,qd]
theorem zcg (h:(uf cpu lost l q).isSome=true):uf cpu lost l q=some ⟨1,cpu,(lost:Int),0,q.1⟩:=by grind [uf]
theorem Cy.none {q:Option Bk} (h:Cy w q r W) (b:q=none):(∃a:Array aiN,r= .returned (.tuple #[.agg a,.bool false])/\a.size=5/\(∀v∈a.toList,v.oneCell'=true))/\Below w.heap.size w W:=by
 subst b
 obtain ⟨⟨a,c,d,e,_⟩,f⟩:=h
 exact ⟨⟨a,c,d,e⟩,f⟩
theorem Cy.some {q:Option Bk} (h:Cy w q r W) (a:q=some b):(∃A c,r= .returned (.tuple #[.agg (b.cells A c),.bool true])/\W.ownsRow w.heap.size 73 11 (.slice A (abo b.evs) c) (abo b.evs) (b.evs.flatMap fC)/\abo b.evs<=c)/\Below w.heap.size w W:=by
 subst a
 obtain ⟨⟨d,e,f,g,i⟩,j⟩:=h
 grind
def QT (T:aiP) (w:aiM) (q:Bk×Nat×Nat) (r:aiQ) (a:aiM):Prop:=
 (∃A c,r= .returned (.tuple #[.agg (q.1.cells A c),.int .i64 (q.2.1:Int),.int .i64 (q.2.2:Int)])/\a.ownsRow w.heap.size T 11 (.slice A (abo q.1.evs) c) (abo q.1.evs) (q.1.evs.flatMap fC)/\abo q.1.evs<=c)/\Below w.heap.size w a
def Av {T:aiP} {q:Bk×Nat×Nat} (h:q=(Bk.zero,0,er)) (hb:Below w.heap.size w W):QT T w q (.returned (.tuple #[.agg #[.int .u8 0,.int .u8 0,.int .i64 0,.int .i64 0,.slice none 0 0],.int .i64 0,.int .i64 (er:Int)])) W:=by
 subst h
 exact ⟨⟨none,0,rfl,acH _ _ _ _,abu _⟩,hb⟩
def Y3 {T:aiP} {q:Bk×Nat×Nat} (h:q=(b,m,0)) (a:W.ownsRow w.heap.size T 11 (.slice A (abo b.evs) c) (abo b.evs) (b.evs.flatMap fC)) (hc:abo b.evs<=c) (hb:Below w.heap.size w W):QT T w q (.returned (.tuple #[.agg (b.cells A c),.int .i64 (m:Int),.int .i64 0])) W:=by
 subst h
 exact ⟨⟨A,c,rfl,a,hc⟩,hb⟩
def q5k (h:(bq l).2≠0):dJ l=(Bk.zero,0,(bq l).2):=by unfold dJ;rw [if_pos h]
def CB {L:List Nat} (h:(bq l).2=0) (a:L=l.take (bq l).1) (hb:gB L=(none,e)):dJ l=(Bk.zero,0,e):=by unfold dJ;rw [if_neg om,<-a,hb]
def QU {L:List Nat} (h:(bq l).2=0) (a:L=l.take (bq l).1) (hb:gB L=(some b,e)):dJ l=(b,(bq l).1,0):=by unfold dJ;rw [if_neg om,<-a,hb]
def Y4 {l:List Nat} {m g k f h:Nat} {a b c d e:List Nat}:(((((true&&bn m a)&&bn g b)&&bn k c)&&bn f d)&&bn h e)=((((true&&bn m a)&&bn g b)&&bn k c)&& (bn f d&&bn h e)):=by
 have _:=l
 rw [Bool.and_assoc]
theorem Y8 (h:(gB l).1=none):(gB l).2≠0:=by grind [gB]
def QX (h:dJ l=(b,m,0)):13<=m/\m<=abo l/\(gB (l.take m)).1=some b:=by
 unfold dJ at h
 split at h
 ·rename_i c;simp only [Prod.mk.injEq] at h;exact absurd h.2.2 c
 ·rename_i c
  obtain ⟨_,d,_,e⟩:=Y7 (show (bq l).2=0 by omega)
  split at h
  ·rename_i f a
   simp only [Prod.mk.injEq] at h
   obtain ⟨rfl,rfl,_⟩:=h
   exact ⟨d,e,a⟩
  ·rename_i a
   simp only [Prod.mk.injEq] at h
   exact absurd h.2.2 (Y8 a)
theorem GU (x:Nat):1<=abo (ak x):=by grind [Ea,D9,ak]
theorem Y9 (b:Bk):1<=abo b.body:=by grind [Bk.body,GU]
def MP (h:b.err=0):abo b.out=12+abo b.body:=by rw [GJ h,pY,MK];omega
theorem QY (h:b.err=0):b.fits=true/\12+abo b.body<=4096:=by grind [Bk.err]
def Za (h:b.fits=true) (a:12+abo b.body<=4096):b.err=0:=by
 unfold Bk.err
 rw [if_neg (by simp [h]),if_neg om]
theorem zcl (h:b.err=0):b.out.getD 4 0=113/\b.out.getD 5 0=116/\b.out.getD 6 0=1/\b.out.getD 7 0=b.kind/\(b.out.take (abo b.out-4)).drop 8=b.body:=by
 have e:abo b.out-4=abo b.raw:=by rw [MP h,MK];omega
 rw [e,GJ h]
 unfold aY
 rw [adO,zck]
 refine ⟨rfl,rfl,rfl,rfl,rfl⟩
def zcm (h:b.err=0) (t:List Nat):jZ (b.out++t)=abo b.out:=by
 obtain ⟨a,c⟩:=QY h
 rw [MP h,GJ h]
 unfold aY Bk.raw
 simp only [abv]
 exact XJ om _
theorem qsf (h:b.fits=true):b.kind=1\/b.kind=2:=by grind [Bk.fits]
theorem qvi (h:b.fits=true) (c:12+abo b.body<=4096):abo b.evs<=4096:=by
 by_cases a:b.kind=2
 ·have:=YN h a;omega
 ·have:=zm5 a;omega
theorem q5n (a:b.Ok) (h:b.err=0):gB b.out=(some b,0):=by grind [GJ,gB,QY,qvi,qsf,zcl,q0v,zn,Qa]
def zcn {b:Bk} (c:b.Ok) (h:b.err=0) (t:List Nat):dJ (b.out++t)=(b,abo b.out,0):=by
 obtain ⟨f,g⟩:=QY h
 have i:=MP h
 have j:=Y9 b
 have d:=zcm h t
 have a:bq (b.out++t)=(abo b.out,0):=by
  unfold bq
  rw [d,if_neg (by rw [abq];omega),if_neg om,if_neg (by rw [abq];omega)]
 refine (QU (b:=b) (e:=0) (L:=b.out) (by rw [a]) (by rw [a];exact List.take_left.symm) (q5n c h)).trans ?_
 rw [a]
theorem zco {b:Bs} (a:cpu<256) {l:List Nat} {e:Ev} {u:Nat} (j:∀b∈l,b<256) (h:bD b cpu l=(e,u,0)):e.Ok/\u<=abo l:=by
 unfold bD at h
 split at h
 ·simp at h
 ·rename_i m
  split at h
  ·simp at h
  ·rename_i c
   split at h
   ·simp at h
   ·have d:l.getD 0 0<256:=j _ (qf 0 (agq.2 c))
    generalize l.getD 0 0=kd at h d
    generalize o:aV (2+abo (aB kd)) (l.drop 1)=R at h
    obtain ⟨xs,n,k⟩:=R
    unfold tH at h
    split at h
    ·grind
    ·rename_i g
     have g:k=0:=by show k=0;exact adu.1 g
     subst g
     obtain ⟨_,_,q,r⟩:=YA _ _ xs n (λb s=>j b (abU s)) o
     split at h
     ·simp at h
     ·rename_i t
      split at h
      ·simp at h
      ·injection h with h i
       injection i with i
       subst h
       have v:=agq.2 c
       rw [abE] at r
       refine ⟨?_,by dsimp only at i;omega⟩
       have f:b.right=true:=by simpa using m
       unfold Bs.right at f
       simp only [decide_eq_true_eq] at f
       dsimp only at t
       exact Pq (WJ ⟨⟨by show _<=b.seq+((xs.getD 0 0:Nat):Int);omega,by show b.seq+((xs.getD 0 0:Nat):Int)<=_;omega⟩,⟨by show _<=b.time+((xs.getD 1 0:Nat):Int);omega,by show b.time+((xs.getD 1 0:Nat):Int)<=_;omega⟩,a,d,oL,oL,oL,oL,oL,by show 0<18446744073709551616;omega,oL⟩) _ (λp w=>q p.2 (abU (List.of_mem_zip w).2))
theorem Zb {cpu:Nat} (a:cpu<256):∀(n:Nat) (b:Bs) (p:Option Ev) (l:List Nat),(∀x∈l,x<256)->(q5 cpu n b p l).2.2=0->(q5 cpu n b p l).1.length=n/\(∀e∈(q5 cpu n b p l).1,e.Ok)/\(q5 cpu n b p l).2.1<=abo l
 |0,b,p,l,_,_=>⟨rfl,(λe g=>by cases g),abz _⟩
 | n + 1, b, p, l, f, h => by
  rw [q5] at h⊢
  split at h
  ·rename_i c;exact absurd h c
  ·rename_i c
   split at h
   ·cases h
   ·rename_i i
    split at h
    ·rename_i d;exact absurd h d
    ·rename_i d
     rw [if_neg c,if_neg i,if_neg d]
     have j:bD b cpu l=((bD b cpu l).1,(bD b cpu l).2.1,0):=by rw [<-adu.1 c]
     obtain ⟨g1,m,o⟩:=Zb a n (bD b cpu l).1.at (some (bD b cpu l).1) (l.drop (bD b cpu l).2.1) (λx k=>f x (abU k)) (adu.1 d)
     have q:=zco a f j
     grind
theorem QZ {b:Bs} (a:cpu<256) {m:Int} {l:List Nat} {es:List Ev} {u:Nat} (c:∀x∈l,x<256) (h:gW b cpu m l=(es,u,0)):(abo es:Int)=m/\(∀e∈es,e.Ok)/\u<=abo l:=by grind [Zb,gW]
theorem zcp (m:∀x∈l,x<256) {b:Bk} (h:uP k l=some b):b.Ok/\abo b.evs<=4096:=by
 have a:aX 0:=oL
 unfold uP at h
 split at h
 ·unfold tZ at h
  split at h
  ·injection h with h
   subst h
   exact ⟨⟨by show 2<256;decide,by show 0<256;decide,a,MJ (rD _ _),λe c=>by cases c⟩,abz _⟩
  ·cases h
 ·have d:=vJ m
  have f:=vJ d
  have g:=vJ (vJ (vJ f))
  have hc:aA 63 l<256:=Nat.lt_of_le_of_lt (rD _ _) de
  have hs:aX ((aA 281474976710656 (qd l):Nat):Int):=MJ (ada (rD _ _) de)
  unfold ze at h
  split at h
  ·unfold uf at h
   split at h
   ·rename_i j
    injection h with h
    subst h
    generalize n:gW _ _ _ _=q at j⊢
    obtain ⟨es,u,o⟩:=q
    obtain ⟨i,_⟩:=j
    have i:o=0:=i
    subst i
    obtain ⟨r1,p,_⟩:=QZ hc g n
    refine ⟨⟨by show 1<256;decide,hc,hs,a,p⟩,?_⟩
    grind [qd,rD]
   ·cases h
  ·split at h
   ·injection h with h
    subst h
    exact ⟨⟨by show 1<256;decide,hc,hs,a,λe c=>by cases c⟩,abz _⟩
   ·cases h
theorem zi4 (a:∀x∈l,x<256) (h:(dJ l).2.2=0):(dJ l).1.Ok/\(dJ l).1.evs.length<=4096:=by grind [gB,Y8,zcp,dJ]
def AZ {x:aF} (h:ShAt x):∀i,i<abo x.ts->(i:Int)+1<=(x.ts.getD i Tk.zero).id
 |0,hi=>(qL (h.tk 0 hi)).1
 |i+1,hi=>by
  have b:=AZ h i om
  have a:=(EO (h.tk (i+1) hi)).1
  rw [Nat.add_sub_cancel] at a
  omega
def znq (h:ShAt x):abo x.ts<=65535:=by
 rcases ab6 65535 (abo x.ts) with a|a
 ·have b:=AZ h 65535 a
  have c:=(qL (h.tk 65535 a)).2
  omega
 ·exact a
def zju (g:Nat) (z:Sp):abo (nI g z)<=3:=by unfold nI;split<;>simp
def zjv (g:Nat) (l:List Sp):abo (kU g l)<=3*abo l:=H7 (λc=>zju g (l.getD c Sp.zero)) _
theorem qyh (h:ShAt s.st):abo (aI s 0)=1/\abo (aI s 1)=3/\abo (aI s 2)<=512/\abo (aI s 3)<=64/\abo (aI s 4)<=64/\abo (aI s 5)<=524281/\abo (aI s 6)<=49152:=by
 obtain ⟨b,c,_,a⟩:=mM h.cfg
 obtain ⟨d,e,_,_⟩:=qt a
 have j:=h.cl
 have k:=h.cu
 have n:=h.rs
 have ht:=znq h
 refine ⟨rfl,rfl,?_,?_,?_,?_,?_⟩
 ·have:=H7 (f:=uR s.st.gs) (m:=2) (λi=>abu 2) (abo s.st.gs-1)
  show abo (dV (abo s.st.gs-1) (uR s.st.gs))<=512
  omega
 ·show abo (s.st.cl.map aK)<=64
  rw [abw];omega
 ·show abo (s.st.cu.map aK)<=64
  rw [abw];omega
 ·have:=H7 (f:=λi=>kT (qq s.st.ts i) (s.st.ts.getD i Tk.zero)) (m:=8) (λi=>abu 8) (abo s.st.ts)
  show abo (dV (abo s.st.ts) λi=>kT (qq s.st.ts i) (s.st.ts.getD i Tk.zero))+1<=524281
  omega
 ·have:=q6l (f:=λg=>kU g (s.st.rs.getD g Rw.zero).l) (m:=192) (abo s.st.rs) (λg a=>by
   have o:=zjv g (s.st.rs.getD g Rw.zero).l
   have p:=(CU a (h.row g a)).1
   omega)
  show abo (dV (abo s.st.rs) λg=>kU g (s.st.rs.getD g Rw.zero).l)<=49152
  omega
theorem Df (s:dF):eX s=aI s 0++aI s 1++aI s 2++aI s 3++aI s 4++aI s 5++aI s 6:=by simp_all [eX,qz,CW]
theorem RX {α:Type} {f:Nat->List α} (h:i<=k):abo (dV i f)<=abo (dV k f):=by induction k<;>grind [qz]
theorem RY (h:ShAt s.st):abo (eX s)<=600000:=by grind [Df,qyh]
def qoe (h:ShAt s.st) {i:Nat} (hi:i<=7):abo (dV i (aI s))<=600000:=ada (RX hi) (RY h)
def zdb (h:ShAt s.st) {i:Nat} (hi:i<7):abo (aI s i)<=600000:=by
 have:=qoe h (show i+1<=7 by omega)
 rw [qz,abq] at this
 omega
theorem znr {p:Int} (ht:t.Ok):∀x∈kT p t,x<18446744073709551616:=by
 intro x a
 have b:=ht.mask
 have c:=ht.v
 have d:=ht.r
 simp only [kT,abY,acv,or_false] at a
 grind [CX]
theorem zns {g:Nat} (hz:z.Ok):∀x∈nI g z,x<18446744073709551616:=by
 intro x a
 have b:=hz.v
 have c:=hz.r
 have d:=hz.floor
 grind [nI]
theorem q6p (b:s.st.ay.Ok) (e:cK s.st):∀i,∀x∈aI s i,x<18446744073709551616:=by
 have h:=e.g
 have j:=e.t
 have d:=b.aj
 intro i
 match i with
 |0=>intro x a;simp only [aI,abY,acv,or_false] at a;subst a;exact CX _
 |1=>
  intro x a
  simp only [aI,abY,acv,or_false] at a
  rcases a with rfl|rfl|rfl
  ·exact CX _
  ·exact d
  ·omega
 |2=>
  refine EP _ λi _ x a=>?_
  grind [uR,CX]
 |3=>intro x a;obtain ⟨y,_,rfl⟩:=ab7.1 a;exact CX _
 |4=>intro x a;obtain ⟨y,_,rfl⟩:=ab7.1 a;exact CX _
 |5=>
  intro x a
  rcases abY.1 a with rfl|a
  ·omega
  ·exact EP (p:=λx=>x<18446744073709551616) _ (λi hi=>znr (b.ts _ (qf Tk.zero hi))) x a
 |6=>
  refine EP _ λg f=>EP _ λc hc=>zns ?_
  refine b.sp _ (qf [] (show g<abo s.st.ay.sp from by rw [lJ];exact f)) _ ?_
  rw [kC f]
  exact qf Sp.zero hc
 |k+7=>intro x a;cases a
def qyi (a:s.st.ay.Ok) (b:cK s.st):∀x∈eX s,x<18446744073709551616:=EP 7 λi _=>q6p a b i
def q6q {l:List Nat}:∀b∈l.flatMap ak,b<256:=by
 intro b a
 obtain ⟨x,_,c⟩:=acV.1 a
 exact yM x b c
theorem Nj (s:dF):∀b∈bR s,b<256:=by
 intro b a
 rcases acg.1 a with a|a
 ·grind
 ·exact q6q b a
theorem Im (s:dF):abo (bR s)=3+abo ((eX s).flatMap ak):=by unfold bR;rw [abq];rfl
def qyj (h:s.next<1\/281474976710657<s.next):dP s=330:=if_pos h
def q6r (h:¬(s.next<1\/281474976710657<s.next)) (hr:lu s.st.ay=false):dP s=331:=by unfold dP;rw [if_neg h,if_pos hr]
def qs1 (h:¬(s.next<1\/281474976710657<s.next)) (hr:lu s.st.ay=true):dP s=0:=by unfold dP;rw [if_neg h,if_neg (by rw [hr];decide)]
theorem A8 (h:dP s=0):(1<=s.next/\s.next<=281474976710657)/\lu s.st.ay=true:=by grind [dP,lu]
theorem ER (h:dP s=0):ShAt s.st:=by
 have:=(A8 h).2
 unfold lu at this
 rw [abG] at this
 exact vZ this.1
def kE (s:dF):List Nat:=if dP s=0 then eX s else []
def ES (h:dP s=0):kE s=eX s:=if_pos h
def zdc (h:dP s≠0):kE s=[]:=if_neg h
theorem y9 (h:dP s=0):dz s=aY (bR s):=if_pos h
theorem q6s (h:dP s≠0):dz s=[]:=if_neg h
theorem RZ (h:ShAt s.st):abo (aY (bR s))<=6000007:=by grind [Im,uH,eX,RY,pY]
def R3 (w:aiM) (er:Nat) (R:List Nat) (r:aiQ) (a:aiM):Prop:=
 (∃A c,r= .returned (.tuple #[.slice A (abo R) c,.int .i64 (er:Int)])/\a.ownsRow w.heap.size 41 1 (.slice A (abo R) c) (abo R) (R.map bF)/\abo R<=c)/\Below w.heap.size w a
def q1m {q:List Nat} (a:tX=er) (h:q=R) (b:W.ownsRow w.heap.size 41 1 (.slice A (abo q) c) (abo q) (q.map bF)) (hc:abo q<=c) (hb:Below w.heap.size w W):R3 w er R (.returned (.tuple #[.slice A (abo q) c,.int .i64 (tX:Int)])) W:=by
 subst h;subst a
 exact ⟨⟨A,c,rfl,b,hc⟩,hb⟩
def q1n (e:Int) (a:e=er) (h:R=[]) (hb:Below w.heap.size w W):R3 w er R (.returned (.tuple #[.slice none 0 0,.int .i64 e])) W:=by
 subst h;subst a
 exact ⟨⟨none,0,rfl,acH _ _ _ _,abu _⟩,hb⟩
def q1o (e:Int) (a:e=er) (h:R=[]) (hb:Below w.heap.size w W):mh w er R (.returned (.tuple #[.slice none 0 0,.int .i64 e])) W:=by
 subst h;subst a
 exact ⟨⟨none,0,rfl,acH _ _ _ _,abu _⟩,hb⟩
theorem zdd (s:dF):0<abo ((eX s).flatMap ak):=by grind [Df,aI,aK,GU]
def q1p (h:dP s=0):([113,115,1]:List Nat).map B8++((kE s).flatMap ak).map B8=(bR s).map B8:=by
 rw [ES h];exact List.map_append.symm
def znt (h:dP s=0):3+abo ((kE s).flatMap ak)=abo (bR s):=by rw [Im,ES h]
def zde (h:ShAt s.st):abo (bR s)<=6000003:=by
 have a:=RZ h
 rw [pY] at a
 omega
def q1q {q:List Nat} (a:tX=er) (h:q=R) (b:W.ownsRow w.heap.size 5 1 (.slice A (abo q) c) (abo q) (q.map B8)) (hc:abo q<=c) (hb:Below w.heap.size w W):mh w er R (.returned (.tuple #[.slice A (abo q) c,.int .i64 (tX:Int)])) W:=by
 subst h;subst a
 exact ⟨⟨A,c,rfl,b,hc⟩,hb⟩
def q6t (l:List jV):∀u∈l.flatMap iy,u.oneCell'=true:=by
 intro u b
 obtain ⟨x,_,a⟩:=acV.1 b
 simp only [iy,abY,acv,or_false] at a
 rcases a with rfl|rfl|rfl<;>rfl
def qh:jV:=⟨⟨#[104,101,97,100]⟩,0,3⟩
def uq {α:Type} {f:Nat->List α} {m:Nat} (h:∀i,abo (f i)=m):∀k,abo (dV k f)=m*k
 |0=>rfl
 |k+1=>by rw [qz,abq,Nat.mul_succ,uq h k,h k]
structure Hb where
 b:Bk
 A:aiW
 c:Nat
def Hb.zero:Hb:=⟨Bk.zero,none,0⟩
def hbL (h:Hb):List aiN:=(h.b.cells h.A h.c).toList
def GN (h:Hb):abo (hbL h)=5:=rfl
def Hb.own (h:Hb):Own:=⟨h.A,abo h.b.evs,h.c,h.b.evs.flatMap fC⟩
def iU (t:aiP) (q:List Hb):List aiX:=jD t 11 (q.map Hb.own)
def oQ (w:aiM) (q:List Hb):Prop:=∀h∈q,Rd w w.heap.size 11 h.A (abo h.b.evs) (h.b.evs.flatMap fC)
section
variable {W w w':aiM} {fs gs a b:List aiX} {t bt:aiP} {q:List Hb}
def zch (h:Hb):iU t (q++[h])=iU t q++[.row (.slice h.A (abo h.b.evs) h.c) (abo h.b.evs) (h.b.evs.flatMap fC) t 11]:=by
 unfold iU jD
 rw [abZ,abZ]
 rfl
def zi2 {h:Hb} (d:h∈q):aga (.slice h.A (abo h.b.evs) h.c) (abo h.b.evs) (h.b.evs.flatMap fC) t 11∈iU t q:=ac5 (ac5 d)
theorem Mem.QV (h:Mem W w fs) (hs:∀f∈iU t q,f∈fs):oQ w q:=λ_ c=>h.kg (hs _ (zi2 c))
theorem oQ.old (h:oQ W q) (c:Mem W w fs):oQ w q:=λx d=>c.old (h x d)
theorem oQ.at (h:oQ w q) (hk:k<abo q):Rd w w.heap.size 11 (q.getD k Hb.zero).A (q.getD k Hb.zero).b.evs.length ((q.getD k Hb.zero).b.evs.flatMap fC):=by
 refine h _ ?_
 rw [abt,abr hk]
 exact ac7 hk
def aaM {x:Bk} (h:Mem W w (.row (.slice A (abo x.evs) c) (abo x.evs) (x.evs.flatMap fC) t 11::(a++(iU t q++b)))):Mem W w (a++(iU t (q++[⟨x,A,c⟩])++b)):=by
 refine h.perm ?_
 rw [zch]
 have d:(aga (.slice A (abo x.evs) c) (abo x.evs) (x.evs.flatMap fC) t 11::(a++(iU t q++b))).Perm (a++aga (.slice A (abo x.evs) c) (abo x.evs) (x.evs.flatMap fC) t 11::(iU t q++b)):=(ac8).symm
 refine d.trans (List.Perm.append_left a ?_)
 rw [abv]
 exact (ac8 (l₁:=iU t q) (l₂:=b)).symm
def aaK {f:aiX} (h:Mem W w (a++b)) (k:Mem w w' (f::iU t q)):Mem W w' (f::(a++(iU t q++b))):=by
 refine (h.join k).perm (List.Perm.cons f ?_)
 show (iU t q++(a++b)).Perm _
 rw [<-abv,<-abv]
 exact List.Perm.append_right b acD
end
def GR {q c:List Hb} (h:q.map Hb.b=c.map Hb.b) (hk:k<abo q):(q.getD k Hb.zero).b=(c.getD k Hb.zero).b:=by
 have e:abo q=abo c:=by have h:=congrArg acW h;rwa [abw,abw] at h
 have d:=congrArg (·[k]?) h
 simp only [acM] at d
 rw [abr hk,abr om] at d
 rw [abt,abt,abr hk,abr om]
 injection d
def CF (t bt:aiP) (w:aiM) (er:Nat) (bs:List Bk):aiQ->aiM->Prop:=λr w'=>∃A c q,r= .returned (.tuple #[.slice A (abo bs) c,.int .i64 (er:Int)])/\q.map Hb.b=bs/\abo bs<=c/\Mem w w' (.row (.slice A (abo bs) c) (abo bs) (q.flatMap hbL) bt 5::iU t q)
section
variable {W w:aiM} {fs a:List aiX} {t bt:aiP} {q:List Hb}
def zci {n:Int} (h:Mem W w fs) (c:n=er):CF t bt W er [] (.returned (.tuple #[.slice none 0 0,.int .i64 n])) w:=by
 subst c
 exact ⟨none,0,[],rfl,rfl,abu _,Mem.nil ⟨h.below,λf d=>absurd d acv,.nil⟩ _ _⟩
def zi3 (h:Mem W w (.row (.slice A (abo q) c) (abo q) (q.flatMap hbL) bt 5::iU t q)) (hc:abo q<=c):CF t bt W 0 (q.map Hb.b) (.returned (.tuple #[.slice A (abo q) c,.int .i64 0])) w:=
 ⟨A,c,q,by rw [abw];rfl,rfl,by rwa [abw],by rwa [abw]⟩
end
def Io {α:Type} (d:α) {l m:List α} (b:abo l=abo m) (c:∀i,i<abo l->l.getD i d=m.getD i d):l=m:=by
 apply ad8 b
 intro i a e
 have:=c i a
 rwa [abt,abt,abr a,abr e] at this
def Ip {α:Type} {f g:Nat->α}:∀i,i<0->f i=g i:=λi h=>by omega
def Iq {α:Type} {f g:Nat->α} (h:∀i,i<k->f i=g i) (hk:f k=g k):∀i,i<k+1->f i=g i:=λi hi=>by
 rcases ab6 i k with a|a
 ·exact h i a
 ·obtain rfl:i=k:=by omega
  exact hk
def zdf (x y:Tk):nO abp 4 232 (.agg x.cells) (.agg y.cells)=some (decide (x=y)):=by
 have h:nO abp 4 232 (.agg x.cells) (.agg y.cells)=some ((x.id==y.id)&& ((x.group==y.group)&& ((x.weight==y.weight)&& ((x.cpu==y.cpu)&& (((x.mask:Int)==(y.mask:Int))&& ((x.ready==y.ready)&& (((x.v:Int)==(y.v:Int))&& (((x.r:Int)==(y.r:Int))&&true)))))))):=by kernel_rfl
 refine h.trans (congrArg some ?_)
 obtain ⟨a,b,c,d,e,f,g,i⟩:=x
 obtain ⟨j,k,l,m,n,o,p,q⟩:=y
 rw [ab3]
 simp only [abG,beq_iff_eq,decide_eq_true_eq,Tk.mk.injEq,and_true,ahh]
def zdg (x y:Sp):nO abp 4 200 (.agg x.cells) (.agg y.cells)=some (decide (x=y)):=by
 have h:nO abp 4 200 (.agg x.cells) (.agg y.cells)=some (((x.v:Int)==(y.v:Int))&& (((x.r:Int)==(y.r:Int))&& (((x.floor:Int)==(y.floor:Int))&&true))):=by kernel_rfl
 refine h.trans (congrArg some ?_)
 obtain ⟨a,b,c⟩:=x
 obtain ⟨d,e,f⟩:=y
 rw [ab3]
 simp only [abG,beq_iff_eq,decide_eq_true_eq,Sp.mk.injEq,and_true,ahh]
def jw (x:aF):List (List Sp):=x.rs.map aeb
def A9 (h:g<abo x.rs):(jw x).getD g []=(x.rs.getD g Rw.zero).l:=kC h
def wC (x:aF):abo (jw x)=abo x.rs:=abw ..
def wD (a b:aF):Prop:=a.au=b.au/\a.aj=b.aj/\a.gs=b.gs
instance Ir (a b:aF):Decidable (wD a b):=by unfold wD;infer_instance
def je (a b:aF):Prop:=wD a b/\a.cl=b.cl/\a.cu=b.cu/\a.ts=b.ts/\jw a=jw b
instance Iu (a b:aF):Decidable (je a b):=by unfold je;infer_instance
def dM (a b:dF):Prop:=a.next=b.next/\a.st.au=b.st.au/\a.st.aj=b.st.aj/\a.st.gs=b.st.gs/\a.st.cl=b.st.cl/\a.st.cu=b.st.cu/\a.st.ts=b.st.ts/\jw a.st=jw b.st
instance Nk (a b:dF):Decidable (dM a b):=by unfold dM;infer_instance
def ET {l:List Rw} (h:i<abo l):(l.map aeb).getD i []=(l.getD i Rw.zero).l:=by
 rw [abt,abt,acM,abr h]
 rfl
def q6u {l m:List Rw} (a:abo l=abo m) (b:∀i,i<abo l->(l.getD i Rw.zero).l=(m.getD i Rw.zero).l):l.map aeb=m.map aeb:=
 Io [] (by simpa using a) λi hi=>by
  rw [abw] at hi
  rw [ET hi,ET om]
  exact b i hi
def q6v {l m:List Rw} (h1:k<abo l) (a:k<abo m) (h:(l.getD k Rw.zero).l≠(m.getD k Rw.zero).l):l.map aeb≠m.map aeb:=λe=>h (by rw [<-ET h1,<-ET a,e])
def q6w {l m:List Rw} (h:abo l≠abo m):l.map aeb≠m.map aeb:=λe=>h (by have:=congrArg acW e;simpa using this)
section
variable {P:aiO} {Q:aiV->Act->aiM->Prop} {a:Act} {W w:aiM} {n d:Nat} {D:List aiU} {σ:List (Nat×aiN)} {o:aiS} {K:Act->aiM->Prop} {fs:List aiX}
end
def lD (t:aiP) (q:List Rw):List aiX:=jD t 3 (q.map Rw.own)
section
variable {W w w':aiM} {fs gs a T:List aiX} {t:aiP} {q:List Rw}
def q6x {x:Rw} (b:x∈q):aga (.slice x.A (abo x.l) x.c) (abo x.l) (x.l.flatMap jc) t 3∈lD t q:=ac5 (ac5 b)
def aaE {l:List Sp} (h:Mem W w (.row (.slice A (abo l) c) (abo l) (l.flatMap jc) t 3::(fs++lD t q))):Mem W w (fs++lD t (q++[⟨A,c,l⟩])):=by
 have b:=Mem.zo6 h
 unfold lD
 rw [abZ]
 exact b
theorem Mem.qM (h:Mem W w fs) (k:Mem w w' gs):Mem W w' (fs++gs):=(h.join k).perm acD
end
def jP (x:aF):List aiX:=[.row (.slice x.gA (abo x.gs) x.gc) (abo x.gs) (x.gs.flatMap fQ) 198 2,.row (.slice x.lA (abo x.cl) x.lc) (abo x.cl) (x.cl.map aZ) 3 1,.row (.slice x.uA (abo x.cu) x.uc) (abo x.cu) (x.cu.map aZ) 3 1,.row (.slice x.tA (abo x.ts) x.tc) (abo x.ts) (x.ts.flatMap bX) 232 8,.row (.slice x.sA (abo x.rs) x.sc) (abo x.rs) (x.rs.map aac) 176 1]++lD 200 x.rs
section
variable {W w w':aiM} {fs T:List aiX} {x:aF}
theorem Mem.Dh (h:Mem W w fs) (hs:∀f∈jP x,f∈fs):fA w x:=
 ⟨h.kg (hs _ (abJ (i:=0) (l:=jP x) rfl)),h.kg (hs _ (abJ (i:=1) (l:=jP x) rfl)),h.kg (hs _ (abJ (i:=2) (l:=jP x) rfl)),h.kg (hs _ (abJ (i:=3) (l:=jP x) rfl)),h.kg (hs _ (abJ (i:=4) (l:=jP x) rfl)),λy b=>h.kg (hs _ (acP _ (q6x b)))⟩
theorem Mem.stL (n:Nat) (h:Mem W w fs) (b:fs.drop n=jP x++T):fA w x:=h.Dh λf c=>abU (b▸List.mem_append_left _ c)
theorem Mem.stX (n:Nat) (h:Mem W w fs) (b:fs.drop n=jP x):fA w x:=h.Dh λf c=>abU (b▸c)
end
def zgw (w:aiM) (x:aF) (r:aiQ) (w':aiM):Prop:=∃y:aF,r= .returned (.agg y.cells)/\je x y/\gD y/\Mem w w' (jP y)
def Iw (l:List Gr):∀u∈l.flatMap fQ,u.oneCell'=true:=by
 intro u c
 obtain ⟨x,_,b⟩:=acV.1 c
 simp only [fQ,abY,acv,or_false] at b
 rcases b with rfl|rfl<;>rfl
def R4 (l:List Sp):∀u∈l.flatMap jc,u.oneCell'=true:=by
 intro u c
 obtain ⟨x,_,b⟩:=acV.1 c
 simp only [jc,abY,acv,or_false] at b
 rcases b with rfl|rfl|rfl<;>rfl
def Iy (l:List Tk):∀u∈l.flatMap bX,u.oneCell'=true:=by
 intro u c
 obtain ⟨x,_,b⟩:=acV.1 c
 simp only [bX,abY,acv,or_false] at b
 rcases b with rfl|rfl|rfl|rfl|rfl|rfl|rfl|rfl<;>rfl
def R5 (l:List Int):∀u∈l.map aZ,u.oneCell'=true:=by
 intro u b
 obtain ⟨x,_,rfl⟩:=ab7.1 b
 rfl
def zgx (l:List Rw):∀u∈l.map aac,u.oneCell'=true:=by
 intro u b
 obtain ⟨x,_,rfl⟩:=ab7.1 b
 rfl
def zdh {l:List Rw} (h:k<abo l):(l.take (k+1)).map aeb=(l.take k).map aeb++[(l.getD k Rw.zero).l]:=by rw [qc6 Rw.zero h,abZ];rfl
theorem Nl {a b:aF} (h:je a b):b.ay=a.ay:=by
 obtain ⟨⟨c,e,f⟩,g,i,j,k⟩:=h
 unfold aF.ay
 rw [c,e,f,g,i,j,show a.rs.map aeb=b.rs.map aeb from k]
theorem Di {b:dF} (h:dM a b):je a.st b.st:=⟨⟨h.2.1,h.2.2.1,h.2.2.2.1⟩,h.2.2.2.2.1,h.2.2.2.2.2.1,h.2.2.2.2.2.2.1,h.2.2.2.2.2.2.2⟩
def qN {b:dF} (c:a.next=b.next) (h:je a.st b.st):dM a b:=⟨c,h.1.1,h.1.2.1,h.1.2.2,h.2.1,h.2.2.1,h.2.2.2.1,h.2.2.2.2⟩
def qog {a b:aF} (h:jw a=jw b):abo a.rs=abo b.rs:=by rw [<-wC a,h,wC]
def Nn {α:Type} {f g:Nat->List α}:∀k,(∀i,i<k->f i=g i)->dV k f=dV k g
 |0,_=>rfl
 |k+1,h=>by rw [qz,qz,Nn k (λi hi=>h i om),h k om]
def znu {b:dF} (h:dM a b):∀i,aI b i=aI a i:=by
 obtain ⟨f,j,m,c,p,r,s,e⟩:=h
 intro i
 match i with
 |0=>show [aK b.next]=[aK a.next];rw [f]
 |1=>show [aK b.st.au,b.st.aj,abo b.st.gs]=[aK a.st.au,a.st.aj,abo a.st.gs];rw [j,m,c]
 |2=>show dV (abo b.st.gs-1) (uR b.st.gs)=dV (abo a.st.gs-1) (uR a.st.gs);rw [c]
 |3=>show b.st.cl.map aK=a.st.cl.map aK;rw [p]
 |4=>show b.st.cu.map aK=a.st.cu.map aK;rw [r]
 |5=>show (abo b.st.ts::dV (abo b.st.ts) λi=>kT (qq b.st.ts i) (b.st.ts.getD i Tk.zero))=abo a.st.ts::dV (abo a.st.ts) λi=>kT (qq a.st.ts i) (a.st.ts.getD i Tk.zero);rw [s]
 |6=>
  have u:=qog e
  show (dV (abo b.st.rs) λg=>kU g (b.st.rs.getD g Rw.zero).l)=dV (abo a.st.rs) λg=>kU g (a.st.rs.getD g Rw.zero).l
  rw [u]
  exact Nn _ λg v=>by rw [<-A9 v,<-e,A9 om]
 |k+7=>rfl
theorem Iz {b:dF} (h:dM a b):dP b=dP a:=by unfold dP;rw [Nl (Di h),h.1]
theorem zjw {b:dF} (h:dM a b):eX b=eX a:=Nn 7 λi _=>znu h i
theorem zjx {b:dF} (h:dM a b):bR b=bR a:=by unfold bR;rw [zjw h]
def q6z {b:dF} (h:dM a b):dz b=dz a:=by unfold dz;rw [Iz h,zjx h]
def q1r (a:aF):je a a:=⟨⟨rfl,rfl,rfl⟩,rfl,rfl,rfl,rfl⟩
def q1s {a b:aF} (h:je a b):je b a:=⟨⟨h.1.1.symm,h.1.2.1.symm,h.1.2.2.symm⟩,h.2.1.symm,h.2.2.1.symm,h.2.2.2.1.symm,h.2.2.2.2.symm⟩
def qv2 {a b c:aF} (h:je a b) (k:je b c):je a c:=⟨⟨h.1.1.trans k.1.1,h.1.2.1.trans k.1.2.1,h.1.2.2.trans k.1.2.2⟩,h.2.1.trans k.2.1,h.2.2.1.trans k.2.2.1,h.2.2.2.1.trans k.2.2.2.1,h.2.2.2.2.trans k.2.2.2.2⟩
def Np {b:dF} (h:dM a b):dM b a:=qN h.1.symm (q1s (Di h))
def qoh {b c:dF} (h:dM a b) (k:dM b c):dM a c:=qN (h.1.trans k.1) (qv2 (Di h) (Di k))
def zgy {a b:aF} (h:je a b) (c:cK a):cK b:=by
 obtain ⟨⟨A,B,i⟩,j,k,m,f⟩:=h
 refine ⟨i▸c.g,j▸c.l,k▸c.u,m▸c.t,by rw [<-qog f];exact c.s,λy p=>?_⟩
 have v:y.l∈jw a:=by rw [f];exact ac5 p
 obtain ⟨z,hz,e⟩:=ab7.1 v
 rw [<-e]
 exact c.r z hz
def IB (x:aF):Prop:=abo x.ts<=60/\abo x.gs<=12/\abo x.rs<=12/\abo x.cl<=8/\abo x.cu<=8/\∀k,k<abo x.rs->(x.rs.getD k Rw.zero).l.length<=8
instance R6 (x:aF):Decidable (IB x):=by unfold IB;infer_instance
def jV.zero:jV:=⟨⟨#[]⟩,0,0⟩
def Pb (a b c d e:Nat):dF:=⟨1,⟨1,0,some ⟨a,0,none⟩,1,[⟨0,1⟩],some ⟨b,0,none⟩,1,[0],some ⟨c,0,none⟩,1,[0],none,0,[],some ⟨e,0,none⟩,1,[⟨some ⟨d,0,none⟩,1,[⟨0,0,0⟩]⟩]⟩⟩
section
variable {w:aiM} {a b c d e f:Nat}
theorem yE {α:Type} {p:α->Prop} {x:α} (h:p x):∀y∈[x],p y:=λy g=>by rw [List.mem_singleton] at g;subst g;exact h
theorem zl2 {α:Type} {p:α->Prop}:∀y∈([]:List α),p y:=λy g=>by cases g
theorem zl3:Gr.Ok ⟨0,1⟩:=⟨by unfold aX;decide,by unfold aX;decide⟩
def zow:(Pb a b c d e).st.ay.Ok:=⟨show aX 1 by unfold aX;decide,show 0<18446744073709551616 by decide,yE zl3,yE (by unfold aX;decide),yE (by unfold aX;decide),zl2,yE (yE ⟨by decide,by decide,by decide⟩)⟩
def zl4:cK (Pb a b c d e).st:=⟨by show 1<=1000000;decide,by show 1<=1000000;decide,by show 1<=1000000;decide,by show 0<=1000000;decide,by show 1<=1000000;decide,yE (by show 1<=1000000;decide)⟩
def zl5:gD (Pb a b c d e).st:=⟨abu 1,abu 1,abu 1,abu 0,abu 1,yE (abu 1)⟩
end
def fG (A:aiW) (n c:Nat) (l:List Gr):aiX:= .row (.slice A n c) n (l.flatMap fQ) 198 2
def fI (A:aiW) (n c:Nat) (l:List Int):aiX:= .row (.slice A n c) n (l.map aZ) 3 1
def fT (A:aiW) (n c:Nat) (l:List Tk):aiX:= .row (.slice A n c) n (l.flatMap bX) 232 8
def fS (A:aiW) (n c:Nat) (l:List Rw):aiX:= .row (.slice A n c) n (l.map aac) 176 1
def fR (q:List Rw):List aiX:=lD 200 q
def fM (gm:Nat) (cp:Int) (cr:Nat) (gA:aiW) (ng gc:Nat) (lA:aiW) (nl lc:Nat) (uA:aiW) (nu uc:Nat) (tA:aiW) (nt tc:Nat) (sA:aiW) (ns sc:Nat):aiX:=
 .blk gm #[.int .i64 cp,.int .u64 (cr:Int),.slice gA ng gc,.slice lA nl lc,.slice uA nu uc,.slice tA nt tc,.slice sA ns sc,.bool true] 273
def jM (gm:Nat) (x:aF) (ng nl nu nt ns:Nat):List aiX:=fM gm x.au x.aj x.gA ng x.gc x.lA nl x.lc x.uA nu x.uc x.tA nt x.tc x.sA ns x.sc::fG x.gA ng x.gc x.gs::fI x.lA nl x.lc x.cl::fI x.uA nu x.uc x.cu::fT x.tA nt x.tc x.ts::fS x.sA ns x.sc x.rs::fR x.rs
structure sO (x:aF) (ng nl nu nt ns:Nat):Prop where
 g:abo x.gs=ng
 l:abo x.cl=nl
 u:abo x.cu=nu
 t:abo x.ts=nt
 s:abo x.rs=ns
structure dY (x:aF) (ng nl nu nt ns:Nat):Prop where
 ok:x.ay.Ok
 few:cK x
 sh:ShAt x
 ln:sO x ng nl nu nt ns
section
variable {W w w':aiM} {F A T fs:List aiX} {x:aF} {ng nl nu nt ns gm g c n:Nat}
def zgz:jM gm x (abo x.gs) (abo x.cl) (abo x.cu) (abo x.ts) (abo x.rs)=fM gm x.au x.aj x.gA (abo x.gs) x.gc x.lA (abo x.cl) x.lc x.uA (abo x.cu) x.uc x.tA (abo x.ts) x.tc x.sA (abo x.rs) x.sc::jP x:=rfl
theorem Mem.uw (n:Nat) (h:Mem W w F) (b:F.drop n=jM gm x ng nl nu nt ns++T) (e:sO x ng nl nu nt ns):fA w x:=by
 obtain ⟨rfl,rfl,rfl,rfl,rfl⟩:=e
 exact h.stL (T:=T) (n+1) (by rw [<-acN,b,zgz];rfl)
theorem Mem.oD (n:Nat) (h:Mem W w F) (b:F.drop n=jM gm x ng nl nu nt ns++T) (e:sO x ng nl nu nt ns):w.heap[gm]?=some (.cells #[.int .i64 x.au,.int .u64 (x.aj:Int),.slice x.gA (abo x.gs) x.gc,.slice x.lA (abo x.cl) x.lc,.slice x.uA (abo x.cu) x.uc,.slice x.tA (abo x.ts) x.tc,.slice x.sA (abo x.rs) x.sc,.bool true] 273 (0,0)):=by
 obtain ⟨rfl,rfl,rfl,rfl,rfl⟩:=e
 have i:fM gm x.au x.aj x.gA (abo x.gs) x.gc x.lA (abo x.cl) x.lc x.uA (abo x.cu) x.uc x.tA (abo x.ts) x.tc x.sA (abo x.rs) x.sc∈F:=abU (by rw [b,zgz];exact acj ..)
 exact (h.holds _ i).2
theorem Mem.front (n:Nat) (h:Mem W w F) (b:F.drop n=A++T):Mem W w (A++(F.take n++T)):=by
 have e:Mem W w (F.take n++(A++T)):=by rw [<-b,ab8];exact h
 exact e.perm (afI ..)
theorem Mem.back (h:Mem W w (A++(F++T))):Mem W w (F++(A++T)):=h.perm (afI ..)
end
def aT (rs:List Rw) (g c:Nat) (z:Sp):List Rw:=rs.set g {rs.getD g Rw.zero with l:=(rs.getD g Rw.zero).l.set c z}
def zq (rs:List Rw) (g c:Nat) (z:Sp):abo (aT rs g c z)=abo rs:=abK ..
theorem zd {α:Type} {l:List α} (d x:α) (h:k<abo l):(l.set k x).getD k d=x:=by
 rw [abt,adf h];rfl
theorem getD_set_ne {α:Type} {l:List α} {j:Nat} (d x:α) (h:k≠j):(l.set k x).getD j d=l.getD j d:=by grind
theorem qmd {α:Type} {l:List α} (d:α) (h:k<abo l):l.set k (l.getD k d)=l:=by simp_all
theorem q61 {g c:Nat} {z:Sp} (b:g<abo rs):(aT rs g c z).map aac=rs.map aac:=by grind [aac,Rw.zero,aT,qmd,abr,abw,abK,afl]
theorem zjy {g c:Nat} {z:Sp} (b:g<abo rs):(aT rs g c z).map aeb=(rs.map aeb).set g (((rs.map aeb).getD g []).set c z):=by simp_all [Rw.zero,ET,aT]
theorem EW {g c:Nat} {z:Sp} (b:g<abo rs):(aT rs g c z).getD g Rw.zero={rs.getD g Rw.zero with l:=(rs.getD g Rw.zero).l.set c z}:=zd _ _ b
theorem IC {rs:List Rw} {g h c:Nat} {z:Sp} (b:g≠h):(aT rs g c z).getD h Rw.zero=rs.getD h Rw.zero:=getD_set_ne _ _ b
theorem R9 {g c:Nat} {z y:Sp} (b:g<abo rs):aT (aT rs g c z) g c y=aT rs g c y:=by simp_all [zd,aT]
section
variable {W w w':aiM} {F A T fs:List aiX} {rs:List Rw} {n g c:Nat}
def aaG (n:Nat) (e:F.drop n=fR rs++T) (b:g<abo rs):F[n+g]?=some (.row (.slice (rs.getD g Rw.zero).A (rs.getD g Rw.zero).l.length (rs.getD g Rw.zero).c) (rs.getD g Rw.zero).l.length ((rs.getD g Rw.zero).l.flatMap jc) 200 3):=by
 have h:F[n+g]?=(F.drop n)[g]?:=by rw [List.getElem?_drop]
 have i:abo (fR rs)=abo rs:=by unfold fR lD jD;rw [abw,abw]
 rw [h,e,adT om]
 unfold fR lD jD
 rw [acM,acM,abr b,abt,abr b]
 rfl
theorem Mem.jQ (n:Nat) (h:Mem W w F) (e:F.drop n=fR rs++T) (i:g<abo rs) (hy:rs.getD g Rw.zero=⟨E,m,yl⟩) (j:0<abo yl):∃k,E=some ⟨k,0,none⟩:=by
 have b:=aaG n e i
 rw [hy] at b
 exact zx (h.own b) j
theorem Mem.uS {m k c j:Nat} {v:aiN} (n:Nat) (h:Mem W w F) (e:F.drop n=fR rs++T) (i:g<abo rs) (hy:rs.getD g Rw.zero=⟨some ⟨k,0,none⟩,m,yl⟩) (hz:yl[c]?=some z) (l:(jc z)[j]?=some v):w.cell? ⟨k,c*3+j,none⟩=some v:=by
 have b:=aaG n e i
 rw [hy] at b
 exact h.qw yU b hz l
theorem Mem.rdT {A:aiW} {size:Nat} {xs:List aiN} {e:aiP} (n:Nat) (h:Mem W w F) (b:F.drop n=fR rs++T) (j: .row (.slice A m k) m xs e size∈T):Rd w w.heap.size size A m xs:=
 h.kg (abU (i:=n) (by rw [b];exact acP _ j))
def znv {r:Rw}:(fR rs).set g (.row (.slice r.A (abo r.l) r.c) (abo r.l) (r.l.flatMap jc) 200 3)=fR (rs.set g r):=by
 unfold fR lD jD
 rw [afl,afl]
 rfl
variable {P:aiO} {Q:aiV->Act->aiM->Prop} {a:Act} {N d:Nat} {D:List aiU} {σ:List (Nat×aiN)} {o:aiS} {v:aiN} {K:Act->aiM->Prop}
theorem Dj (Z:Fr a N D σ) (h:Mem W w F) (n:Nat) {sA:aiW} {ns sc m e off:Nat} {yl:List Sp} {t:aiP} {x y:aiR} (j:Nat) {z:Sp} (b:Sp) (i:o.op= .store t x y) (u:o.dst=none) (B:look σ x=some (.pointer (some ⟨e,off,none⟩))) (C:look σ y=some v) (hs:(P.info? t).map (·.size)=some 1) (h1:v.oneCell'=true)
  (p:F.drop n=fS sA ns sc rs::(fR rs++T)) (q:g<abo rs) (hy:rs.getD g Rw.zero=⟨some ⟨e,0,none⟩,m,yl⟩) (hz:yl[c]?=some z) (E:off=c*3+j) (G:j<3) (l:jc b=(jc z).set j v)
  (k:∀w',Mem W w' (F.take n++(fS sA ns sc (aT rs g c b)::(fR (aT rs g c b)++T)))->K a w'):o.wp P a w K Q:=by
 subst E
 have hi:=aaG (F:=F) (T:=T) (g:=g) (n+1) (by rw [<-acN,p];rfl) q
 rw [hy] at hi
 have H:c<abo yl:=(abB.1 hz).1
 refine zj Z h i u B C hs h1 hi (by rw [rJ jc 3 yU];show c*3+j<abo yl*3;omega) λw' h=>k w' ?_
 rw [vo jc 3 yU yl c z b hz j G v l] at h
 have I:F=F.take n++(fS sA ns sc rs::(fR rs++T)):=by rw [<-p,ab8]
 have s:abo (F.take n)=n:=by
  grind
 have J:F.set (n+1+g) (.row (.slice (some ⟨e,0,none⟩) (abo yl) m) (abo yl) ((yl.set c b).flatMap jc) 200 3)=F.take n++(fS sA ns sc rs::((fR rs).set g (.row (.slice (some ⟨e,0,none⟩) (abo yl) m) (abo yl) ((yl.set c b).flatMap jc) 200 3)++T)):=by
  conv=>lhs;rw [I]
  rw [ae1,if_neg (by rw [s];omega),s,show n+1+g-n=g+1 by omega,List.set_cons_succ,ae1,if_pos (by unfold fR lD jD;rw [abw,abw];exact q)]
 have L:aT rs g c b=rs.set g ⟨some ⟨e,0,none⟩,m,yl.set c b⟩:=by unfold aT;rw [hy]
 have M:=znv (rs:=rs) (g:=g) (r:=⟨some ⟨e,0,none⟩,m,yl.set c b⟩)
 grind [fS,q61]
end
section
variable {P:aiO} {W w:aiM} {fs:List aiX} {f:Nat} {fn:Func} {c:Code} {R:aiQ->aiM->Prop} {u1 u2 u3 u4:aiN}
def Sd (b:Mem W w fs) (e:P.funcs[f]?=some fn) (N:Nat) (h:fn.ntmps=N:=by exact rfl) (hb:fn.body=some c:=by exact rfl) (i:decide (1<=N)=true:=by kernel_rfl) (k:JJ W w N [] [(0,u1)] fs (Code.wp P c (bodyPost P fn R))):Calls P f #[u1] w R:=
 yI (vs:=[u1]) e hb h i rfl λa Z=>k a Z b
def mq (b:Mem W w fs) (e:P.funcs[f]?=some fn) (N:Nat) (h:fn.ntmps=N:=by exact rfl) (hb:fn.body=some c:=by exact rfl) (i:decide (2<=N)=true:=by kernel_rfl) (k:JJ W w N [] [(0,u1),(1,u2)] fs (Code.wp P c (bodyPost P fn R))):Calls P f #[u1,u2] w R:=
 yI (vs:=[u1,u2]) e hb h i rfl λa Z=>k a Z b
def zA (b:Mem W w fs) (e:P.funcs[f]?=some fn) (N:Nat) (h:fn.ntmps=N:=by exact rfl) (hb:fn.body=some c:=by exact rfl) (i:decide (3<=N)=true:=by kernel_rfl) (k:JJ W w N [] [(0,u1),(1,u2),(2,u3)] fs (Code.wp P c (bodyPost P fn R))):Calls P f #[u1,u2,u3] w R:=
 yI (vs:=[u1,u2,u3]) e hb h i rfl λa Z=>k a Z b
end
def En.cells (x:En):Array aiN:= #[.int .u64 (x.v:Int),.int .u32 (x.r:Int),.int .u32 (x.w:Int)]
def mD (x:En):∀v∈x.cells.toList,v.oneCell'=true:=by simp [En.cells,abX]
def En.Ok (x:En):Prop:=cB x.v x.r x.w=true/\x.v<18446744073709551616
def bP.cells (x:bP):Array aiN:= #[.int .u8 (x.kind:Int),.int .i64 x.cpu,.int .i64 x.task,.int .i64 x.group,.int .i64 x.weight,.int .i64 x.to,.int .i64 x.ticks,.int .u64 (x.mask:Int)]
def zg0 (x:bP):∀v∈x.cells.toList,v.oneCell'=true:=by simp [bP.cells,abX]
def mW:SI abp 214 8:=⟨by kernel_rfl,by kernel_rfl⟩
theorem sP:EI abp 211 214 (.agg #[.int .u8 0,.int .i64 0,.int .i64 0,.int .i64 0,.int .i64 0,.int .i64 0,.int .i64 0,.int .u64 0]) 8 64:=⟨by kernel_rfl,by kernel_rfl,rfl,by omega⟩
section
variable {W w:aiM} {F T:List aiX} {x:aF} {ng nl nu nt ns gm g c n:Nat}
def dY.sort (h:dY x ng nl nu nt ns):fK x.ts:=q6h h.sh
def IE (n:Nat) (e:Mem W w F) (h:F.drop n=jM gm x ng nl nu nt ns++T) (b:dY x ng nl nu nt ns) (id:Int):Calls abp 161 #[.pointer (some ⟨gm,0,none⟩),.int .i64 id] w (Is w (.int .i64 (fidx x.ts id))):=
 qsz x gm id b.sort w (e.oD n h b.ln) (e.uw n h b.ln).t b.few.t
def zdi (n:Nat) (e:Mem W w F) (h:F.drop n=jM gm x ng nl nu nt ns++T) (b:dY x ng nl nu nt ns) (hc:(c:Int)<x.au) (i:g<ns):Calls abp 162 #[.pointer (some ⟨gm,0,none⟩),.int .i64 (g:Int),.int .i64 (c:Int)] w (Is w (.tuple #[.agg (aN bO (aU x.ay g c)).cells,.bool (!(aU x.ay g c).isEmpty)])):=
 Ni x b.ok b.few b.sh gm c hc _ g (abu _) (by rw [b.ln.s];exact i) w (e.uw n h b.ln) (e.oD n h b.ln)
end
def Sg {α:Type} {a b:List α} {n:Nat} (h:abo b=n):abo a+n=abo (a++b):=by rw [abq,h]
section
variable {s:bH} {c g:Nat}
theorem qv4 (b:∀i,0<i->i<=g->fq s.gs i) (h:g<=f):rV s c f g=rV s c g g:=by
 have key:∀(g f a:Nat),(∀i,0<i->i<=g->fq s.gs i)->g<=f->g<=a->rV s c f g=rV s c a g:=by
  intro g
  induction g using afb with
  | _ g l =>
   intro f a b m n
   by_cases d:g=0
   ·subst d
    cases f<;>cases a<;>simp [rV]
   ·obtain ⟨f,rfl⟩:∃k,f=k+1:=⟨f-1,by omega⟩
    obtain ⟨a,rfl⟩:∃k,a=k+1:=⟨a-1,by omega⟩
    have j:=b g om (abu _)
    unfold fq at j
    simp only [rV,if_neg d]
    have e:(s.par g).toNat<g:=by show (s.gs.getD g Gr.zero).parent.toNat<g;omega
    grind
 exact key g f g b h (abu _)
def qmf (a:∀i,0<i->i<=g->fq s.gs i) (b:0<g) (hm:aU s g c=[]):lC s g c=g::lC s (s.gs.getD g Gr.zero).parent.toNat c:=by
 obtain ⟨k,rfl⟩:∃k,g=k+1:=⟨g-1,by omega⟩
 have d:=a (k+1) b (abu _)
 unfold fq at d
 show rV s c (k+1) (k+1)=_
 rw [rV,if_neg om,if_pos (by rw [hm];rfl)]
 show (k+1)::rV s c k (s.gs.getD (k+1) Gr.zero).parent.toNat=_
 rw [qv4 (λi hi e=>a i hi om) om]
 rfl
def qv5:lC s 0 c=[]:=rfl
theorem qmg (hm:aU s g c≠[]):lC s g c=[]:=by
 cases g with
 |zero=>rfl
 |succ k=>
  show rV s c (k+1) (k+1)=_
  grind [rV]
def qoi (d:∀i,0<i->i<=g->fq s.gs i):∀h∈lC s g c,0<h/\h<=g/\aU s h c=[]:=by
 induction g using afb with
 | _ g e =>
  intro h a
  rcases ach g with b|b
  ·subst b;cases a
  ·by_cases hm:aU s g c=[]
   ·rw [qmf d b hm] at a
    have f:=d g b (abu _)
    unfold fq at f
    rcases abY.1 a with rfl|a
    ·exact ⟨b,abu _,hm⟩
    ·have:=e (s.gs.getD g Gr.zero).parent.toNat om (λi hi j=>d i hi om) h a
     exact ⟨this.1,by omega,this.2.2⟩
   ·rw [qmg hm] at a;cases a
theorem qym:∀(l:List Mb) (b:Mb),aN b l=b\/aN b l∈l
 |[],b=> .inl rfl
 |m::r,b=>by
  show aN (if m.lt b then m else b) r=b\/aN (if m.lt b then m else b) r∈m::r
  rcases qym r (if m.lt b then m else b) with h|h
  ·grind
  ·exact .inr (ab5 _ h)
theorem zdj {l:List Mb} (a:l≠[]) (ht:∀m∈l,m.lt bO=true):aN bO l∈l:=by
 cases l with
 |nil=>exact absurd rfl a
 |cons m r=>
  show aN (if m.lt bO then m else bO) r∈m::r
  grind [qym]
theorem Nq {m:Mb} (hm:m∈aU s g c):(∃t∈s.ts,t.here g c=true/\m=⟨t.v,0,t.id.toNat⟩)\/(∃h,g<h/\h<abo s.sp/\s.par h=g/\aU s h c≠[]/\m=⟨(s.spot h c).v,1,h⟩):=by grind [lH,M8,vX,acp]
def zB (a:s.Ok) (g c:Nat):(s.spot g c).Ok:=by
 unfold bH.spot
 rcases ab6 g (abo s.sp) with h|h
 ·rcases ab6 c (abo (s.sp.getD g [])) with b|b
  ·exact a.sp _ (qf [] h) _ (qf Sp.zero b)
  ·rw [abt (l:=s.sp.getD g []),adR b]
   exact ⟨by decide,by decide,by decide⟩
 ·rw [abt (l:=s.sp),adR h]
  have e:(Option.none.getD ([]:List Sp)).getD c Sp.zero=Sp.zero:=rfl
  rw [e]
  exact ⟨by decide,by decide,by decide⟩
theorem zdk (a:s.Ok):∀m∈aU s g c,m.lt bO=true:=by
 intro m hm
 unfold Mb.lt
 rw [decide_eq_true_eq]
 show m.v<18446744073709551615\/m.v=18446744073709551615/\(m.k<18446744073709551615\/_)
 rcases Nq hm with ⟨t,ht,_,rfl⟩|⟨h,_,_,_,_,rfl⟩
 ·have:=(a.ts t ht).v
  show t.v<_\/t.v=_/\(0<_\/_)
  omega
 ·have:=(zB a h c).v
  grind
theorem Si (a:s.Ok) (b:aU s g c≠[]):aN bO (aU s g c)∈aU s g c:=zdj b (zdk a)
theorem Nr (a:s.Ok) (b:aU s g c≠[]):((aN bO (aU s g c)).k=0/\∃t∈s.ts,t.here g c=true/\aN bO (aU s g c)=⟨t.v,0,t.id.toNat⟩)\/((aN bO (aU s g c)).k=1/\∃h,(aN bO (aU s g c)).id=h/\g<h/\h<abo s.sp/\s.par h=g/\aU s h c≠[]/\(aN bO (aU s g c)).v=(s.spot h c).v):=by grind [Si,Nq]
theorem qv7 (b:s.Ok):∀(n f a g:Nat),g<abo s.sp->abo s.sp-g<=n->n<=f->n<=a->yj s c f g=yj s c a g:=by
 intro n
 induction n with
 |zero=>intro f a g d e;omega
 |succ n h=>
  intro f a g d e i j
  obtain ⟨f,rfl⟩:∃k,f=k+1:=⟨f-1,by omega⟩
  obtain ⟨a,rfl⟩:∃k,a=k+1:=⟨a-1,by omega⟩
  rw [yj,yj]
  by_cases hm:aU s g c=[]
  ·grind
  ·grind [Nr,aU]
def wE (s:bH) (c g:Nat):Nat:=yj s c (abo s.sp-g) g
def q62:pU s c=wE s c 0:=rfl
theorem qmh (b:g<abo s.sp) (hm:aU s g c=[]):wE s c g=0:=by
 unfold wE
 obtain ⟨k,a⟩:∃k,abo s.sp-g=k+1:=⟨abo s.sp-g-1,by omega⟩
 rw [a,yj,if_pos (by rw [hm];rfl)]
theorem qmi (a:g<abo s.sp) (hm:aU s g c≠[]) (b:(aN bO (aU s g c)).k=0):wE s c g=(aN bO (aU s g c)).id:=by
 unfold wE
 obtain ⟨k,d⟩:∃k,abo s.sp-g=k+1:=⟨abo s.sp-g-1,by omega⟩
 grind [yj]
theorem qmj (a:s.Ok) (l:g<abo s.sp) (hm:aU s g c≠[]) (b:(aN bO (aU s g c)).k≠0):wE s c g=wE s c (aN bO (aU s g c)).id/\g<(aN bO (aU s g c)).id/\(aN bO (aU s g c)).id<abo s.sp:=by
 rcases Nr a hm with ⟨h,_⟩|⟨h,j,d,f,e,_⟩
 ·exact absurd h b
 ·rw [d]
  refine ⟨?_,f,e⟩
  unfold wE
  obtain ⟨k,i⟩:∃k,abo s.sp-g=k+1:=⟨abo s.sp-g-1,by omega⟩
  rw [i,yj,if_neg (by simpa using hm),if_neg b,d]
  exact qv7 a (abo s.sp-j) _ _ j e (abu _) om (abu _)
def iE (l:List Tk) (c:Nat):Int:=(l.map λt=>if t.ready&&decide (t.cpu=(c:Int)) then t.weight else (0:Int)).sum
theorem q1t {l:List Tk} (h:k<abo l):iE (l.take (k+1)) c=iE (l.take k) c+(if (l.getD k Tk.zero).ready&&decide ((l.getD k Tk.zero).cpu=(c:Int)) then (l.getD k Tk.zero).weight else (0:Int)):=by grind [Tk.zero,iE,qc6]
theorem qmk {l:List Tk} (a:∀t∈l,1<=t.weight/\t.weight<=65536):0<=iE l c/\iE l c<=65536*abo l:=by
 induction l with
 |nil=>exact ⟨af4 _,af4 _⟩
 |cons t r b=>
  have e:=b λx d=>a x (ab5 _ d)
  grind [iE]
theorem qoj {l:List Tk} (a:∀t∈l,1<=t.weight/\t.weight<=65536) (k:Nat):0<=iE (l.take k) c/\iE (l.take k) c<=65536*abo l:=by
 have b:=qmk (c:=c) (l:=l.take k) λt ht=>a t (acG ht)
 grind
def q1u (h:k<abo l):gZ s (l.take (k+1)) c=l5 c (gZ s (l.take k) c) (l.getD k 0):=by
 unfold gZ
 rw [qc6 0 h,List.foldl_append]
 rfl
end
def fH (gs:List Gr) (cp:Int) (rs:List Rw):Prop:=∀g,g<abo rs->((rs.getD g Rw.zero).l.length:Int)=cp/\∀z∈(rs.getD g Rw.zero).l,z.Ok/\cB z.v z.r (gs.getD g Gr.zero).weight=true
section
variable {x:aF} {ng nl nu nt ns g c:Nat}
def dY.spots (h:dY x ng nl nu nt ns):fH x.gs x.au x.rs:=λg a=>by
 have d:=CU a (h.sh.row g a)
 refine ⟨d.1,λz hz=>?_⟩
 obtain ⟨c,hc,rfl⟩:=acp hz
 have e:(x.rs.getD g Rw.zero).l.getD c Sp.zero=(x.rs.getD g Rw.zero).l[c]:=by rw [abt,abr hc];rfl
 refine ⟨h.ok.sp _ (by rw [<-kC a];exact qf [] (by rw [lJ];exact a)) _ (ac7 hc),?_⟩
 have b:=d.2 c hc
 rw [e] at b
 unfold eZ at b
 rw [abG] at b
 exact b.1
theorem fH.put {gs:List Gr} {cp:Int} (h:fH gs cp rs) (z:Sp) (hz:z.Ok) (d:cB z.v z.r (gs.getD g Gr.zero).weight=true):fH gs cp (aT rs g c z):=λk a=>by
 rw [zq] at a
 by_cases b:g=k
 ·subst b
  rw [EW a]
  refine ⟨by show (abo ((rs.getD g Rw.zero).l.set c z):Int)=cp;rw [abK];exact (h g a).1,λy e=>?_⟩
  rcases ab4 e with f|rfl
  ·exact (h g a).2 y f
  ·exact ⟨hz,d⟩
 ·rw [IC b];exact h k a
def Sj {z:Sp} (a:g<abo x.rs):({x with rs:=aT x.rs g c z}:aF).ay=x.ay.yh g c z:=by
 unfold aF.ay bH.yh
 simp only [zjy a]
def yu (a:g<abo x.rs) (hy:x.rs.getD g Rw.zero=⟨A,m,yl⟩) (hz:yl[c]?=some z):x.ay.spot g c=z:=by
 rw [RJ a,hy,abt,hz]
 rfl
def Ns {z:Sp} (a:g<abo rs) (hy:rs.getD g Rw.zero=⟨A,m,yl⟩):(aT rs g c z).getD g Rw.zero=⟨A,m,yl.set c z⟩:=by rw [EW a,hy]
def q63 {p:Nat} {h:Sp} {pc:Nat} {pl:List Sp} {e:En} (a:g<abo x.rs) (hy:x.rs.getD g Rw.zero=⟨A,k,yl⟩) (hz:yl[c]?=some z) (i:(x.gs.getD g Gr.zero).parent=(p:Int)) (b:p<abo x.rs) (d:x.rs.getD p Rw.zero=⟨E,pc,pl⟩) (f:pl[c]?=some h) (j:(x.gs.getD g Gr.zero).weight=(m:Int)) (l:(⟨z.v,z.r,m⟩:En).woken h.floor x.aj=e):
  ({x with rs:=aT x.rs g c {z with v:=e.v,r:=e.r}}:aF).ay=l5 c x.ay g:=by
 rw [Sj a]
 unfold l5 bH.wo
 have e1:x.ay.kJ g c=⟨z.v,z.r,m⟩:=by
  unfold bH.kJ
  rw [yu a hy hz,show (x.ay.gs.getD g Gr.zero).weight=(m:Int) from j]
  rfl
 have e2:(x.ay.par g).toNat=p:=by rw [show x.ay.par g=(p:Int) from i];rfl
 rw [e1,e2,yu a hy hz,yu b d f,show x.ay.aj=x.aj from rfl,l]
def qv9 {e:En} (a:g<abo x.rs) (hy:x.rs.getD g Rw.zero=⟨A,k,yl⟩) (hz:yl[c]?=some z) (b:(x.gs.getD g Gr.zero).weight=(m:Int)) (f:(⟨z.v,z.r,m⟩:En).add d=e):
  ({x with rs:=aT x.rs g c {z with v:=e.v,r:=e.r}}:aF).ay=x.ay.wo g c ((x.ay.kJ g c).add d):=by
 rw [Sj a]
 unfold bH.wo
 have e1:x.ay.kJ g c=⟨z.v,z.r,m⟩:=by
  unfold bH.kJ
  rw [yu a hy hz,show (x.ay.gs.getD g Gr.zero).weight=(m:Int) from b]
  rfl
 rw [e1,yu a hy hz,f]
theorem aaA {e:En} (h:e.Ok) (d:Nat):(e.add d).Ok/\(e.add d).w=e.w:=by
 have a:1<=e.w/\e.w<=65536/\e.r<e.w/\(e.v<18446744073709551615\/e.r=0):=by
  have:=h.1
  grind [cB]
 have b:=h.2
 have hm:=ad1 (d*1048576+e.r) (show e.w>0 by omega)
 unfold En.add
 have f:nR=18446744073709551615:=rfl
 split
 ·refine ⟨⟨?_,by show nR<_;omega⟩,rfl⟩
  grind [cB]
 ·refine ⟨⟨?_,by show e.v+_<_;omega⟩,rfl⟩
  grind [cB]
theorem aaw {e:En} (h:e.Ok) (a cr:Nat) (b:a<18446744073709551616):(e.woken a cr).Ok/\(e.woken a cr).w=e.w:=by
 unfold En.woken
 split
 ·refine ⟨⟨?_,by show a-cr<_;omega⟩,rfl⟩
  have d:=h.1
  grind [cB]
 ·exact ⟨h,rfl⟩
theorem aaR {e:En} (h:e.Ok) (fr to:Nat) (b:to<18446744073709551616):(e.moved fr to).Ok/\(e.moved fr to).w=e.w:=by
 have a:=h.1
 unfold cB at a
 rw [decide_eq_true_eq] at a
 have d:=h.2
 have f:nR=18446744073709551615:=rfl
 have hm:uh e.v fr to<18446744073709551616:=by
  grind [uh]
 refine ⟨⟨?_,hm⟩,rfl⟩
 unfold cB
 rw [decide_eq_true_eq]
 show (1:Int)<=(e.w:Int)/\(e.w:Int)<=65536/\(((if uh e.v fr to=nR then 0 else e.r:Nat):Int))<(e.w:Int)/\(uh e.v fr to<18446744073709551615\/(if uh e.v fr to=nR then 0 else e.r)=0)
 grind
def Nv {l:List Gr} (h:dO l=true) (a:g<abo l):∃w:Nat,(l.getD g Gr.zero).weight=(w:Int)/\1<=w/\w<=65536:=by
 have:=qI h a
 exact ⟨(l.getD g Gr.zero).weight.toNat,by omega,by omega,by omega⟩
end
theorem qok {s s':bH} (ht:s.ts=s'.ts) (b:s.gs=s'.gs) (a:abo s.sp=abo s'.sp) (e:∀h,(s.spot h c).v=(s'.spot h c).v) (g:Nat):aU s g c=aU s' g c:=by
 have key:∀f g,lI s c f g=lI s' c f g:=by
  intro f
  induction f with
  |zero=>intro g;show s.ts.filterMap _=s'.ts.filterMap _;rw [ht]
  |succ f i=>
   grind [bH.par,Rt,lH,lI]
 unfold aU
 rw [a]
 exact key _ g
section
variable {x:aF} {ng nl nu nt ns g c h d:Nat} {jW:List Rw}
def jG (x:aF) (jW:List Rw) (g c:Nat):Prop:=abo jW=abo x.rs/\(∀h,(jW.getD h Rw.zero).l.length=(x.rs.getD h Rw.zero).l.length)/\∀h d,h<abo x.rs->d<(x.rs.getD h Rw.zero).l.length->(jW.getD h Rw.zero).l.getD d Sp.zero=if h<g\/h=g/\d<c then iR x.ay h d ((x.rs.getD h Rw.zero).l.getD d Sp.zero) else (x.rs.getD h Rw.zero).l.getD d Sp.zero
def q1v:jG x x.rs 0 0:=⟨rfl,λ_=>rfl,λh d _ _=>by rw [if_neg om]⟩
theorem q64 (s:bH) (g c:Nat) (z:Sp):(iR s g c z).v=z.v/\(iR s g c z).r=z.r:=by
 unfold iR
 split<;>exact ⟨rfl,rfl⟩
theorem qyo (y:aF) (h d:Nat):y.ay.spot h d=(y.rs.getD h Rw.zero).l.getD d Sp.zero:=by grind [Rw.zero,bH.spot,lJ,RJ]
theorem zjz (a:jG x jW g c) (h d:Nat):(({x with rs:=jW}:aF).ay.spot h d).v=(x.ay.spot h d).v:=by
 rw [qyo,qyo]
 show ((jW.getD h Rw.zero).l.getD d Sp.zero).v=_
 rcases ab6 h (abo x.rs) with b|b
 ·rcases ab6 d (x.rs.getD h Rw.zero).l.length with e|e
  ·rw [a.2.2 h d b e]
   split
   ·exact (q64 ..).1
   ·rfl
  ·have f:=a.2.1 h
   grind
 ·have e1:jW.getD h Rw.zero=Rw.zero:=by rw [abt,adR (by rw [a.1];exact b)];rfl
  grind
def q65 (a:jG x jW g c) (h d:Nat):aU ({x with rs:=jW}:aF).ay h d=aU x.ay h d:=
 qok (s:=({x with rs:=jW}:aF).ay) (s':=x.ay) rfl rfl (by rw [lJ,lJ];exact a.1) (λk=>zjz a k d) h
def uT {α:Type} {l:List α} {u:α} (d:α) (h:l[k]?=some u):l.getD k d=u:=by rw [abt,h];rfl
theorem q1w (a:jG x jW g c) (f:g<abo x.rs) (hc:c<(x.rs.getD g Rw.zero).l.length) {z b:Sp} (hz:(jW.getD g Rw.zero).l[c]?=some z) (k:iR x.ay g c z=b):jG x (aT jW g c b) g (c+1):=by
 have m:=a.2.2 g c f hc
 rw [if_neg om,uT Sp.zero hz] at m
 refine ⟨by rw [zq];exact a.1,λh=>?_,λh d i j=>?_⟩
 ·by_cases e:g=h
  ·subst e
   rw [EW (by rw [a.1];exact f)]
   show abo ((jW.getD g Rw.zero).l.set c b)=_
   rw [abK];exact a.2.1 g
  ·rw [IC e];exact a.2.1 h
 ·by_cases e:g=h
  ·subst e
   rw [EW (by rw [a.1];exact f)]
   show ((jW.getD g Rw.zero).l.set c b).getD d Sp.zero=_
   by_cases e2:c=d
   ·grind
   ·rw [getD_set_ne _ _ e2,a.2.2 g d i j]
    grind
  ·rw [IC e,a.2.2 h d i j]
   grind
theorem q1x (a:jG x jW g c) (hm:aU x.ay g c=[]):jG x jW g (c+1):=by
 refine ⟨a.1,a.2.1,λh d b e=>?_⟩
 rw [a.2.2 h d b e]
 grind [iR]
theorem q66 (a:jG x jW g c) (hc:(x.rs.getD g Rw.zero).l.length<=c):jG x jW (g+1) 0:=by
 refine ⟨a.1,a.2.1,λh d b e=>?_⟩
 rw [a.2.2 h d b e]
 grind
theorem q67 (a:jG x jW g 0) (m:abo x.rs<=g):({x with rs:=jW}:aF).ay=gF x.ay:=by
 have i:jW.map aeb=(x.rs.map aeb).mapIdx λg l=>l.mapIdx λc z=>iR x.ay g c z:=by
  apply ad8
  ·rw [abw,afd,abw,a.1]
  ·intro h b n
   rw [abw] at b
   have f:h<abo x.rs:=by rw [<-a.1];exact b
   rw [agM,ae2,agM]
   have e1:jW.getD h Rw.zero=jW[h]:=by rw [abt,abr b];rfl
   have e2:x.rs.getD h Rw.zero=x.rs[h]:=by rw [abt,abr f];rfl
   have e:=a.2.1 h
   rw [e1,e2] at e
   apply ad8
   ·rw [afd,e]
   ·intro d j o
    have k:d<x.rs[h].l.length:=by rw [<-e];exact j
    rw [ae2]
    have p:=a.2.2 h d f (by rw [e2];exact k)
    grind
 show (⟨x.au,x.aj,x.gs,x.cl,x.cu,x.ts,jW.map aeb⟩:bH)=_
 rw [i]
 rfl
def zj0 (a:cK x) (z:Sp):cK ({x with rs:=aT x.rs g c z}:aF):=by
 refine ⟨a.g,a.l,a.u,a.t,by show abo (aT x.rs g c z)<=_;rw [zq];exact a.s,λy i=>?_⟩
 rcases ab6 g (abo x.rs) with f|f
 ·rcases ab4 i with j|rfl
  ·exact a.r y j
  ·show abo ((x.rs.getD g Rw.zero).l.set c z)<=_
   rw [abK]
   exact a.r _ (qf Rw.zero f)
 ·have e:aT x.rs g c z=x.rs:=by unfold aT;exact List.set_eq_of_length_le f
  have b:y∈aT x.rs g c z:=i
  rw [e] at b
  exact a.r y b
theorem dY.put (h:dY x ng nl nu nt ns) (j:g<abo x.rs) (z:Sp) (hz:z.Ok) (hs:eZ x.ay g z=true):dY ({x with rs:=aT x.rs g c z}:aF) ng nl nu nt ns:=by
 have f:=Sj (x:=x) (c:=c) (z:=z) j
 have b:({x with rs:=aT x.rs g c z}:aF).ay.sp.length=abo x.ay.sp:=by rw [lJ,lJ];exact zq ..
 refine ⟨⟨h.ok.au,h.ok.aj,h.ok.gs,h.ok.cl,h.ok.cu,h.ok.ts,λl m y n=>?_⟩,zj0 h.few z,⟨h.sh.cfg,h.sh.cl,h.sh.cu,by show abo (aT x.rs g c z)=_;rw [zq];exact h.sh.rs,h.sh.cls,λk o=>?_,λi hi=>?_⟩,⟨h.ln.g,h.ln.l,h.ln.u,h.ln.t,by show abo (aT x.rs g c z)=_;rw [zq];exact h.ln.s⟩⟩
 ·rw [f] at m
  rcases ab4 (show l∈x.ay.sp.set g ((x.ay.sp.getD g []).set c z) from m) with a|rfl
  ·exact h.ok.sp l a y n
  ·rcases ab4 n with p|rfl
   ·exact h.ok.sp _ (qf [] (by rw [lJ];exact j)) y p
   ·exact hz
 ·have e:k<abo x.rs:=by have a:k<abo (aT x.rs g c z):=o;rwa [zq] at a
  have a:=CU e (h.sh.row k e)
  refine Z0 o ?_ λd q=>?_
  ·grind [Rw.zero,aT,EW,IC]
  ·have r:d<((aT x.rs g c z).getD k Rw.zero).l.length:=q
   show eZ x.ay k (((aT x.rs g c z).getD k Rw.zero).l.getD d Sp.zero)=true
   grind [Rw.zero,Sp.zero,getD_set_ne,zd,EW,IC,eZ]
 ·have a:=h.sh.tk i hi
  unfold jr eF at a⊢
  rw [b]
  exact a
end
def Y6 (b:Bk) (l:b.Ok) (A:aiW) (c B:Nat) (w:aiM) (p:aR B w) (g:B<=w.heap.size) (hr:Rd w w.heap.size 11 A (abo b.evs) (b.evs.flatMap fC)) (u:abo b.evs<=1000000):
    Calls abp 106 #[.agg (b.cells A c)] w (mh w b.err b.out):=by
 refine (fE Tryz.func106 36) ?_
 refine (JP∘JE) λP g1=>(bM 2∘JQ∘JP∘eH aG O0∘JI (h:=by exact λd=>GI b l A c B _ (p.mem d g) (d.le g) (d.old hr) u)) λQ C=>(Jp 1∘bU∘Jj) (Ju (λo=>?_) λo=>?_)
 ·
  have e:b.fits=false:=by simpa using o
  exact (JT∘bE 2∘bW) λd=>YV (by unfold Bk.err;rw [if_pos e]) de d.below
 have e:b.fits=true:=by simpa using o
 have D:=QL b
 refine (aQ∘JP∘eH aG O0∘JK (h:=by exact λd=>zcf b l A c B _ (p.mem d g) (d.le g) (d.old hr) u e)) λE F G x=>(Jp 1∘bU∘bg 1∘Jl∘Jp 1∘Jo (vI (8+(abo (b.body)):Nat)) (by exact zc om om)∘dA 4∘Jp 1∘fJ∘Jj∘bN 2∘aL∘Jj) (Ji (λr=>?_) λr=>?_)
 ·
  exact (JT∘bE 2∘bW) λd=>YV (by unfold Bk.err;rw [if_neg (by simp [e]),if_pos om]) de d.below
 refine (aQ∘aM 1∘Jv 1 [(19,vB (IntKind.u8.wrap ((8+(abo (b.body))+4:Nat):Int)))]∘Jo (vB ((8+(abo (b.body))+4)%256:Nat)) (by exact Em (8+(abo (b.body))+4))∘Jp 2∘Jo (vI ((8+(abo (b.body))+4)/256:Nat)) (by exact uI .i64 (8+(abo (b.body))+4) (j:=8) (q:=256) rfl rfl)∘Jv 1 [(22,vB (IntKind.u8.wrap (((8+(abo (b.body))+4)/256:Nat):Int)))]∘Jo (vB (((8+(abo (b.body))+4)/256)%256:Nat)) (by exact Em ((8+(abo (b.body))+4)/256))∘Jy (v:=vP 0 0) (h:=by exact Yl.tL (ad:=⟨0,0,none⟩) (m:=2) (y:=0) (sz:=1) rfl rfl rfl kr de)∘Jy (v:=vB 113) (h:=by exact Pd rfl rfl kr (λ_ h=>(p.mem h g).rQ))∘Jy (v:=vP 0 1) (h:=by exact Yl.tL (ad:=⟨0,0,none⟩) (m:=2) (y:=1) (sz:=1) rfl rfl rfl kr de)∘Jy (v:=vB 116) (h:=by exact Pd rfl rfl kr (λ_ h=>(p.mem h g).rR))∘Jg 0 O1∘JU bA #[vB ((8+(abo (b.body))+4)%256:Nat),vB (((8+(abo (b.body))+4)/256)%256:Nat),vB 0,vB 0,vB 113,vB 116,vB 1,vB b.kind]) λH I=>(Jp 1∘aJ∘bg 2∘JC (h:=by exact λd=>d.fU (i:=0) (n:=8) (size:=1) rfl rfl de)∘JD (b.body.map B8) 0 (λ_ _=>aO) bA (hr:=by exact λd=>d.rd (i:=1) rfl) (h1:=by exact tK _)) λJ K L z=>λa Z d=>?_
 rw [show ((#[vB ((8+(abo (b.body))+4)%256:Nat),vB (((8+(abo (b.body))+4)/256)%256:Nat),vB 0,vB 0,vB 113,vB 116,vB 1,vB b.kind]).toList)++(b.body.map B8)=b.raw.map B8 from q5h om] at d
 refine Jb Z d ((JK (h:=by exact λd=>QF _ _ _ b.raw B _ (p.mem d g) (d.le g) (d.rd (i:=0) rfl) (MK b) om (YU l))) λM N O s=>(Jx∘Jx∘bM 2∘JZ∘JM (.t (.f .n))) ?_)
 have k:b.err=0:=by unfold Bk.err;rw [if_neg (by simp [e]),if_neg om]
 exact (bW) λd=>by exact (by rw [k,GJ k];exact ⟨⟨_,_,rfl,d.own (i:=0) rfl,s⟩,d.below⟩)
def q01 (b:Bk) (a:b.Ok) (A:aiW) (c B:Nat) (w:aiM) (f:aR B w) (e:B<=w.heap.size) (hr:Rd w w.heap.size 11 A (abo b.evs) (b.evs.flatMap fC)) (g:abo b.evs<=1000000):
    Calls abp 45 #[.agg (b.cells A c)] w (Is w (vI (b.err:Int))):=by
 refine (fE Tryz.func45 11) ?_
 exact (JP∘JE) λj g1=>(Jp 1∘Jr∘eH aG O0∘JK (h:=by exact λd=>Y6 b a A c B _ (f.mem d e) (d.le e) (d.old hr) g)) λk l m i=>(Jp 1∘Jx∘Jx∘Jp 2∘aJ∘bg 2∘bU∘aP) tT
def EH (W w:aiM) (i k:Nat) (A:aiW) (n c:Nat) (l:List Nat) (o:Bool) (most:Nat) (fr:List aiX) (x:∀b∈l,b<256) (e:n=abo l) (D:n<=1000000000) (r:Rd W W.heap.size 1 A n (l.map B8)) (s:n<=c) (t:most<=281474976710657)
    (d:Mem W w (.blk i #[.slice A n c] 30:: .blk k #[.bool o] 4::fr)):
    Calls abp 249 #[vI most,vP i 0,vP k 0] w (YX W i k l o most fr):=by
 have q:Rd W W.heap.size 1 A (abo l) (l.map B8):=e▸r
 have hc:abo l<=c:=e▸s
 refine nP Tryz.func249 [vI most,vP i 0,vP k 0] [(0,vI most),(1,vP i 0),(2,vP k 0)] λa Z=>?_
 refine Jb Z d ((aM 1∘Jq) ?_)
 have y:=xJ l
 have z:=FM l x
 have B:=rD most l
 refine (JG∘JP∘Jc O0∘JL (h:=by exact λd=>LQ A n c l _ (e▸d.old q) x om)) ?_
 rintro d _ C ⟨rfl,u⟩
 refine ⟨_,rfl,_,d.call u,?_⟩
 refine (Jp 1∘Jx∘Jx∘Jx∘Jp 3∘Jr∘Jc O1∘Jp 1) (Ju (λf=>?_) λf=>?_)
 ·
  refine (Jp 4) (Je (λp=>?_) λp=>?_)
  ·
   exact (Jp 2∘Jw .u64∘Jp 2∘JW gu aO) λg=>(iZ∘Jr∘Jc O0∘Jp 1∘Jy (h:=by exact aaf bA (j:=((aD l).2.1)) rfl rfl rfl om)∘JW aO aO) λm=>(iZ∘bg 2∘Jw .u64∘Jy (v:=vQ (if (most:Int)<((aD l).1:Int) then (most:Int) else ((aD l).1:Int))) (h:=by exact Yl.min rfl rfl rfl)∘Jo (vQ (aA most l)) (by rw [EF])∘Jw .i64∘Jp 1∘aJ∘aP∘JC (h:=by exact λd=>d.pt (fs':=(ahS i (if c=((aD l).2.1) then A else A.map (·.add (((aD l).2.1)*1))) (n- ((aD l).2.1)) (c- ((aD l).2.1))::aiw k (decide (((aD l).1:Int)<=(most:Int)))::fr)) 2 [0,1])∘aW) λd=>QN q hc (by rw [f,acn];unfold bn;rw [ab3];simp only [decide_eq_true_eq];omega) e d
  exact (Jp 5∘JW gu aO) λg=>(iZ∘Jr∘Jc O0∘Jp 1∘Jy (h:=by exact aaf bA (j:=((aD l).2.1)) rfl rfl rfl om)∘JW aO aO) λm=>(iZ∘bg 2∘Jw .u64∘Jy (v:=vQ (if (most:Int)<((aD l).1:Int) then (most:Int) else ((aD l).1:Int))) (h:=by exact Yl.min rfl rfl rfl)∘Jo (vQ (aA most l)) (by rw [EF])∘Jw .i64∘Jp 1∘aJ∘aP∘JC (h:=by exact λd=>d.pt (fs':=(ahS i (if c=((aD l).2.1) then A else A.map (·.add (((aD l).2.1)*1))) (n- ((aD l).2.1)) (c- ((aD l).2.1))::.blk k #[.bool false] 4::fr)) 2 [0,1])∘aW) λd=>QN q hc (by rw [YW om,adx]) e d
 exact (Jv 9 [(24,.bool false)]∘JW gu aO) λg=>(vF∘Jr∘Jc O0∘Jp 1∘Jy (h:=by exact aaf bA (j:=((aD l).2.1)) rfl rfl rfl om)∘JW aO aO) λm=>(vF∘bg 2∘Jw .u64∘Jy (v:=vQ (if (most:Int)<((aD l).1:Int) then (most:Int) else ((aD l).1:Int))) (h:=by exact Yl.min rfl rfl rfl)∘Jo (vQ (aA most l)) (by rw [EF])∘Jw .i64∘Jp 1∘lq∘aP∘JC (h:=by exact λd=>d.pt (fs':=(ahS i (if c=((aD l).2.1) then A else A.map (·.add (((aD l).2.1)*1))) (n- ((aD l).2.1)) (c- ((aD l).2.1))::.blk k #[.bool false] 4::fr)) 2 [0,1])∘aW) λd=>QN q hc (by rw [f,adw]) e d
def MQ {es:List Ev} {L:Nat} (b:uO l=true) (c:0<aA 4096 (qd (qd l)))
  (d:gW ⟨(aA 281474976710656 (qd (qd (qd l))):Int),(aA 281474976710656 (qd (qd (qd (qd l)))):Int)⟩ (aA 63 l) (aA 4096 (qd (qd l)):Int) (qd (qd (qd (qd (qd l)))))=(es,L,er)) (a:er=0):
  ze l=uf (aA 63 l) (aA 281474976710656 (qd l)) (qd (qd (qd l))) (es,L,0):=by
 rw [Y0 b c d,a]
abbrev ahW:=λa=>(.blk a #[vB 0,vB 0,vI 0,vI 0,vN] 85:aiX)
abbrev aii:=λa b c=>(.blk a #[vB (1:Nat),vB b,vI c,vI 0,vN] 85:aiX)
abbrev aiq:=λa b c d e=>((9,vI a)::(18,.bool false)::(8,vP b 0)::(7,.func (.func 249) #[] #[vP c 0,vP d 0])::(6,vP d 0)::e:List (Nat×aiN))
abbrev aiE:Array aiN:=#[vB 0,vB 0,vI 0,vI 0,vN]
abbrev aiL:Array aiN:=#[vB (1:Nat),vB 0,vI 0,vI 0,vN]
def Aw (k:Nat) (hk:k=1\/k=2) (A:aiW) (n c:Nat) (l:List Nat) (B:Nat) (w:aiM) (hL:aR B w) (T:B<=w.heap.size) (hr:Rd w w.heap.size 1 A n (l.map B8)) (hc:n<=c) (hln:n=abo l) (hn:n<=100000000) (hl:∀b∈l,b<256):
    Calls abp 182 #[vB k,.slice A n c] w (Cy w (uP k l)):=by
 refine (iP Tryz.func182 99) ?_
 refine (JP∘tV) λw3 q=>(JA aiE) λw4 E=>(Jp 1∘Jr∘JA #[.bool false]) λw6 r=>(JW aO aO) λai5=>(Jr∘Jy (h:=by exact Yl.makeFunc (fst:=[]) (caps:=[vP q 0,vP r 0]) rfl rfl rfl)∘Jp 1∘aL∘bg 1∘fD #[vB k,vB 0,vI 0,vI 0,vN]∘JA aiE) λw8 F=>(JV aG aO) λQ0=>(bU∘Jj∘bN 2∘aL∘Jj) (Je (λCG=>?_) λCG=>?_)
 ·
  obtain rfl:k=2:=by omega
  refine (JT∘aM 1) λa Z d=>?_
  refine fo Z 1 rfl rfl ?_
  replace d:=d.pk (fs':=[ahS q A n c,.blk r #[.bool true] 4,.blk F #[vB (2:Nat),vB 0,vI 0,vI 0,vN] 85,ahW E]) [3,1,0,2]
  have hl1:=vJ hl
  refine zh Z (f:=249) (vs:=[vI 281474976710657]) (fst:=[]) (caps:=[vP q 0,vP r 0]) rfl rfl rfl kr rfl de (EH w _ q r A n c l true 281474976710657 [.blk F #[vB (2:Nat),vB 0,vI 0,vI 0,vN] 85,ahW E] hl hln om hr hc om d) ?_
  rintro _ Cr ⟨rfl,U,V,hr1,hc1,hm⟩
  refine ⟨_,rfl,?_⟩
  replace d:=hm
  clear Z;intro a Z
  have ht0:=rD 281474976710657 l
  have hs0:=EG l
  refine Jb Z d ((Jf 3∘JW iG og) λCJ=>(oo∘Jj) λa Z d=>?_)
  refine qy (λW X=>Fr W 99 [] [(5,.bool ((tZ l).isSome)),(18,.bool true),(8,vP F 0),(7,.func (.func 249) #[] #[vP q 0,vP r 0]),(6,vP r 0),(4,vP E 0),(3,vP q 0),(0,vB (2:Nat))]/\Mem w X [.blk q #[abl U (qd l) V] 30,aiw r (true&&bn 281474976710657 l),.blk F #[vB (2:Nat),vB 0,vI 0,vI (aA 281474976710657 l),vN] 85,.blk E #[vB (2:Nat),vB 0,vI 0,vI (aA 281474976710657 l),vN] 85]) ?_ ?_
  ·
   refine Jb Z d ((Vs (.t (.t (.t (.f .n)))) []) λGV=>(mK 0 aG O2∘Vc 1 O1∘Vp [2]) λa Z d e=>?_)
   rcases Z.tf 24 rfl with ⟨N,Z⟩|⟨N,Z⟩
   ·
    refine Vb Z d e ((Vc 3 O0∘Vl 4∘Vp [5,6,7]) λa Z d e=>?_)
    rcases Z.tf 29 rfl with ⟨O,Z⟩|⟨O,Z⟩
    ·
     have hd29:=eq_of_beq O
     refine Vb Z d e ((mK 8 aG O2∘VI 9 (.t (.t (.t (.f .n)))) (h:=by exact λd=>GI ⟨2,0,0,(aA 281474976710657 l:Int),[]⟩ (GL ht0) none 0 B _ (hL.mem d T) (d.le T) Rd.nil (by show 0<=_;omega))) λGX hbw=>(Vp [10]) λa Z d e=>?_)
     refine s_on Z 11 rfl (bS Z d 3 rfl rfl rfl rfl rfl aG rfl rfl (by simp [abX]) λP d=>?_)
     refine av (d.pk [0,1,2]) (λe=>?_)
     refine Vb Z d e ((Vp [12]∘Vd∘aJ) λa Z d=>?_)
     have Z:=Z.sp 5 (.bool ((tZ l).isSome)) rfl (congrArg abN (by rw [QO,show bn 281474976710657 l=true by simpa using N,decide_eq_true om,acn,acn]))
     exact ⟨Z.sub kr,d.pk [0,1,2,3]⟩
    have hd29:=ne_of_beq_false O
    refine ap Z (λ_=>e) [8,9,10] (bt 13 [11,12]) [(32,.bool false)] λa Z=>?_
    refine s_on Z 11 rfl (bS Z d 3 rfl rfl rfl rfl rfl aG rfl rfl (by simp [abX]) λP d=>?_)
    refine av (d.pk [0,1,2]) (λe=>?_)
    refine ap Z (λ_=>e) [12] (bt 13 []) [(5,.bool false)] λa Z=>?_
    refine qe kr ?_
    have Z:=Z.sp 5 (.bool ((tZ l).isSome)) rfl (congrArg abN (by rw [QO,decide_eq_false om,adw,adx]))
    exact ⟨Z.sub kr,d.pk [0,1,2,3]⟩
   refine ap Z (λ_=>e) [3,4,5,6,7,8,9,10] (bt 13 [11,12]) [(32,.bool false)] λa Z=>?_
   refine s_on Z 11 rfl (bS Z d 3 rfl rfl rfl rfl rfl aG rfl rfl (by simp [abX]) λP d=>?_)
   refine av (d.pk [0,1,2]) (λe=>?_)
   refine ap Z (λ_=>e) [12] (bt 13 []) [(5,.bool false)] λa Z=>?_
   refine qe kr ?_
   have Z:=Z.sp 5 (.bool ((tZ l).isSome)) rfl (congrArg abN (by rw [QO,show bn 281474976710657 l=false by simpa using N];rfl))
   exact ⟨Z.sub kr,d.pk [0,1,2,3]⟩
  clear Z d;rintro a w6 ⟨Z,d⟩
  refine Jb Z d ((JZ) (Ju (λs=>?_) λs=>?_))
  ·
   have g:=s
   intro a Z d
   exact dR rfl Z (.cellS (i:=3) Z d rfl rfl aG rfl) (.tmp Z rfl) (MN (b:=⟨2,0,0,(aA 281474976710657 l:Int),[]⟩) (A:=none) (c:=0) (by rw [YZ];exact qsc g) (acH _ _ _ _) (abu _) d.below)
  have g:=s
  intro a Z d
  exact dR rfl Z (.cellS (i:=3) Z d rfl rfl aG rfl) (.tmp Z rfl) (GK (by rw [YZ];exact ads.1 (by rw [g];decide)) rfl (by simp [abX]) d.below)
 obtain rfl:k=1:=by omega
 refine (aQ∘aM 1) λa Z d=>?_
 refine fo Z 1 rfl rfl ?_
 replace d:=d.pk (fs':=[ahS q A n c,.blk r #[.bool true] 4,.blk F aiL 85,ahW E]) [3,1,0,2]
 have hl1:=vJ hl
 refine zh Z (f:=249) (vs:=[vI 63]) (fst:=[]) (caps:=[vP q 0,vP r 0]) rfl rfl rfl kr rfl de (EH w _ q r A n c l true 63 [.blk F aiL 85,ahW E] hl hln om hr hc om d) ?_
 rintro _ Q5 ⟨rfl,U,V,hr1,hc1,hm⟩
 refine ⟨_,rfl,?_⟩
 replace d:=hm
 clear Z;intro a Z
 have ht0:=rD 63 l
 have hs0:=EG l
 refine Jb Z d ((Jv 1 [(35,vB (IntKind.u8.wrap (aA 63 l:Int)))]∘Jo (vB (aA 63 l)) (by exact Xp rfl om)∘Jp 1) λa Z d=>?_)
 refine fo Z 4 rfl rfl ?_
 replace d:=d.pk (fs':=[.blk q #[abl U (qd l) V] 30,aiw r (true&&bn 63 l),.blk F aiL 85,ahW E]) [0,1,2,3]
 have hl2:=vJ hl1
 refine zh Z (f:=249) (vs:=[vI 281474976710656]) (fst:=[]) (caps:=[vP q 0,vP r 0]) rfl rfl rfl kr rfl de (EH w _ q r U (abo (qd l)) V (qd l) (true&&bn 63 l) 281474976710656 [.blk F aiL 85,ahW E] hl1 rfl om hr1 hc1 om d) ?_
 rintro _ EJ ⟨rfl,Zc,Zd,hr2,hc2,hm⟩
 refine ⟨_,rfl,?_⟩
 replace d:=hm
 clear Z;intro a Z
 have ht1:=rD 281474976710656 (qd l)
 have hs1:=EG (qd l)
 refine Jb Z d ((Jf 1∘JW iG gu) λQ6=>(Jf 2∘JW iG iG) λai6=>(iZ∘bg 1) λa Z d=>?_)
 refine fo Z 1 rfl rfl ?_
 replace d:=d.pk (fs':=[.blk q #[abl Zc (qd (qd l)) Zd] 30,aiw r ((true&&bn 63 l)&&bn 281474976710656 (qd l)),aii F (aA 63 l) (aA 281474976710656 (qd l)),ahW E]) [0,1,2,3]
 have hl3:=vJ hl2
 refine zh Z (f:=249) (vs:=[vI 4096]) (fst:=[]) (caps:=[vP q 0,vP r 0]) rfl rfl rfl kr rfl de (EH w _ q r Zc (abo (qd (qd l))) Zd (qd (qd l)) ((true&&bn 63 l)&&bn 281474976710656 (qd l)) 4096 [aii F (aA 63 l) (aA 281474976710656 (qd l)),ahW E] hl2 rfl om hr2 hc2 om d) ?_
 rintro _ w41 ⟨rfl,Y,MR,hr3,hc3,hm⟩
 refine ⟨_,rfl,?_⟩
 replace d:=hm
 clear Z;intro a Z
 have ht2:=rD 4096 (qd (qd l))
 have hs2:=EG (qd (qd l))
 refine Jb Z d ((Jp 1∘eP∘Jj∘JQ∘JP∘Jc O1∘Jp 1) (Ju (λQ=>?_) λQ=>?_))
 ·
  have K:uO l=true:=by rw [<-tk3];exact Q
  refine (Jp 3∘fJ∘Jj) (Ji (λCu=>?_) λCu=>?_)
  ·
   refine (JT∘aM 1) λa Z d=>?_
   refine fo Z 1 rfl rfl ?_
   replace d:=d.pk (fs':=[ahS q Y (abo (qd (qd (qd l)))) MR,aiw r (((true&&bn 63 l)&&bn 281474976710656 (qd l))&&bn 4096 (qd (qd l))),aii F (aA 63 l) (aA 281474976710656 (qd l)),ahW E]) [0,1,2,3]
   have hl4:=vJ hl3
   refine zh Z (f:=249) (vs:=[vI 281474976710656]) (fst:=[]) (caps:=[vP q 0,vP r 0]) rfl rfl rfl kr rfl de (EH w _ q r Y (abo (qd (qd (qd l)))) MR (qd (qd (qd l))) (((true&&bn 63 l)&&bn 281474976710656 (qd l))&&bn 4096 (qd (qd l))) 281474976710656 [aii F (aA 63 l) (aA 281474976710656 (qd l)),ahW E] hl3 rfl om hr3 hc3 om d) ?_
   rintro _ Cx ⟨rfl,Ze,Zf,hr4,hc4,hm⟩
   refine ⟨_,rfl,?_⟩
   replace d:=hm
   clear Z;intro a Z
   have ht3:=rD 281474976710656 (qd (qd (qd l)))
   have hs3:=EG (qd (qd (qd l)))
   refine Jb Z d ((Jp 1) λa Z d=>?_)
   refine fo Z 3 rfl rfl ?_
   replace d:=d.pk (fs':=[ahS q Ze (abo (qd (qd (qd (qd l))))) Zf,aiw r ((((true&&bn 63 l)&&bn 281474976710656 (qd l))&&bn 4096 (qd (qd l)))&&bn 281474976710656 (qd (qd (qd l)))),aii F (aA 63 l) (aA 281474976710656 (qd l)),ahW E]) [0,1,2,3]
   have hl5:=vJ hl4
   refine zh Z (f:=249) (vs:=[vI 281474976710656]) (fst:=[]) (caps:=[vP q 0,vP r 0]) rfl rfl rfl kr rfl de (EH w _ q r Ze (abo (qd (qd (qd (qd l))))) Zf (qd (qd (qd (qd l)))) ((((true&&bn 63 l)&&bn 281474976710656 (qd l))&&bn 4096 (qd (qd l)))&&bn 281474976710656 (qd (qd (qd l)))) 281474976710656 [aii F (aA 63 l) (aA 281474976710656 (qd l)),ahW E] hl4 rfl om hr4 hc4 om d) ?_
   rintro _ Gn ⟨rfl,MS,MU,hr5,hc5,hm⟩
   refine ⟨_,rfl,?_⟩
   replace d:=hm
   clear Z;intro a Z
   have ht4:=rD 281474976710656 (qd (qd (qd (qd l))))
   have hs4:=EG (qd (qd (qd (qd l))))
   refine Jb Z d ((fD #[vI (aA 281474976710656 (qd (qd (qd l)))),vI (aA 281474976710656 (qd (qd (qd (qd l)))))]∘JA #[vI 0,vI 0]) λsG M=>(JV ⟨kr,kr⟩ aO) λZg=>(lq∘Jq) ?_)
   obtain ⟨es,L,er,hq⟩:∃es L er,gW ⟨(aA 281474976710656 (qd (qd (qd l))):Int),(aA 281474976710656 (qd (qd (qd (qd l)))):Int)⟩ (aA 63 l) (aA 4096 (qd (qd l)):Int) (qd (qd (qd (qd (qd l)))))=(es,L,er):=⟨_,_,_,rfl⟩
   refine (JG∘JP∘eH ⟨kr,kr⟩ O0∘Jg 1 O3∘Jp 1∘Jc O1∘JK (h:=by exact λd=>zix ⟨(aA 281474976710656 (qd (qd (qd l))):Int),(aA 281474976710656 (qd (qd (qd (qd l)))):Int)⟩ (aA 63 l) om MS (abo (qd (qd (qd (qd (qd l)))))) MU (aA 4096 (qd (qd l)):Int) (by unfold aX;omega) (qd (qd (qd (qd (qd l))))) B _ (hL.mem d T).laid (d.le T) (d.old hr5) hc5 hl5 om (.inl om) hq)) λz u GY Q7=>(Jp 1∘Jx∘Jx∘Jx∘bM 3∘JQ) λa Z d=>?_
   refine qy (λW X=>Fr W 99 [] ((81,.bool (!(decide (er=0/\(es.getD 0 Ev.zero).seq=(aA 281474976710656 (qd (qd (qd l))):Int)/\(es.getD 0 Ev.zero).time=(aA 281474976710656 (qd (qd (qd (qd l)))):Int)))))::(12,vI L)::(11,abl z es u)::(10,vP M 0)::(46,.bool true)::aiq (aA 4096 (qd (qd l))) F q r [(5,.bool false),(4,vP E 0),(3,vP q 0),(0,vB (1:Nat))])/\Mem w X [abn z es u fC 73 11,.blk M #[vI (aA 281474976710656 (qd (qd (qd l)))),vI (aA 281474976710656 (qd (qd (qd (qd l)))))] 110,ahS q MS (abo (qd (qd (qd (qd (qd l)))))) MU,aiw r (((((true&&bn 63 l)&&bn 281474976710656 (qd l))&&bn 4096 (qd (qd l)))&&bn 281474976710656 (qd (qd (qd l))))&&bn 281474976710656 (qd (qd (qd (qd l))))),aii F (aA 63 l) (aA 281474976710656 (qd l)),ahW E]) ?_ ?_
   ·
    refine Jb Z d ((Vs .n []) λGZ=>(Vp [0,1,2]) λa Z d e=>?_)
    rcases Z.tf 64 rfl with ⟨R,Z⟩|⟨R,Z⟩
    ·
     have Q8:=bne_iff_ne.1 R
     refine Vb Z d e ((Vq [3,4,5,6,7,8,9,10,11,12,13,14,15,16,17,18,19] [(81,.bool true)]∘Vd∘lq) λa Z d=>?_)
     have Z:=Z.sp 81 (.bool (!(decide (er=0/\(es.getD 0 Ev.zero).seq=(aA 281474976710656 (qd (qd (qd l))):Int)/\(es.getD 0 Ev.zero).time=(aA 281474976710656 (qd (qd (qd (qd l)))):Int))))) rfl (congrArg abN (by rw [decide_eq_false om];rfl))
     exact ⟨Z.sub kr,d.pk [0,1,2,3,4,5]⟩
    have Q8:=bne_eq_false_iff_eq.1 R
    have J:er=0:=by omega
    have S:=hq;rw [J] at S;obtain ⟨rw1,Zh,rw4⟩:=QZ (cpu:=aA 63 l) om hl5 S
    refine ap Z (λ_=>e) [3,7] (bf 20 [0,1,2,3,7]) [(69,vP M 0),(65,abl z es u)] λa Z=>?_
    revert d;revert a;repeat (first|clear Z|clear d)
    intro a Z d
    obtain ⟨C,rfl⟩:=d.rat 0 0
    refine iw Z e 4 rfl (v:=vP C 0) (Yl.indexAddr (ad:=⟨C,0,none⟩) (y:=0) (sz:=11) rfl rfl rfl om kr) λa Z=>?_
    refine ap Z (λ_=>e) [5] (bf 20 [0,1,2,3,4,5,7]) [(67,vP C 0)] λa Z=>?_
    refine iw Z e 6 rfl (v:=vI ((es.getD 0 Ev.zero).seq)) (Pd rfl rfl kr (λ_ h=>(by have:=h.qw qbv (i:=0) rfl (k:=0) (off:=0) (x:=(es.getD 0 Ev.zero)) ((getD_at Ev.zero (k:=0) (by first|omega|(simp;omega)))) rfl;simpa using this))) λa Z=>?_
    refine dH Z e 8 1 λa Z=>?_
    refine ap Z (λ_=>e) [9,10,11] (bt 20 [12,13,14,15,16,17,18,19]) [(73,.bool (((es.getD 0 Ev.zero).seq:Int) !=(aA 281474976710656 (qd (qd (qd l))):Int)))] λa Z=>?_
    refine Jb Z d (Jh (λQ9=>?_) λQ9=>?_)
    ·
     intro a Z d
     refine ap Z (λ_=>e) [12,13,14,15,16,17,18,19] (bt 20 []) [(81,.bool true)] λa Z=>?_
     refine qe kr ?_
     have Z:=Z.sp 81 (.bool (!(decide (er=0/\(es.getD 0 Ev.zero).seq=(aA 281474976710656 (qd (qd (qd l))):Int)/\(es.getD 0 Ev.zero).time=(aA 281474976710656 (qd (qd (qd (qd l)))):Int))))) rfl (congrArg abN (by rw [decide_eq_false om];rfl))
     exact ⟨Z.sub kr,d.pk [0,1,2,3,4,5]⟩
    intro a Z d
    refine ap Z (λ_=>e) [12,16] (bt 20 [13,14,15,17,18,19]) [(78,vP M 1),(74,vS C (abo es) u)] λa Z=>?_
    refine iw Z e 13 rfl (v:=vP C 0) (Yl.indexAddr (ad:=⟨C,0,none⟩) (y:=0) (sz:=11) rfl rfl rfl om kr) λa Z=>?_
    refine ap Z (λ_=>e) [14] (bt 20 [15,17,18,19]) [(76,vP C 1)] λa Z=>?_
    refine iw Z e 15 rfl (v:=vI ((es.getD 0 Ev.zero).time)) (Pd rfl rfl kr (λ_ h=>h.qw qbv (i:=0) rfl (k:=0) (off:=1) (x:=(es.getD 0 Ev.zero)) ((getD_at Ev.zero (k:=0) (by first|omega|(simp;omega)))) rfl)) λa Z=>?_
    refine dH Z e 17 1 λa Z=>?_
    refine ap Z (λ_=>e) [18,19] (bt 20 []) [(81,.bool (((es.getD 0 Ev.zero).time:Int) !=(aA 281474976710656 (qd (qd (qd (qd l)))):Int)))] λa Z=>?_
    refine qe kr ?_
    have Z:=Z.sp 81 (.bool (!(decide (er=0/\(es.getD 0 Ev.zero).seq=(aA 281474976710656 (qd (qd (qd l))):Int)/\(es.getD 0 Ev.zero).time=(aA 281474976710656 (qd (qd (qd (qd l)))):Int))))) rfl (congrArg abN (by rw [ab3,bne_iff_ne,acL,decide_eq_false_iff_not];omega))
    exact ⟨Z.sub kr,d.pk [0,1,2,3,4,5]⟩
   clear Z d;rintro a xZ ⟨Z,d⟩
   refine Jb Z d (Ju (λD=>?_) λD=>?_)
   ·
    have CK:=of_decide_eq_false ((acL _).mp D)
    have hz:¬(er=0/\(es.getD 0 Ev.zero).seq=(aA 281474976710656 (qd (qd (qd l))):Int)/\(es.getD 0 Ev.zero).time=(aA 281474976710656 (qd (qd (qd (qd l)))):Int)):=λG=>by rw [decide_eq_true G] at D;cases D
    refine (JT∘JP∘fD aiE∘JV aG rC) λGw=>(Jp 1∘aL∘aP) λa Z d=>?_
    exact dR rfl Z (.cellS (i:=5) Z d rfl rfl aG rfl) (.tmp Z rfl) (GK (by rw [Cz,Y0 K om hq];exact Y1 (λG=>hz ⟨G.1,G.2.1,G.2.2.1⟩)) rfl (by simp [abX]) d.below)
   have CK:=of_decide_eq_true ((aec _).mp D)
   have hz:er=0/\(es.getD 0 Ev.zero).seq=(aA 281474976710656 (qd (qd (qd l))):Int)/\(es.getD 0 Ev.zero).time=(aA 281474976710656 (qd (qd (qd (qd l)))):Int):=Decidable.byContradiction λG=>by rw [decide_eq_false G] at D;cases D
   have J:=hz.1
   have S:=hq;rw [J] at S;obtain ⟨rw1,Zh,rw4⟩:=QZ (cpu:=aA 63 l) om hl5 S
   refine (aQ∘Vs (.t (.t (.t (.t (.f .n))))) [6]) λyP=>(Vp [0,2]∘Vf 4 4∘Vc 1 O2∘Vy 3 (h:=by exact aaf bA (j:=L) rfl rfl rfl om)) λa Z d e=>?_
   refine s_on Z 5 rfl (eO Z d 4 λG5 d=>?_)
   refine av (d.pk [0,1,2,3,5]) (λe=>?_)
   refine s_on Z 6 rfl (eO Z d 2 λG6 d=>?_)
   refine dU kr ?_
   refine qe kr ?_
   refine qy (λW X=>Fr W 99 [] ((5,.bool ((ze l).isSome))::(81,.bool false)::(11,abl z es u)::(10,vP M 0)::(46,.bool true)::aiq (aA 4096 (qd (qd l))) F q r [(4,vP E 0),(3,vP q 0),(0,vB (1:Nat))])/\Mem w X [abn z es u fC 73 11,.blk M #[vI (aA 281474976710656 (qd (qd (qd l)))),vI (aA 281474976710656 (qd (qd (qd (qd l)))))] 110,ahS q (if MU=L then MS else MS.map (·.add (L*1))) ((abo (qd (qd (qd (qd (qd l))))))-L) (MU-L),aiw r (((((true&&bn 63 l)&&bn 281474976710656 (qd l))&&bn 4096 (qd (qd l)))&&bn 281474976710656 (qd (qd (qd l))))&&bn 281474976710656 (qd (qd (qd (qd l))))),.blk F #[vB (1:Nat),vB (aA 63 l),vI (aA 281474976710656 (qd l)),vI 0,abl z es u] 85,.blk E #[vB (1:Nat),vB (aA 63 l),vI (aA 281474976710656 (qd l)),vI 0,abl z es u] 85]) ?_ ?_
   ·
    refine Jb Z d ((Vs (.t (.t (.t (.t (.t (.f .n)))))) []) λyQ=>(Vy 0 (v:= .agg #[vB (1:Nat),vB (aA 63 l),vI (aA 281474976710656 (qd l)),vI 0,abl z es u]) (h:=by exact Pe rfl rfl aG rfl (λ_ h=>qj (h.blk (i:=4) rfl)))∘Vc 1 O3∘Vp [2]) λa Z d e=>?_)
    rcases Z.tf 90 rfl with ⟨o,Z⟩|⟨o,Z⟩
    ·
     refine Vb Z d e ((Vc 3 O2∘Vl 4∘Vp [5,6,7]) λa Z d e=>?_)
     rcases Z.tf 95 rfl with ⟨p,Z⟩|⟨p,Z⟩
     ·
      have H:=eq_of_beq p
      refine Vb Z d e ((Vy 8 (v:= .agg #[vB (1:Nat),vB (aA 63 l),vI (aA 281474976710656 (qd l)),vI 0,abl z es u]) (h:=by exact Pe rfl rfl aG rfl (λ_ h=>qj (h.blk (i:=4) rfl)))∘VI 9 (.t (.t (.t (.t (.t (.f .n)))))) (h:=by exact λd=>GI ⟨1,aA 63 l,(aA 281474976710656 (qd l):Int),0,es⟩ (vK om om Zh) z u B _ (hL.mem d T) (d.le T) (d.rd (i:=0) rfl) (by show abo es<=_;omega))) λRa hbw=>(Vp [10]) λa Z d e=>?_)
      refine s_on Z 11 rfl (bS Z d 5 rfl rfl rfl rfl rfl aG rfl rfl (by simp [abX]) λm d=>?_)
      refine av (d.pk [0,1,2,3,4]) (λe=>?_)
      refine Vb Z d e ((Vp [12]∘Vd∘aJ) λa Z d=>?_)
      have Z:=Z.sp 5 (.bool ((ze l).isSome)) rfl (congrArg abN (by rw [MQ K om hq J,QS ⟨hz.2.1,hz.2.2⟩,show (bn 281474976710656 (qd (qd (qd l)))&&bn 281474976710656 (qd (qd (qd (qd l)))))=true by have I:=o;rw [Y4 (l:=l),tk3,K,acn] at I;exact I,decide_eq_true om,acn,acn]))
      exact ⟨Z.sub kr,d.pk [0,1,2,3,4,5]⟩
     have H:=ne_of_beq_false p
     refine ap Z (λ_=>e) [8,9,10] (bt 13 [11,12]) [(98,.bool false)] λa Z=>?_
     refine s_on Z 11 rfl (bS Z d 5 rfl rfl rfl rfl rfl aG rfl rfl (by simp [abX]) λm d=>?_)
     refine av (d.pk [0,1,2,3,4]) (λe=>?_)
     refine ap Z (λ_=>e) [12] (bt 13 []) [(5,.bool false)] λa Z=>?_
     refine qe kr ?_
     have Z:=Z.sp 5 (.bool ((ze l).isSome)) rfl (congrArg abN (by rw [MQ K om hq J,QS ⟨hz.2.1,hz.2.2⟩,decide_eq_false om,adw,adx]))
     exact ⟨Z.sub kr,d.pk [0,1,2,3,4,5]⟩
    refine ap Z (λ_=>e) [3,4,5,6,7,8,9,10] (bt 13 [11,12]) [(98,.bool false)] λa Z=>?_
    refine s_on Z 11 rfl (bS Z d 5 rfl rfl rfl rfl rfl aG rfl rfl (by simp [abX]) λm d=>?_)
    refine av (d.pk [0,1,2,3,4]) (λe=>?_)
    refine ap Z (λ_=>e) [12] (bt 13 []) [(5,.bool false)] λa Z=>?_
    refine qe kr ?_
    have Z:=Z.sp 5 (.bool ((ze l).isSome)) rfl (congrArg abN (by rw [MQ K om hq J,QS ⟨hz.2.1,hz.2.2⟩,show (bn 281474976710656 (qd (qd (qd l)))&&bn 281474976710656 (qd (qd (qd (qd l)))))=false by have I:=o;rw [Y4 (l:=l),tk3,K,acn] at I;exact I,adw]))
    exact ⟨Z.sub kr,d.pk [0,1,2,3,4,5]⟩
   clear Z d;rintro a EA ⟨Z,d⟩
   refine Jb Z d ((JZ) (Ju (λs=>?_) λs=>?_))
   ·
    have g:=s
    intro a Z d
    exact dR rfl Z (.cellS (i:=5) Z d rfl rfl aG rfl) (.tmp Z rfl) (MN (b:=⟨1,aA 63 l,(aA 281474976710656 (qd l):Int),0,es⟩) (A:=z) (c:=u) (by rw [Cz];rw [MQ K om hq J] at g⊢;exact zcg g) (d.own (i:=0) rfl) Q7 d.below)
   have g:=s
   intro a Z d
   exact dR rfl Z (.cellS (i:=5) Z d rfl rfl aG rfl) (.tmp Z rfl) (GK (by rw [Cz];exact ads.1 (by rw [g];decide)) rfl (by simp [abX]) d.below)
  refine (aQ) λa Z d=>?_
  refine qy (λW X=>Fr W 99 [] ((5,.bool ((ze l).isSome))::(46,.bool false)::aiq (aA 4096 (qd (qd l))) F q r [(4,vP E 0),(3,vP q 0),(0,vB (1:Nat))])/\Mem w X [ahS q Y (abo (qd (qd (qd l)))) MR,aiw r (((true&&bn 63 l)&&bn 281474976710656 (qd l))&&bn 4096 (qd (qd l))),aii F (aA 63 l) (aA 281474976710656 (qd l)),aii E (aA 63 l) (aA 281474976710656 (qd l))]) ?_ ?_
  ·
   refine Jb Z d ((Vs (.t (.t (.t (.f .n)))) []) λyQ=>(mK 0 aG O2∘Vc 1 O1∘Vp [2]) λa Z d e=>?_)
   rcases Z.tf 90 rfl with ⟨o,Z⟩|⟨o,Z⟩
   ·
    refine Vb Z d e ((Vc 3 O0∘Vl 4∘Vp [5,6,7]) λa Z d e=>?_)
    rcases Z.tf 95 rfl with ⟨p,Z⟩|⟨p,Z⟩
    ·
     have H:=eq_of_beq p
     refine Vb Z d e ((mK 8 aG O2∘VI 9 (.t (.t (.t (.f .n)))) (h:=by exact λd=>GI ⟨1,aA 63 l,(aA 281474976710656 (qd l):Int),0,[]⟩ (vK om om (by simp)) none 0 B _ (hL.mem d T) (d.le T) Rd.nil (by show 0<=_;omega))) λRa hbw=>(Vp [10]) λa Z d e=>?_)
     refine s_on Z 11 rfl (bS Z d 3 rfl rfl rfl rfl rfl aG rfl rfl (by simp [abX]) λm d=>?_)
     refine av (d.pk [0,1,2]) (λe=>?_)
     refine Vb Z d e ((Vp [12]∘Vd∘aJ) λa Z d=>?_)
     have Z:=Z.sp 5 (.bool ((ze l).isSome)) rfl (congrArg abN (by rw [MO (l:=l) (λG=>by have h0:=G.2;omega),K,decide_eq_true om,acn,acn]))
     exact ⟨Z.sub kr,d.pk [0,1,2,3]⟩
    have H:=ne_of_beq_false p
    refine ap Z (λ_=>e) [8,9,10] (bt 13 [11,12]) [(98,.bool false)] λa Z=>?_
    refine s_on Z 11 rfl (bS Z d 3 rfl rfl rfl rfl rfl aG rfl rfl (by simp [abX]) λm d=>?_)
    refine av (d.pk [0,1,2]) (λe=>?_)
    refine ap Z (λ_=>e) [12] (bt 13 []) [(5,.bool false)] λa Z=>?_
    refine qe kr ?_
    have Z:=Z.sp 5 (.bool ((ze l).isSome)) rfl (congrArg abN (by rw [MO (l:=l) (λG=>by have h0:=G.2;omega),decide_eq_false om,adw,adx]))
    exact ⟨Z.sub kr,d.pk [0,1,2,3]⟩
   refine ap Z (λ_=>e) [3,4,5,6,7,8,9,10] (bt 13 [11,12]) [(98,.bool false)] λa Z=>?_
   refine s_on Z 11 rfl (bS Z d 3 rfl rfl rfl rfl rfl aG rfl rfl (by simp [abX]) λm d=>?_)
   refine av (d.pk [0,1,2]) (λe=>?_)
   refine ap Z (λ_=>e) [12] (bt 13 []) [(5,.bool false)] λa Z=>?_
   refine qe kr ?_
   have Z:=Z.sp 5 (.bool ((ze l).isSome)) rfl (congrArg abN (by have I:=o;rw [tk3] at I;rw [MO (l:=l) (λG=>by have h0:=G.2;omega),I,adw]))
   exact ⟨Z.sub kr,d.pk [0,1,2,3]⟩
  clear Z d;rintro a EA ⟨Z,d⟩
  refine Jb Z d ((JZ) (Ju (λs=>?_) λs=>?_))
  ·
   have g:=s
   intro a Z d
   exact dR rfl Z (.cellS (i:=3) Z d rfl rfl aG rfl) (.tmp Z rfl) (MN (b:=⟨1,aA 63 l,(aA 281474976710656 (qd l):Int),0,[]⟩) (A:=none) (c:=0) (by rw [Cz];exact Y2 (λG=>by have h0:=G.2;omega) g) (acH _ _ _ _) (abu _) d.below)
  have g:=s
  intro a Z d
  exact dR rfl Z (.cellS (i:=3) Z d rfl rfl aG rfl) (.tmp Z rfl) (GK (by rw [Cz];exact ads.1 (by rw [g];decide)) rfl (by simp [abX]) d.below)
 have K:uO l=false:=by rw [<-tk3];exact Q
 refine (Jp 3∘fJ∘Jj∘aQ) λa Z d=>?_
 refine qy (λW X=>Fr W 99 [] ((5,.bool ((ze l).isSome))::(46,.bool false)::aiq (aA 4096 (qd (qd l))) F q r [(4,vP E 0),(3,vP q 0),(0,vB (1:Nat))])/\Mem w X [ahS q Y (abo (qd (qd (qd l)))) MR,aiw r (((true&&bn 63 l)&&bn 281474976710656 (qd l))&&bn 4096 (qd (qd l))),aii F (aA 63 l) (aA 281474976710656 (qd l)),aii E (aA 63 l) (aA 281474976710656 (qd l))]) ?_ ?_
 ·
  refine Jb Z d ((Vs (.t (.t (.t (.f .n)))) []) λyQ=>(mK 0 aG O2∘Vc 1 O1∘Vp [2]) λa Z d e=>?_)
  rcases Z.tf 90 rfl with ⟨o,Z⟩|⟨o,Z⟩
  ·
   refine Vb Z d e ((Vc 3 O0∘Vl 4∘Vp [5,6,7]) λa Z d e=>?_)
   rcases Z.tf 95 rfl with ⟨p,Z⟩|⟨p,Z⟩
   ·
    have H:=eq_of_beq p
    refine Vb Z d e ((mK 8 aG O2∘VI 9 (.t (.t (.t (.f .n)))) (h:=by exact λd=>GI ⟨1,aA 63 l,(aA 281474976710656 (qd l):Int),0,[]⟩ (vK om om (by simp)) none 0 B _ (hL.mem d T) (d.le T) Rd.nil (by show 0<=_;omega))) λRa hbw=>(Vp [10]) λa Z d e=>?_)
    refine s_on Z 11 rfl (bS Z d 3 rfl rfl rfl rfl rfl aG rfl rfl (by simp [abX]) λm d=>?_)
    refine av (d.pk [0,1,2]) (λe=>?_)
    refine Vb Z d e ((Vp [12]∘Vd∘aJ) λa Z d=>?_)
    have Z:=Z.sp 5 (.bool ((ze l).isSome)) rfl (congrArg abN (by have I:=o;rw [tk3,K] at I;cases I))
    exact ⟨Z.sub kr,d.pk [0,1,2,3]⟩
   have H:=ne_of_beq_false p
   refine ap Z (λ_=>e) [8,9,10] (bt 13 [11,12]) [(98,.bool false)] λa Z=>?_
   refine s_on Z 11 rfl (bS Z d 3 rfl rfl rfl rfl rfl aG rfl rfl (by simp [abX]) λm d=>?_)
   refine av (d.pk [0,1,2]) (λe=>?_)
   refine ap Z (λ_=>e) [12] (bt 13 []) [(5,.bool false)] λa Z=>?_
   refine qe kr ?_
   have Z:=Z.sp 5 (.bool ((ze l).isSome)) rfl (congrArg abN (by have I:=o;rw [tk3,K] at I;cases I))
   exact ⟨Z.sub kr,d.pk [0,1,2,3]⟩
  refine ap Z (λ_=>e) [3,4,5,6,7,8,9,10] (bt 13 [11,12]) [(98,.bool false)] λa Z=>?_
  refine s_on Z 11 rfl (bS Z d 3 rfl rfl rfl rfl rfl aG rfl rfl (by simp [abX]) λm d=>?_)
  refine av (d.pk [0,1,2]) (λe=>?_)
  refine ap Z (λ_=>e) [12] (bt 13 []) [(5,.bool false)] λa Z=>?_
  refine qe kr ?_
  have Z:=Z.sp 5 (.bool ((ze l).isSome)) rfl (congrArg abN (by have I:=o;rw [tk3] at I;rw [MO (l:=l) (λG=>by rw [K] at G;cases G.1),I,adw]))
  exact ⟨Z.sub kr,d.pk [0,1,2,3]⟩
 clear Z d;rintro a EA ⟨Z,d⟩
 refine Jb Z d ((JZ) (Ju (λs=>?_) λs=>?_))
 ·
  have g:=s
  intro a Z d
  exact dR rfl Z (.cellS (i:=3) Z d rfl rfl aG rfl) (.tmp Z rfl) (MN (b:=⟨1,aA 63 l,(aA 281474976710656 (qd l):Int),0,[]⟩) (A:=none) (c:=0) (by rw [Cz];exact Y2 (λG=>by rw [K] at G;cases G.1) g) (acH _ _ _ _) (abu _) d.below)
 have g:=s
 intro a Z d
 exact dR rfl Z (.cellS (i:=3) Z d rfl rfl aG rfl) (.tmp Z rfl) (GK (by rw [Cz];exact ads.1 (by rw [g];decide)) rfl (by simp [abX]) d.below)
abbrev ahX:=λa b c d e f g h=>((7,vP a 0)::(40,.bool false)::(34,.bool false)::(26,.bool false)::(21,.bool false)::(0,.slice (some ⟨b,c,none⟩) d e)::(15,.bool false)::(6,vI f)::(5,vI d)::(4,vI 0)::(3,vI 0)::(2,vP g 0)::h:List (Nat×aiN))
def q5o (A:aiW) (n cp:Nat) (l:List Nat) (B:Nat) (w:aiM) (R:aR B w) (D:B<=w.heap.size) (hr:Rd w w.heap.size 1 A n (l.map B8)) (hc:n<=cp) (hln:abo l=n) (hn:n<=9223372036854775807) (hl:∀b∈l,b<256):
    Calls abp 134 #[.slice A n cp] w (QT 73 w (dJ l)):=by
 refine (fE Tryz.func134 68) ?_
 refine (JP∘JA aiE) λw2 S=>(Jp 2∘bg 1∘JI (h:=by exact λc=>q00 A n cp l _ (c.old hr) hln hn hl)) λuM E=>(Jp 1∘Jx∘Jx∘bM 2∘bN 2∘aL∘Jj) (Jh (λCO=>?_) λCO=>?_)
 ·
  refine (JT∘JP∘fD aiE∘Jp 1∘JV aG aO) λRb=>(bM 2∘JZ) λa Z c=>?_
  exact iq rfl Z (.cellS (i:=0) Z c rfl rfl aG rfl) (.tmp Z rfl) (.tmp Z rfl) (Av (q5k om) c.below)
 have C:(bq l).2=0:=by omega
 obtain ⟨v1,v2,v3,v4⟩:=Y7 C
 obtain ⟨d,u⟩:∃x,x=l.take (bq l).1:=⟨_,rfl⟩
 have o:Rd w w.heap.size 1 A (bq l).1 (d.map B8):=by rw [u];exact hr.BU om
 have p:∀b∈d,b<256:=by rw [u];exact vD hl _
 have F:abo d=(bq l).1:=by rw [u,abx];omega
 refine (aQ∘aM 2∘Jy (h:=by exact aah bA (j:=(bq l).1) rfl rfl rfl om)∘Jp 1∘eP∘Jq) ?_
 obtain ⟨gA,g,rfl,_⟩:=o.sat 0
 refine (JG∘JQ∘JB∘aM 1∘JI (h:=by exact λc=>QG _ (bq l).1 cp d B _ (R.mem c D) (c.le D) (c.old o) om F om p)) λQk E=>(Jp 2∘eP∘Jj) (Ju (λN=>?_) λN=>?_)
 ·
  have hs:zn d=false:=by simpa using N
  refine (JT∘JP∘fD aiE∘JV aG aO) λGu=>(bM 2∘JZ) λa Z c=>?_
  exact iq rfl Z (.cellS (i:=0) Z c rfl rfl aG rfl) (.tmp Z rfl) (.tmp Z rfl) (Av (CB C u (by unfold gB;rw [if_pos hs])) c.below)
 have hs:zn d=true:=by simpa using N
 refine (JF) λa Z c=>?_
 refine wp_seq ?_
 refine Jb Z c ((Vs .n []) λYa=>(Vp [0]∘Vy 1 (v:= .slice (if cp=4 then some ⟨gA,g,none⟩ else (some ⟨gA,g,none⟩:aiW).map (·.add (4*1))) (6-4) (cp-4)) (h:=by exact aam bA (i:=4) (j:=6) rfl rfl rfl rfl om om)∘Vo (.slice (some ⟨gA,g+4,none⟩) (6-4) (cp-4)) (by simp only [if_neg (show ¬cp=4 by omega),Option.map_some,acI,Nat.mul_one])∘Vy 2 (v:=vP gA (g+4)) (h:=by exact Yl.arrayAt (k:=2) rfl rfl kr om)∘Vy 3 (v:= .agg #[vB (d.getD 4 0),vB (d.getD 5 0)]) (h:=by exact Pe rfl rfl Au rfl (λ_ h=>zm9 (k:=4) (l:=d) (h.old o) om))∘Vy 4 (v:= .agg #[vB 113,vB 116]) (h:=by exact Pe rfl rfl Au rfl (λ_ h=>zca R h D))∘Vy 5 (v:= .bool (!(((d.getD 4 0:Int)==(113:Int))&& ((d.getD 5 0:Int)==(116:Int))))) (h:=by exact aaX rfl rfl rfl kr kr)∘Vp [6]∘Vd∘aJ) (Ju (λO=>?_) λO=>?_))
 ·
  simp only [acL,Bool.and_eq_false_iff,beq_eq_false_iff_ne] at O
  have G:¬(d.getD 4 0=113/\d.getD 5 0=116):=by omega
  refine (JT∘JP∘fD aiE∘JV aG aO) λCq=>(bM 2∘JZ) λa Z c=>?_
  exact iq rfl Z (.cellS (i:=0) Z c rfl rfl aG rfl) (.tmp Z rfl) (.tmp Z rfl) (Av (CB C u (by unfold gB;rw [if_neg (by rw [hs];decide),if_pos G])) c.below)
 simp only [aec,abG,beq_iff_eq] at O
 have G:d.getD 4 0=113/\d.getD 5 0=116:=by omega
 refine (JF∘aM 1∘Jy (v:=vP gA (g+6)) (h:=by exact Yl.indexAddr (ad:=⟨gA,g,none⟩) (y:=6) (sz:=1) rfl rfl rfl om kr)∘JH (getD_lt p (k:=6) (by first|omega|(simp;omega)))) λhx1=>(Jy (h:=by exact aad o 6 0 (by first|omega|(simp;omega)) rfl rfl)∘Jp 2∘fJ∘Jj) (Jh (λhd34=>?_) λhd34=>?_)
 ·
  refine (JT∘JP∘fD aiE∘JV aG aO) λAq=>(bM 2∘JZ) λa Z c=>?_
  exact iq rfl Z (.cellS (i:=0) Z c rfl rfl aG rfl) (.tmp Z rfl) (.tmp Z rfl) (Av (CB C u (by unfold gB;rw [if_neg (by rw [hs];decide),if_neg (λL=>L G),if_pos om])) c.below)
 refine (JF∘aM 1∘Jy (v:=vP gA (g+7)) (h:=by exact Yl.indexAddr (ad:=⟨gA,g,none⟩) (y:=7) (sz:=1) rfl rfl rfl om kr)∘JH (getD_lt p (k:=7) (by first|omega|(simp;omega)))) λhx2=>(Jy (h:=by exact aad o 7 0 (by first|omega|(simp;omega)) rfl rfl)∘Jp 2) (Jh (λvL=>?_) λvL=>?_)
 ·
  refine (Jp 1∘Jy (v:=vP gA (g+7)) (h:=by exact Yl.indexAddr (ad:=⟨gA,g,none⟩) (y:=7) (sz:=1) rfl rfl rfl om kr)∘JH (getD_lt p (k:=7) (by first|omega|(simp;omega)))) λhx3=>(Jy (h:=by exact aad o 7 0 (by first|omega|(simp;omega)) rfl rfl)∘Jp 3∘aJ∘Jq) λa Z c=>?_
  rcases hp:uP (d.getD 7 0) ((d.take (abo d-4)).drop 8) with _|b
  ·
   refine Jb Z c (Jh (λP=>?_) λP=>?_)
   ·
    have r:d.getD 7 0≠1/\d.getD 7 0≠2:=by omega
    refine (JT∘JP∘fD aiE∘JV aG aO) λT=>(bM 2∘JZ) λa Z c=>?_
    exact iq rfl Z (.cellS (i:=0) Z c rfl rfl aG rfl) (.tmp Z rfl) (.tmp Z rfl) (Av (CB C u (by unfold gB;rw [if_neg (by rw [hs];decide),if_neg (λL=>L G),if_neg om,if_pos r])) c.below)
   have r:d.getD 7 0=1\/d.getD 7 0=2:=by omega
   refine (aQ) λa Z c=>?_
   refine qy (λU V=>∃(H:Array aiN) (q:Nat),Fr U 68 [] ((8,.bool false)::ahX q gA g ((bq l).1) cp ((bq l).2) S [])/\Mem w V [.blk q H 85,ahW S]/\(H.size=5)/\(∀v∈H.toList,v.oneCell'=true)) ?_ ?_
   ·
    refine Jb Z c ((Vs .n [12]) λQ=>(Vp [0,3,4]∘Vy 1 (v:=vP gA (g+7)) (h:=by exact Yl.indexAddr (ad:=⟨gA,g,none⟩) (y:=7) (sz:=1) rfl rfl rfl om kr)∘VH (getD_lt p (k:=7) (by first|omega|(simp;omega)))) λhx8=>(Vy 2 (h:=by exact aad o 7 0 (by first|omega|(simp;omega)) rfl rfl)∘Ez 5 4∘Vy 6 (v:= .slice (if cp=8 then some ⟨gA,g,none⟩ else (some ⟨gA,g,none⟩:aiW).map (·.add (8*1))) (((bq l).1-4)-8) (cp-8)) (h:=by exact aam bA (i:=8) (j:=(bq l).1-4) rfl rfl rfl rfl om om)) λa Z c s=>?_)
    refine zf [7,11] kr rfl ?_
    refine all_cons ?_ ?_
    ·refine qu Z (i:=7) rfl rfl ?_
     refine lF Z [vB (d.getD 7 0),.slice (if cp=8 then some ⟨gA,g,none⟩ else (some ⟨gA,g,none⟩:aiW).map (·.add (8*1))) (((bq l).1-4)-8) (cp-8)] rfl rfl ((Aw (d.getD 7 0) r _ (((bq l).1-4)-8) (cp-8) ((d.take (abo d-4)).drop 8) B _ (R.mem c D) (c.le D) (c.old (by rw [F];exact o.xR (i:=8) (j:=(bq l).1-4) om om om)) om (by rw [abE,abx];omega) om (xU (vD p _) _)).mono (λ_ _ h=>h.none hp)) ?_
     rintro _ J ⟨⟨H,rfl,t,M⟩,E⟩
     refine ⟨_,rfl,?_⟩
     replace c:=c.call E
     clear Z;intro a Z
     refine av (c.pk [0]) (λs=>?_)
     refine Vb Z c s ((Vp [8]∘Vx 9∘Vx 10∘VA 11 .n aiE) λW q=>λa Z c s=>?_)
     refine s_on Z 12 rfl (bS Z c 0 rfl rfl rfl rfl rfl aG rfl t (M) λm c=>?_)
     refine dU kr ?_
     refine ap Z (bZ kr) [13] (bt 14 []) [(8,.bool false)] λa Z=>?_
     refine qe kr ?_
     exact ⟨H,q,Z.sub kr,c.pk [0,1],t,M⟩
    refine all_cons ?_ all_nil
    refine qu Z (i:=11) rfl rfl ?_
    refine gX Z c aiE ?_
    clear Z c;intro a W q Z c
    refine av (c.pk [1]) (λs=>?_)
    refine s_on Z 7 rfl ?_
    refine lF Z [vB (d.getD 7 0),.slice (if cp=8 then some ⟨gA,g,none⟩ else (some ⟨gA,g,none⟩:aiW).map (·.add (8*1))) (((bq l).1-4)-8) (cp-8)] rfl rfl ((Aw (d.getD 7 0) r _ (((bq l).1-4)-8) (cp-8) ((d.take (abo d-4)).drop 8) B _ (R.mem c D) (c.le D) (c.old (by rw [F];exact o.xR (i:=8) (j:=(bq l).1-4) om om om)) om (by rw [abE,abx];omega) om (xU (vD p _) _)).mono (λ_ _ h=>h.none hp)) ?_
    rintro _ J ⟨⟨H,rfl,t,M⟩,E⟩
    refine ⟨_,rfl,?_⟩
    replace c:=c.call E
    clear Z;intro a Z
    refine av (c.pk [1]) (λs=>?_)
    refine Vb Z c s ((Vp [8]∘Vx 9∘Vx 10) λa Z c s=>?_)
    refine s_on Z 12 rfl (bS Z c 0 rfl rfl rfl rfl rfl aG rfl t (M) λm c=>?_)
    refine dU kr ?_
    refine ap Z (bZ kr) [13] (bt 14 []) [(8,.bool false)] λa Z=>?_
    refine qe kr ?_
    exact ⟨H,q,Z.sub kr,c.pk [0,1],t,M⟩
   clear Z c;rintro a X ⟨H,q,Z,c,t,M⟩
   refine Jb Z c ((bN 2∘bU∘Jj∘JT∘JP∘fD aiE∘JV aG gu) λY=>(bM 2∘JZ) λa Z c=>?_)
   exact iq rfl Z (.cellS (i:=1) Z c rfl rfl aG rfl) (.tmp Z rfl) (.tmp Z rfl) (Av (CB C u (by unfold gB;rw [if_neg (by rw [hs];decide),if_neg (λL=>L G),if_neg om,if_neg om,hp])) c.below)
  ·
   refine Jb Z c (Jh (λP=>?_) λP=>?_)
   ·
    have r:d.getD 7 0≠1/\d.getD 7 0≠2:=by omega
    refine (JT∘JP∘fD aiE∘JV aG aO) λT=>(bM 2∘JZ) λa Z c=>?_
    exact iq rfl Z (.cellS (i:=0) Z c rfl rfl aG rfl) (.tmp Z rfl) (.tmp Z rfl) (Av (CB C u (by unfold gB;rw [if_neg (by rw [hs];decide),if_neg (λL=>L G),if_neg om,if_pos r])) c.below)
   have r:d.getD 7 0=1\/d.getD 7 0=2:=by omega
   refine (aQ) λa Z c=>?_
   refine qy (λU V=>∃(K:aiW) (I:Nat) (q:Nat),Fr U 68 [] ((8,.bool true)::ahX q gA g ((bq l).1) cp ((bq l).2) S [])/\Mem w V [.blk q (b.cells K I) 85,abn K b.evs I fC 73 11,ahW S]/\(abo b.evs<=I)) ?_ ?_
   ·
    refine Jb Z c ((Vs .n [12]) λQ=>(Vp [0,3,4]∘Vy 1 (v:=vP gA (g+7)) (h:=by exact Yl.indexAddr (ad:=⟨gA,g,none⟩) (y:=7) (sz:=1) rfl rfl rfl om kr)∘VH (getD_lt p (k:=7) (by first|omega|(simp;omega)))) λajd=>(Vy 2 (h:=by exact aad o 7 0 (by first|omega|(simp;omega)) rfl rfl)∘Ez 5 4∘Vy 6 (v:= .slice (if cp=8 then some ⟨gA,g,none⟩ else (some ⟨gA,g,none⟩:aiW).map (·.add (8*1))) (((bq l).1-4)-8) (cp-8)) (h:=by exact aam bA (i:=8) (j:=(bq l).1-4) rfl rfl rfl rfl om om)) λa Z c s=>?_)
    refine zf [7,11] kr rfl ?_
    refine all_cons ?_ ?_
    ·refine qu Z (i:=7) rfl rfl ?_
     refine Cj Z c [vB (d.getD 7 0),.slice (if cp=8 then some ⟨gA,g,none⟩ else (some ⟨gA,g,none⟩:aiW).map (·.add (8*1))) (((bq l).1-4)-8) (cp-8)] ((Aw (d.getD 7 0) r _ (((bq l).1-4)-8) (cp-8) ((d.take (abo d-4)).drop 8) B _ (R.mem c D) (c.le D) (c.old (by rw [F];exact o.xR (i:=8) (j:=(bq l).1-4) om om om)) om (by rw [abE,abx];omega) om (xU (vD p _) _)).mono (λ_ _ h=>h.some hp)) λK I J z c a Z=>?_
     refine av (c.pk [1]) (λs=>?_)
     refine Vb Z c s ((Vp [8]∘Vx 9∘Vx 10∘VA 11 (.f .n) aiE) λW q=>λa Z c s=>?_)
     refine s_on Z 12 rfl (bS Z c 0 rfl rfl rfl rfl rfl aG rfl rfl (uQ _ _ _) λm c=>?_)
     refine dU kr ?_
     refine ap Z (bZ kr) [13] (bt 14 []) [(8,.bool true)] λa Z=>?_
     refine qe kr ?_
     exact ⟨K,I,q,Z.sub kr,c.pk [0,1,2],z⟩
    refine all_cons ?_ all_nil
    refine qu Z (i:=11) rfl rfl ?_
    refine gX Z c aiE ?_
    clear Z c;intro a W q Z c
    refine av (c.pk [1]) (λs=>?_)
    refine Vb Z c s ((VK 7 (.f .n) (h:=by exact λc=>(Aw (d.getD 7 0) r _ (((bq l).1-4)-8) (cp-8) ((d.take (abo d-4)).drop 8) B _ (R.mem c D) (c.le D) (c.old (by rw [F];exact o.xR (i:=8) (j:=(bq l).1-4) om om om)) om (by rw [abE,abx];omega) om (xU (vD p _) _)).mono (λ_ _ h=>h.some hp))) λK I J z=>(Vp [8]∘Vx 9∘Vx 10) λa Z c s=>?_)
    refine s_on Z 12 rfl (bS Z c 1 rfl rfl rfl rfl rfl aG rfl rfl (uQ _ _ _) λm c=>?_)
    refine dU kr ?_
    refine ap Z (bZ kr) [13] (bt 14 []) [(8,.bool true)] λa Z=>?_
    refine qe kr ?_
    exact ⟨K,I,q,Z.sub kr,c.pk [1,0,2],z⟩
   clear Z c;rintro a X ⟨K,I,q,Z,c,z⟩
   refine Jb Z c ((bN 2∘bU∘Jj∘aQ∘JP∘eH aG O0∘Jp 1∘JV aG iG (h1:=by exact uQ _ _ _)) λAy=>(bM 2∘JZ) λa Z c=>?_)
   exact iq rfl Z (.cellS (i:=2) Z c rfl rfl aG rfl) (.tmp Z rfl) (.tmp Z rfl) (Y3 (QU (e:=0) C u (by unfold gB;rw [if_neg (by rw [hs];decide),if_neg (λL=>L G),if_neg om,if_neg om,hp])) (c.own (i:=1) rfl) z c.below)
 have r:d.getD 7 0=1\/d.getD 7 0=2:=by omega
 refine (Jp 6∘aJ∘Jq) λa Z c=>?_
 rcases hp:uP (d.getD 7 0) ((d.take (abo d-4)).drop 8) with _|b
 ·
  refine Jb Z c ((JG∘aQ) λa Z c=>?_)
  refine qy (λU V=>∃(H:Array aiN) (q:Nat),Fr U 68 [] ((8,.bool false)::ahX q gA g ((bq l).1) cp ((bq l).2) S [])/\Mem w V [.blk q H 85,ahW S]/\(H.size=5)/\(∀v∈H.toList,v.oneCell'=true)) ?_ ?_
  ·
   refine Jb Z c ((Vs .n [12]) λQ=>(Vp [0,3,4]∘Vy 1 (v:=vP gA (g+7)) (h:=by exact Yl.indexAddr (ad:=⟨gA,g,none⟩) (y:=7) (sz:=1) rfl rfl rfl om kr)∘VH (getD_lt p (k:=7) (by first|omega|(simp;omega)))) λhx16=>(Vy 2 (h:=by exact aad o 7 0 (by first|omega|(simp;omega)) rfl rfl)∘Ez 5 4∘Vy 6 (v:= .slice (if cp=8 then some ⟨gA,g,none⟩ else (some ⟨gA,g,none⟩:aiW).map (·.add (8*1))) (((bq l).1-4)-8) (cp-8)) (h:=by exact aam bA (i:=8) (j:=(bq l).1-4) rfl rfl rfl rfl om om)) λa Z c s=>?_)
   refine zf [7,11] kr rfl ?_
   refine all_cons ?_ ?_
   ·refine qu Z (i:=7) rfl rfl ?_
    refine lF Z [vB (d.getD 7 0),.slice (if cp=8 then some ⟨gA,g,none⟩ else (some ⟨gA,g,none⟩:aiW).map (·.add (8*1))) (((bq l).1-4)-8) (cp-8)] rfl rfl ((Aw (d.getD 7 0) r _ (((bq l).1-4)-8) (cp-8) ((d.take (abo d-4)).drop 8) B _ (R.mem c D) (c.le D) (c.old (by rw [F];exact o.xR (i:=8) (j:=(bq l).1-4) om om om)) om (by rw [abE,abx];omega) om (xU (vD p _) _)).mono (λ_ _ h=>h.none hp)) ?_
    rintro _ J ⟨⟨H,rfl,t,M⟩,E⟩
    refine ⟨_,rfl,?_⟩
    replace c:=c.call E
    clear Z;intro a Z
    refine av (c.pk [0]) (λs=>?_)
    refine Vb Z c s ((Vp [8]∘Vx 9∘Vx 10∘VA 11 .n aiE) λW q=>λa Z c s=>?_)
    refine s_on Z 12 rfl (bS Z c 0 rfl rfl rfl rfl rfl aG rfl t (M) λm c=>?_)
    refine dU kr ?_
    refine ap Z (bZ kr) [13] (bt 14 []) [(8,.bool false)] λa Z=>?_
    refine qe kr ?_
    exact ⟨H,q,Z.sub kr,c.pk [0,1],t,M⟩
   refine all_cons ?_ all_nil
   refine qu Z (i:=11) rfl rfl ?_
   refine gX Z c aiE ?_
   clear Z c;intro a W q Z c
   refine av (c.pk [1]) (λs=>?_)
   refine s_on Z 7 rfl ?_
   refine lF Z [vB (d.getD 7 0),.slice (if cp=8 then some ⟨gA,g,none⟩ else (some ⟨gA,g,none⟩:aiW).map (·.add (8*1))) (((bq l).1-4)-8) (cp-8)] rfl rfl ((Aw (d.getD 7 0) r _ (((bq l).1-4)-8) (cp-8) ((d.take (abo d-4)).drop 8) B _ (R.mem c D) (c.le D) (c.old (by rw [F];exact o.xR (i:=8) (j:=(bq l).1-4) om om om)) om (by rw [abE,abx];omega) om (xU (vD p _) _)).mono (λ_ _ h=>h.none hp)) ?_
   rintro _ J ⟨⟨H,rfl,t,M⟩,E⟩
   refine ⟨_,rfl,?_⟩
   replace c:=c.call E
   clear Z;intro a Z
   refine av (c.pk [1]) (λs=>?_)
   refine Vb Z c s ((Vp [8]∘Vx 9∘Vx 10) λa Z c s=>?_)
   refine s_on Z 12 rfl (bS Z c 0 rfl rfl rfl rfl rfl aG rfl t (M) λm c=>?_)
   refine dU kr ?_
   refine ap Z (bZ kr) [13] (bt 14 []) [(8,.bool false)] λa Z=>?_
   refine qe kr ?_
   exact ⟨H,q,Z.sub kr,c.pk [0,1],t,M⟩
  clear Z c;rintro a X ⟨H,q,Z,c,t,M⟩
  refine Jb Z c ((bN 2∘bU∘Jj∘JT∘JP∘fD aiE∘JV aG gu) λY=>(bM 2∘JZ) λa Z c=>?_)
  exact iq rfl Z (.cellS (i:=1) Z c rfl rfl aG rfl) (.tmp Z rfl) (.tmp Z rfl) (Av (CB C u (by unfold gB;rw [if_neg (by rw [hs];decide),if_neg (λL=>L G),if_neg om,if_neg om,hp])) c.below)
 ·
  refine Jb Z c ((JG∘aQ) λa Z c=>?_)
  refine qy (λU V=>∃(K:aiW) (I:Nat) (q:Nat),Fr U 68 [] ((8,.bool true)::ahX q gA g ((bq l).1) cp ((bq l).2) S [])/\Mem w V [.blk q (b.cells K I) 85,abn K b.evs I fC 73 11,ahW S]/\(abo b.evs<=I)) ?_ ?_
  ·
   refine Jb Z c ((Vs .n [12]) λQ=>(Vp [0,3,4]∘Vy 1 (v:=vP gA (g+7)) (h:=by exact Yl.indexAddr (ad:=⟨gA,g,none⟩) (y:=7) (sz:=1) rfl rfl rfl om kr)∘VH (getD_lt p (k:=7) (by first|omega|(simp;omega)))) λaje=>(Vy 2 (h:=by exact aad o 7 0 (by first|omega|(simp;omega)) rfl rfl)∘Ez 5 4∘Vy 6 (v:= .slice (if cp=8 then some ⟨gA,g,none⟩ else (some ⟨gA,g,none⟩:aiW).map (·.add (8*1))) (((bq l).1-4)-8) (cp-8)) (h:=by exact aam bA (i:=8) (j:=(bq l).1-4) rfl rfl rfl rfl om om)) λa Z c s=>?_)
   refine zf [7,11] kr rfl ?_
   refine all_cons ?_ ?_
   ·refine qu Z (i:=7) rfl rfl ?_
    refine Cj Z c [vB (d.getD 7 0),.slice (if cp=8 then some ⟨gA,g,none⟩ else (some ⟨gA,g,none⟩:aiW).map (·.add (8*1))) (((bq l).1-4)-8) (cp-8)] ((Aw (d.getD 7 0) r _ (((bq l).1-4)-8) (cp-8) ((d.take (abo d-4)).drop 8) B _ (R.mem c D) (c.le D) (c.old (by rw [F];exact o.xR (i:=8) (j:=(bq l).1-4) om om om)) om (by rw [abE,abx];omega) om (xU (vD p _) _)).mono (λ_ _ h=>h.some hp)) λK I J z c a Z=>?_
    refine av (c.pk [1]) (λs=>?_)
    refine Vb Z c s ((Vp [8]∘Vx 9∘Vx 10∘VA 11 (.f .n) aiE) λW q=>λa Z c s=>?_)
    refine s_on Z 12 rfl (bS Z c 0 rfl rfl rfl rfl rfl aG rfl rfl (uQ _ _ _) λm c=>?_)
    refine dU kr ?_
    refine ap Z (bZ kr) [13] (bt 14 []) [(8,.bool true)] λa Z=>?_
    refine qe kr ?_
    exact ⟨K,I,q,Z.sub kr,c.pk [0,1,2],z⟩
   refine all_cons ?_ all_nil
   refine qu Z (i:=11) rfl rfl ?_
   refine gX Z c aiE ?_
   clear Z c;intro a W q Z c
   refine av (c.pk [1]) (λs=>?_)
   refine Vb Z c s ((VK 7 (.f .n) (h:=by exact λc=>(Aw (d.getD 7 0) r _ (((bq l).1-4)-8) (cp-8) ((d.take (abo d-4)).drop 8) B _ (R.mem c D) (c.le D) (c.old (by rw [F];exact o.xR (i:=8) (j:=(bq l).1-4) om om om)) om (by rw [abE,abx];omega) om (xU (vD p _) _)).mono (λ_ _ h=>h.some hp))) λK I J z=>(Vp [8]∘Vx 9∘Vx 10) λa Z c s=>?_)
   refine s_on Z 12 rfl (bS Z c 1 rfl rfl rfl rfl rfl aG rfl rfl (uQ _ _ _) λm c=>?_)
   refine dU kr ?_
   refine ap Z (bZ kr) [13] (bt 14 []) [(8,.bool true)] λa Z=>?_
   refine qe kr ?_
   exact ⟨K,I,q,Z.sub kr,c.pk [1,0,2],z⟩
  clear Z c;rintro a X ⟨K,I,q,Z,c,z⟩
  refine Jb Z c ((bN 2∘bU∘Jj∘aQ∘JP∘eH aG O0∘Jp 1∘JV aG iG (h1:=by exact uQ _ _ _)) λAy=>(bM 2∘JZ) λa Z c=>?_)
  exact iq rfl Z (.cellS (i:=2) Z c rfl rfl aG rfl) (.tmp Z rfl) (.tmp Z rfl) (Y3 (QU (e:=0) C u (by unfold gB;rw [if_neg (by rw [hs];decide),if_neg (λL=>L G),if_neg om,if_neg om,hp])) (c.own (i:=1) rfl) z c.below)
def MV {d:Bk} (h:(b.kind:Int)≠d.kind\/(b.cpu:Int)≠d.cpu\/b.lost≠d.lost\/b.next≠d.next):decide (b=d)=false:=by
 rw [decide_eq_false]
 rintro rfl
 omega
def zcq {d:Bk} (h1:b.kind=d.kind) (a:b.cpu=d.cpu) (c:b.lost=d.lost) (e:b.next=d.next):decide (b.evs=d.evs)=decide (b=d):=by
 rw [ab3,decide_eq_true_eq,decide_eq_true_eq]
 cases b;cases d
 simp only at h1 a c e
 subst h1;subst a;subst c;subst e
 simp
def zcr (b d:Bk) (A k:aiW) (c l:Nat) (w:aiM) (hr:Rd w w.heap.size 11 A (abo b.evs) (b.evs.flatMap fC)) (j:Rd w w.heap.size 11 k (abo d.evs) (d.evs.flatMap fC)) (o:abo b.evs<=1000000):
    Calls abp 41 #[.agg (b.cells A c),.agg (d.cells k l)] w (Is w (.bool (decide (b=d)))):=by
 refine (iP Tryz.func41 38) ?_
 refine (JP∘JE) λp q=>(JE) λr s=>(Jp 1∘Jr∘Jg 0 O1∘Jg 0 O0∘Jp 2) (Je (λe=>?_) λe=>?_)
 ·
  refine (Jg 1 O1∘Jg 1 O0∘Jp 3) (Je (λf=>?_) λf=>?_)
  ·
   refine (Jg 2 O1∘Jg 2 O0∘Jp 3) (Je (λg=>?_) λg=>?_)
   ·
    refine (Jg 3 O1∘Jg 3 O0∘Jp 3) (Je (λi=>?_) λi=>?_)
    ·
     exact (Jg 4 O1∘Jg 4 O0∘JI (h:=by exact λa=>q5e _ _ _ _ _ _ b.evs d.evs _ (a.old hr) (a.old j) rfl rfl om)) λm n=>(Jp 2∘aJ∘aP∘aW) λa=>by exact ⟨by rw [zcq om om om om],a.below⟩
    exact (Jp 7∘aJ∘aP∘aW) λa=>by exact ⟨by rw [MV om],a.below⟩
   exact (Jv 14 [aie]∘aJ∘aP∘aW) λa=>by exact ⟨by rw [MV om],a.below⟩
  exact (Jv 21 [aie]∘aJ∘aP∘aW) λa=>by exact ⟨by rw [MV om],a.below⟩
 exact (Jv 28 [aie]∘fJ∘aP∘aW) λa=>by exact ⟨by rw [MV om],a.below⟩
def mh.as {R':List Nat} (h:mh w er R r W) (h1:er=tX) (a:R=R'):mh w tX R' r W:=by subst h1;subst a;exact h
def q5p (b:Bk) (a:b.Ok) (A:aiW) (c B:Nat) (w:aiM) (d:aR B w) (e:B<=w.heap.size) (hr:Rd w w.heap.size 11 A (abo b.evs) (b.evs.flatMap fC)) (f:abo b.evs<=1000000) {er:Nat} {R:List Nat} (h1:b.err=er) (g:b.out=R):Calls abp 106 #[.agg (b.cells A c)] w (mh w er R):=
 (Y6 b a A c B w d e hr f).mono λ_ _ h=>h.as h1 g
def zcs (A:aiW) (n cp:Nat) (l:List Nat) (B:Nat) (w:aiM) (f:aR B w) (g:B<=w.heap.size) (hr:Rd w w.heap.size 1 A n (l.map B8)) (hc:n<=cp) (a:abo l=n) (i:n<=9223372036854775807) (j:∀b∈l,b<256) {b:Bk} {m er:Nat} (h:dJ l=(b,m,er)):
  Calls abp 134 #[.slice A n cp] w λr d=>(∃A c,r= .returned (.tuple #[.agg (b.cells A c),.int .i64 (m:Int),.int .i64 (er:Int)])/\d.ownsRow w.heap.size 73 11 (.slice A (abo b.evs) c) (abo b.evs) (b.evs.flatMap fC)/\abo b.evs<=c)/\Below w.heap.size w d:=
 (q5o A n cp l B w f g hr hc a i j).mono λ_ _ e=>by rw [h] at e;exact e
structure Sb where
 e:Bool
 cpu:Nat
 lost:Nat
 b:Bs
 l:List Sm
structure Sb.Ok (x:Sb):Prop where
 cpu:x.cpu<256
 lost:x.lost<4294967296
 b:x.b.Ok
 l:∀y∈x.l,y.Ok
def Sb.cells (x:Sb) (A:aiW) (c:Nat):Array aiN:= #[.bool x.e,vB (x.cpu:Int),vW (x.lost:Int),vI x.b.seq,vI x.b.time,.slice A (abo x.l) c]
def znc (x:Sb) (A:aiW) (c:Nat):∀v∈(x.cells A c).toList,v.oneCell'=true:=by intro v a;simp [Sb.cells] at a;rcases a with rfl|rfl|rfl|rfl|rfl|rfl<;>rfl
def vT:SI abp 113 6:=⟨by kernel_rfl,by kernel_rfl⟩
def Sb.es (x:Sb):List Ev:=lX x.cpu x.b (x.l.take 60)
def Sb.made (x:Sb):Bk:=if x.e=true then ⟨2,0,0,1+gH x.b.seq 281474976710657,[]⟩ else ⟨1,x.cpu%64,if abo x.es=0/\x.lost=0 then 1 else (x.lost:Int),0,x.es⟩
def ZG (w:aiM) (b:Bk) (r:aiQ) (a:aiM):Prop:=
 (∃A c,r= .returned (.agg (b.cells A c))/\a.ownsRow w.heap.size 73 11 (.slice A (abo b.evs) c) (abo b.evs) (b.evs.flatMap fC)/\abo b.evs<=c)/\Below w.heap.size w a
def M0 {d:Bk} (h:b=d) (a:W.ownsRow w.heap.size 73 11 (.slice A (abo d.evs) c) (abo d.evs) (d.evs.flatMap fC)) (hc:abo d.evs<=c) (hb:Below w.heap.size w W):ZG w b (.returned (.agg (d.cells A c))) W:=by
 subst h;exact ⟨⟨A,c,rfl,a,hc⟩,hb⟩
def ZH (x:Int):0<=gH x 281474976710657/\gH x 281474976710657<=281474976710656:=by unfold gH;rw [if_neg om];omega
def Rs {x:Sb} (h:x.Ok):∀y∈x.l.take 60,y.Ok:=λy a=>h.l y (acG a)
def zcx {x:Sb} (h:x.Ok):Chain (x.cpu%64) none x.b.based x.es:=qvl h.cpu x.b (Rs h)
theorem znd (x:Sb):abo x.es<=60:=by grind [Sb.es,q02,lX]
def ZI:∀(es:List Ev) (cpu:Nat) (p:Option Ev) (b:Bs),Chain cpu p b es->∀e∈es,e.Ok/\e.cpu=cpu
 |[],_,_,_,_,e,a=>by cases a
 |x::r,cpu,p,b,h,e,a=>by
  obtain ⟨c,d,g,f⟩:=h
  rcases abY.1 a with rfl|a
  ·exact ⟨c.ok,d⟩
  ·exact ZI r cpu _ _ f e a
def ZJ {x:Sb} (h:x.Ok):x.made.Ok/\x.made.err=0/\abo x.made.evs<=60:=by
 unfold Sb.made
 split
 ·have r:=ZH x.b.seq
  have c:Bk.Ok ⟨2,0,0,1+gH x.b.seq 281474976710657,[]⟩:=⟨by show 2<256;decide,by show 0<256;decide,by unfold aX;simp,by unfold aX;show _<=1+gH _ _/\1+gH _ _<=_;omega,by intro e l;cases l⟩
  have m:Bk.fits ⟨2,0,0,1+gH x.b.seq 281474976710657,[]⟩=true:=by
   unfold Bk.fits
   rw [if_neg (by show ¬2=1;omega),if_pos rfl]
   unfold Bk.uN
   rw [decide_eq_true_eq]
   exact ⟨by show 1<=1+gH _ _;omega,by show 1+gH _ _<=_;omega,rfl,rfl,rfl⟩
  exact ⟨c,Za m (by have:=QL ⟨2,0,0,1+gH x.b.seq 281474976710657,[]⟩;simp only [aeh] at this;omega),by show 0<=60;omega⟩
 ·have d:=zcx h
  have f:=ZI _ _ _ _ d
  have p:=znd x
  have n:=h.lost
  have q:=Rh x.b
  have g:=(YG q.1 d).1
  obtain ⟨a,o,i,j⟩:∃a:Int,(if abo x.es=0/\x.lost=0 then 1 else (x.lost:Int))=a/\(0<=a/\a<=4294967296)/\(abo x.es=0->0<a):=by
   refine ⟨_,rfl,?_,?_⟩
   ·split<;>omega
   ·intro k;split<;>omega
  rw [o]
  have c:Bk.Ok ⟨1,x.cpu%64,a,0,x.es⟩:=⟨by show 1<256;decide,by show x.cpu%64<256;omega,by unfold aX;show _<=a/\a<=_;omega,by unfold aX;simp,λe l=>(f e l).1⟩
  have m:Bk.fits ⟨1,x.cpu%64,a,0,x.es⟩=true:=by
   unfold Bk.fits
   rw [if_pos rfl]
   unfold Bk.pQ
   rw [decide_eq_true_eq]
   refine ⟨by show (jg x.es).2=0;rw [g],by show x.cpu%64<64;omega,i.1,by show a<=_;omega,rfl,?_⟩
   by_cases k:abo x.es=0
   ·rw [YM k,decide_eq_true_eq];exact j k
   ·rw [YL k,decide_eq_true_eq]
    exact (f _ (qf Ev.zero om)).2
  exact ⟨c,Za m (by have:=QL ⟨1,x.cpu%64,a,0,x.es⟩;simp only at this;omega),p⟩
theorem ZK (l:List Sm):l.take (abo (l.take 60))=l.take 60:=by grind
def He (n:Nat) (l:List Sm) (h:abo l=n):abT .i64 (if ((60:Int)<(n:Int)) then 60 else (n:Int))=vI ((abo (l.take 60):Nat):Int):=by
 congr 1
 rw [abx]
 split<;>omega
def U6 (s:dF) (c:s.st.ay.Ok) (f:cK s.st) (hc:gD s.st) (w:aiM) (g:fA w s.st):
    Calls abp 44 #[.agg s.cells] w (Is w (vI (dP s:Int))):=by
 refine (fE Tryz.func44 17) ?_
 refine (JP∘JE) λl g1=>(bM 1∘JQ∘JB∘JP∘Jg 0 O0∘Jp 2) (Ji (λd=>?_) λd=>?_)
 ·
  exact (Jp 5∘aJ∘Jj∘JT∘bE 1∘aW) λb=>by exact ⟨by rw [qyj om];rfl,b.below⟩
 refine (Jg 0 O0∘Jp 3∘aJ∘Jj) (Ji (λe=>?_) λe=>?_)
 ·
  exact (JT∘bE 1∘aW) λb=>by exact ⟨by rw [qyj om];rfl,b.below⟩
 refine (JF∘JP∘Jf 1∘Jy (v:= .agg #[vI s.st.au,vQ s.st.aj,abl s.st.gA s.st.gs s.st.gc,abl s.st.lA s.st.cl s.st.lc,abl s.st.uA s.st.cu s.st.uc,abl s.st.tA s.st.ts s.st.tc,abl s.st.sA s.st.rs s.st.sc]) (h:=by exact Pe rfl rfl eU rfl (λ_ h=>h.sub (i:=0) rfl 1 rfl))∘Jo (.agg s.st.cells) (by exact rfl)∘JI (h:=by exact λb=>qv3 s.st c f _ (g.old b))) λj k=>(Jp 2∘fJ∘Jj) (Ju (λa=>?_) λa=>?_)
 ·
  exact (JT∘bE 1∘aW) λb=>by exact ⟨by rw [q6r om (by simpa using a)];rfl,b.below⟩
 exact (aQ∘bE 1∘aW) λb=>by exact ⟨by rw [qs1 om (by simpa using a)];rfl,b.below⟩
def qt3 (s:dF) (t:s.st.ay.Ok) (A:cK s.st) (hc:gD s.st) (w:aiM) (C:fA w s.st):
    Calls abp 107 #[.agg s.cells] w (R3 w (dP s) (kE s)):=by
 refine Cc (vs:=[.agg s.cells]) Tryz.func107 rfl rfl kr (σ0:=[(0,.agg s.cells)]) rfl ?_
 intro a Z
 have b:=Mem.start w
 refine Jb Z b ((JP∘JE) λD g1=>(bM 2∘JQ∘JP∘eH zo O0∘JI (h:=by exact λb=>U6 s t A hc _ (C.old b))) λP G=>(Jp 1∘bU∘bg 2∘aL∘Jj) (Jh (λu=>?_) λu=>?_))
 ·
  refine (JT∘bE 3) λa Z b=>?_
  refine Ce ?_
  exact qA rfl Z rfl rfl (q1n _ rfl (zdc om) b.below)
 have m:dP s=0:=by omega
 have n:=ER m
 refine (aQ∘JP∘JA #[vN]) λH k=>(Jq∘JC (h:=by exact λb=>b.nil 41 1)∘JG∘JQ∘JP∘eH zo O2∘JL (h:=by exact λb=>q9j s _)) ?_
 rintro b _ I ⟨J,gp,rfl,hm⟩
 refine ⟨_,rfl,_,b.join hm,?_⟩
 refine (aL∘Jj∘JB) λa Z b=>?_
 refine Cb Z b (λF=>∃(q:List Nat) (c:aiW) (co:Nat),(q=dV 7 (aI s))/\(abo q<=co)/\F=[abm c q co bF 41 1,.blk k #[abl c q co] 117,.blk g1 s.cells 50]) (λ_ _=>False) rfl kr ?_ ?_ (λ_ _ _ _ _ h=>h.elim)
 ·
  clear Z b;intro o B g D x b
  have K:qzn abp w o s (λi F=>∃(q:List Nat) (c:aiW) (co:Nat),(q=dV i (aI s))/\(abo q<=co)/\F=(.obj o (.loop (g .ready none)):: .obj B (.deferred (some [])):: [abm c q co bF 41 1,.blk k #[abl c q co] 117,.blk g1 s.cells 50])):=by
   rintro i F fr Q y cr ⟨q,c,co,p,j,rfl⟩ hi L b
   replace b:=b.pt (fs':=(.obj o (.loop (g .ready none)):: abm y (aI s i) cr bF 41 1:: .obj B (.deferred (some [])):: abm c q co bF 41 1:: .blk k #[abl c q co] 117:: .blk g1 s.cells 50::fr)) 6 [1,0,2,3,4,5]
   refine Ep (v1:= .string (qb i)) (v2:= .slice y (abo (aI s i)) cr) x b de de λa Z=>?_
   refine qk ?_
   refine Jb Z b ((Jp 1∘Jq) λa Z b=>?_)
   have M:abo q<=600000:=by rw [p];exact qoe n om
   have N:=zdb n hi
   refine ⟨(abm y (aI s i) cr bF 41 1:: .obj B (.deferred (some [])):: abm c q co bF 41 1:: .blk k #[abl c q co] 117:: .blk g1 s.cells 50::fr),b.pt (fs':=(.obj o (.loop (g .ready none)):: abm y (aI s i) cr bF 41 1:: .obj B (.deferred (some [])):: abm c q co bF 41 1:: .blk k #[abl c q co] 117:: .blk g1 s.cells 50::fr)) 6 [0,1,2,3,4,5],λR b=>?_⟩
   refine wpIn_block ?_
   refine qk ?_
   refine Jb Z b ((Jc O4∘Jp 1∘JD ((aI s i).map bF) 3 (λ_ _=>og) kM (hr:=by exact λb=>b.rd (i:=1) rfl) (h1:=by exact wz _)) λO d e l=>(JW qB aO) λE=>(oo∘Jq) λa Z b=>?_)
   have f:abo q+(abo (aI s i))=abo (q++(aI s i)):=nS rfl
   rw [f] at l
   replace b:=b.bC (i:=3) (ys:=(q++(aI s i)).map bF) rfl f (List.map_append.symm)
   rw [f] at b
   refine ⟨(.obj B (.deferred (some [])):: abm d (q++(aI s i)) e bF 41 1:: .blk k #[abl d (q++(aI s i)) e] 117:: .blk g1 s.cells 50::fr),b.pt (fs':=(.obj o (.loop (g .busy none)):: .obj B (.deferred (some [])):: abm d (q++(aI s i)) e bF 41 1:: .blk k #[abl d (q++(aI s i)) e] 117:: .blk g1 s.cells 50::fr)) 6 [0,2,3,4,5],λH b=>?_⟩
   exact ⟨(.obj o (.loop (g .ready none)):: .obj B (.deferred (some [])):: abm d (q++(aI s i)) e bF 41 1:: .blk k #[abl d (q++(aI s i)) e] 117:: .blk g1 s.cells 50:: []),b,rfl,⟨(q++(aI s i)),d,e,by rw [p,qz],l,rfl⟩⟩
  refine (q22 w D J gp o s t A C hc n _ _ K ⟨[],none,0,rfl,abu _,rfl⟩ (b.pk [2,3,0,1,4,5,6])).mono ?_
  rintro r S ⟨v,rfl,T,z,⟨q,c,co,p,j,rfl⟩⟩
  exact ⟨v,rfl,.inl ⟨_,⟨q,c,co,p,j,rfl⟩,z⟩⟩
 clear Z b;rintro B a U _ ⟨q,c,co,p,j,rfl⟩ Z b
 refine Jb Z b ((JG∘JP∘Jc O2∘bM 2∘JZ) λa Z b=>?_)
 refine xS Z b (i:=0) rfl λa V Z b=>?_
 exact qA rfl Z rfl rfl (q1m (tX:=0) m.symm (by rw [ES m,p];rfl) (b.own (i:=1) rfl) j b.below)
def OB:EI abp 298 435 (.agg #[.string (ByteArray.mk #[]),vI 0,vI 0]) 3 32:=⟨by kernel_rfl,by kernel_rfl,rfl,by omega⟩
def q23 (s:dF) (f:s.st.ay.Ok) (r:cK s.st) (hc:gD s.st) (B:Nat) (w:aiM) (v:aR B w) (t:B<=w.heap.size) (x:fA w s.st):
    Calls abp 46 #[.agg s.cells] w (mh w (dP s) (dz s)):=by
 refine (fE Tryz.func46 22) ?_
 refine (JP∘JE) λO g1=>(Jp 2∘Jr∘eH zo O0∘JK (h:=by exact λc=>qt3 s f r hc _ (x.old c))) λy z P A=>(Jp 1∘Jx∘Jx∘bM 2∘bN 2∘aL∘Jj) (Jh (λg=>?_) λg=>?_)
 ·
  exact (JT∘bE 3∘bW) λc=>q1o _ rfl (q6s om) c.below
 have d:dP s=0:=by omega
 have j:=ER d
 have k:=RY j
 rw [<-ES d] at k
 have C:=zde j
 have l:=zdd s
 rw [<-ES d] at l
 have D:=uH (kE s)
 refine (aQ∘JP∘JU bA #[vB 113,vB 115,vB 1]) λE F=>λa Z c=>?_
 refine fo Z 1 rfl rfl ?_
 refine zgt Z c 0 (e:=5) rfl rfl rfl kr kr rfl de ?_
 clear Z c;intro a G Z c
 refine Jb Z c ((Jp 1∘JK (h:=by exact λc=>Mr y (abo (kE s)) z (kE s) _ (c.rd (i:=1) rfl) (by rw [ES d];exact qyi f r) (by have:=k;omega))) λH I J u=>λa Z c=>?_)
 refine fo Z 4 rfl rfl ?_
 refine Xj Z c (xs:=([113,115,1]:List Nat).map B8) (news:=((kE s).flatMap ak).map B8) rfl bA rfl rfl (c.wB (i:=1) (size:=1) (n:=3) rfl rfl) (c.rd (i:=0) rfl) om om (λh=>by cases h) om om rfl de ?_
 clear Z c;intro a K m o Z c p
 have b:3+abo ((kE s).flatMap ak)=abo (bR s):=znt d
 rw [b] at p
 replace c:=c.bC (i:=0) (ys:=(bR s).map B8) rfl b (q1p d)
 replace Z:=Z.sp 18 (vS m (abo (bR s)) o) rfl (iW b)
 exact Jb Z c ((JK (h:=by exact λc=>QF (some ⟨m,0,none⟩) (abo (bR s)) o (bR s) B _ (v.mem c t) (c.le t) (c.rd (i:=0) rfl) rfl om (Nj s))) λL M N q=>(Jx∘Jx∘bM 2∘JZ∘bW) λc=>q1q (tX:=0) d.symm (y9 d).symm (c.own (i:=0) rfl) q c.below)
def zfx (A:aiW) (c:Nat) (l:List Gr) (D:aiW) (r:Nat) (m:List Gr) (w:aiM) (hr:Rd w w.heap.size 2 A (abo l) (l.flatMap fQ)) (g:Rd w w.heap.size 2 D (abo m) (m.flatMap fQ)) (B:abo l<=1000000) (u:abo m<=1000000):
    Calls abp 113 #[abl A l c,abl D m r] w (Is w (.bool (decide (l=m)))):=by
 refine (iP Tryz.func113 26) ?_
 refine (dh 1∘bN 1∘Jl∘Jp 1∘Jl∘Jp 1∘fJ∘Jj) (Jh (λd=>?_) λd=>?_)
 ·
  exact (JT∘bE 1∘aW) λb=>eG (λe=>by rw [e] at d;exact d rfl) b.below
 have q:abo l=abo m:=by omega
 refine (aQ∘bN 1∘Jl∘bM 1∘JB) λa Z b=>?_
 refine qg (λs x y=>∃(k:Nat),(k<=abo l)/\(∀i,i<k->l.getD i Gr.zero=m.getD i Gr.zero)/\s=abo l-k/\Fr x 26 [] (ahY 13 k 12 (abo l) [(10,.bool false),aie,(0,abl A l c),(1,abl D m r)])/\Mem w y []) (m:=abo l-0) ⟨0,abz _,Ip,rfl,Z.sub kr,b.pk []⟩ ?_
 clear Z b;rintro s a C ⟨k,E,t,rfl,Z,b⟩
 refine Jb Z b ((dh 1∘JQ) (Ji (λj=>?_) λj=>?_))
 ·
  have o:k<abo l:=by omega
  have p:k<abo m:=by omega
  obtain ⟨gA,F,rfl,_⟩:=hr.sat k (hk:=o)
  obtain ⟨G,H,rfl,_⟩:=g.sat k (hk:=p)
  refine (eY∘aM 2∘aL∘Jj) λa Z b=>?_
  refine wp_seq ?_
  refine Jb Z b ((Vs .n []) λz=>(Vp [0,1,4,5]∘oq 2 k 2∘Ey 3 Gr.cells pR hr kD k Gr.zero (hk:=o)∘oq 6 k 2∘Ey 7 Gr.cells pR g kD k Gr.zero (hk:=p)∘Vy 8 (v:= .bool (!(decide ((l.getD k Gr.zero)=(m.getD k Gr.zero))))) (h:=by exact aau rfl rfl rfl (ZX (l.getD k Gr.zero) (m.getD k Gr.zero)))∘Vd∘aJ) (nH (λf=>?_) λf=>?_))
  ·
   exact (JT∘bE 1∘aW) λb=>eG (λe=>f (by rw [e])) b.below
  refine (aQ∘JR∘dA 1∘Jp 1∘aL∘Jq) λa Z b=>?_
  exact ⟨_,om,k+1,by omega,Iq t (f),rfl,Z.sub kr,b.pk []⟩
 exact (JF∘JX∘JG∘bE 1∘aW) λb=>EM (Io Gr.zero q (λi hi=>t i om)) b.below
def que (A:aiW) (c:Nat) (l:List Int) (D:aiW) (r:Nat) (m:List Int) (w:aiM) (hr:Rd w w.heap.size 1 A (abo l) (l.map aZ)) (g:Rd w w.heap.size 1 D (abo m) (m.map aZ)) (z:abo l<=1000000) (u:abo m<=1000000):
    Calls abp 114 #[abl A l c,abl D m r] w (Is w (.bool (decide (l=m)))):=by
 refine (iP Tryz.func114 26) ?_
 refine (dh 1∘bN 1∘Jl∘Jp 1∘Jl∘Jp 1∘fJ∘Jj) (Jh (λd=>?_) λd=>?_)
 ·
  exact (JT∘bE 1∘aW) λb=>eG (λe=>by rw [e] at d;exact d rfl) b.below
 have q:abo l=abo m:=by omega
 refine (aQ∘bN 1∘Jl∘bM 1∘JB) λa Z b=>?_
 refine qg (λs v x=>∃(k:Nat),(k<=abo l)/\(∀i,i<k->l.getD i 0=m.getD i 0)/\s=abo l-k/\Fr v 26 [] (ahY 13 k 12 (abo l) [(10,.bool false),aie,(0,abl A l c),(1,abl D m r)])/\Mem w x []) (m:=abo l-0) ⟨0,abz _,Ip,rfl,Z.sub kr,b.pk []⟩ ?_
 clear Z b;rintro s a B ⟨k,C,t,rfl,Z,b⟩
 refine Jb Z b ((dh 1∘JQ) (Ji (λj=>?_) λj=>?_))
 ·
  have o:k<abo l:=by omega
  have p:k<abo m:=by omega
  obtain ⟨gA,E,rfl,_⟩:=hr.sat k (hk:=o)
  obtain ⟨F,G,rfl,_⟩:=g.sat k (hk:=p)
  refine (eY∘aM 2∘aL∘Jj) λa Z b=>?_
  refine wp_seq ?_
  refine Jb Z b ((Vs .n []) λy=>(Vp [0,1,4,5]∘oq 2 k 1∘Vy 3 (h:=by exact aad hr k 0 o rfl rfl)∘oq 6 k 1∘Vy 7 (h:=by exact aad g k 0 p rfl rfl)∘Vp [8]∘Vd∘aJ) (Jh (λf=>?_) λf=>?_))
  ·
   exact (JT∘bE 1∘aW) λb=>eG (λe=>f (by rw [e])) b.below
  refine (aQ∘JR∘dA 1∘Jp 1∘aL∘Jq) λa Z b=>?_
  exact ⟨_,om,k+1,by omega,Iq t (f),rfl,Z.sub kr,b.pk []⟩
 exact (JF∘JX∘JG∘bE 1∘aW) λb=>EM (Io 0 q (λi hi=>t i om)) b.below
def zfy (A:aiW) (c:Nat) (l:List Tk) (D:aiW) (r:Nat) (m:List Tk) (w:aiM) (hr:Rd w w.heap.size 8 A (abo l) (l.flatMap bX)) (g:Rd w w.heap.size 8 D (abo m) (m.flatMap bX)) (B:abo l<=1000000) (u:abo m<=1000000):
    Calls abp 115 #[abl A l c,abl D m r] w (Is w (.bool (decide (l=m)))):=by
 refine (iP Tryz.func115 26) ?_
 refine (dh 1∘bN 1∘Jl∘Jp 1∘Jl∘Jp 1∘fJ∘Jj) (Jh (λd=>?_) λd=>?_)
 ·
  exact (JT∘bE 1∘aW) λb=>eG (λe=>by rw [e] at d;exact d rfl) b.below
 have q:abo l=abo m:=by omega
 refine (aQ∘bN 1∘Jl∘bM 1∘JB) λa Z b=>?_
 refine qg (λs x y=>∃(k:Nat),(k<=abo l)/\(∀i,i<k->l.getD i Tk.zero=m.getD i Tk.zero)/\s=abo l-k/\Fr x 26 [] (ahY 13 k 12 (abo l) [(10,.bool false),aie,(0,abl A l c),(1,abl D m r)])/\Mem w y []) (m:=abo l-0) ⟨0,abz _,Ip,rfl,Z.sub kr,b.pk []⟩ ?_
 clear Z b;rintro s a C ⟨k,E,t,rfl,Z,b⟩
 refine Jb Z b ((dh 1∘JQ) (Ji (λj=>?_) λj=>?_))
 ·
  have o:k<abo l:=by omega
  have p:k<abo m:=by omega
  obtain ⟨gA,F,rfl,_⟩:=hr.sat k (hk:=o)
  obtain ⟨G,H,rfl,_⟩:=g.sat k (hk:=p)
  refine (eY∘aM 2∘aL∘Jj) λa Z b=>?_
  refine wp_seq ?_
  refine Jb Z b ((Vs .n []) λz=>(Vp [0,1,4,5]∘oq 2 k 8∘Ey 3 Tk.cells qm hr fF k Tk.zero (hk:=o)∘oq 6 k 8∘Ey 7 Tk.cells qm g fF k Tk.zero (hk:=p)∘Vy 8 (v:= .bool (!(decide ((l.getD k Tk.zero)=(m.getD k Tk.zero))))) (h:=by exact aau rfl rfl rfl (zdf (l.getD k Tk.zero) (m.getD k Tk.zero)))∘Vd∘aJ) (nH (λf=>?_) λf=>?_))
  ·
   exact (JT∘bE 1∘aW) λb=>eG (λe=>f (by rw [e])) b.below
  refine (aQ∘JR∘dA 1∘Jp 1∘aL∘Jq) λa Z b=>?_
  exact ⟨_,om,k+1,by omega,Iq t (f),rfl,Z.sub kr,b.pk []⟩
 exact (JF∘JX∘JG∘bE 1∘aW) λb=>EM (Io Tk.zero q (λi hi=>t i om)) b.below
def zfz (A:aiW) (c:Nat) (l:List Sp) (D:aiW) (r:Nat) (m:List Sp) (w:aiM) (hr:Rd w w.heap.size 3 A (abo l) (l.flatMap jc)) (g:Rd w w.heap.size 3 D (abo m) (m.flatMap jc)) (B:abo l<=1000000) (u:abo m<=1000000):
    Calls abp 117 #[abl A l c,abl D m r] w (Is w (.bool (decide (l=m)))):=by
 refine (iP Tryz.func117 26) ?_
 refine (dh 1∘bN 1∘Jl∘Jp 1∘Jl∘Jp 1∘fJ∘Jj) (Jh (λd=>?_) λd=>?_)
 ·
  exact (JT∘bE 1∘aW) λb=>eG (λe=>by rw [e] at d;exact d rfl) b.below
 have q:abo l=abo m:=by omega
 refine (aQ∘bN 1∘Jl∘bM 1∘JB) λa Z b=>?_
 refine qg (λs x y=>∃(k:Nat),(k<=abo l)/\(∀i,i<k->l.getD i Sp.zero=m.getD i Sp.zero)/\s=abo l-k/\Fr x 26 [] (ahY 13 k 12 (abo l) [(10,.bool false),aie,(0,abl A l c),(1,abl D m r)])/\Mem w y []) (m:=abo l-0) ⟨0,abz _,Ip,rfl,Z.sub kr,b.pk []⟩ ?_
 clear Z b;rintro s a C ⟨k,E,t,rfl,Z,b⟩
 refine Jb Z b ((dh 1∘JQ) (Ji (λj=>?_) λj=>?_))
 ·
  have o:k<abo l:=by omega
  have p:k<abo m:=by omega
  obtain ⟨gA,F,rfl,_⟩:=hr.sat k (hk:=o)
  obtain ⟨G,H,rfl,_⟩:=g.sat k (hk:=p)
  refine (eY∘aM 2∘aL∘Jj) λa Z b=>?_
  refine wp_seq ?_
  refine Jb Z b ((Vs .n []) λz=>(Vp [0,1,4,5]∘oq 2 k 3∘Ey 3 Sp.cells yU hr lY k Sp.zero (hk:=o)∘oq 6 k 3∘Ey 7 Sp.cells yU g lY k Sp.zero (hk:=p)∘Vy 8 (v:= .bool (!(decide ((l.getD k Sp.zero)=(m.getD k Sp.zero))))) (h:=by exact aau rfl rfl rfl (zdg (l.getD k Sp.zero) (m.getD k Sp.zero)))∘Vd∘aJ) (nH (λf=>?_) λf=>?_))
  ·
   exact (JT∘bE 1∘aW) λb=>eG (λe=>f (by rw [e])) b.below
  refine (aQ∘JR∘dA 1∘Jp 1∘aL∘Jq) λa Z b=>?_
  exact ⟨_,om,k+1,by omega,Iq t (f),rfl,Z.sub kr,b.pk []⟩
 exact (JF∘JX∘JG∘bE 1∘aW) λb=>EM (Io Sp.zero q (λi hi=>t i om)) b.below
def q3f (A:aiW) (c:Nat) (l:List Rw) (D:aiW) (v:Nat) (m:List Rw) (w:aiM) (hr:Rd w w.heap.size 1 A (abo l) (l.map aac)) (p:Rd w w.heap.size 1 D (abo m) (m.map aac)) (B:∀y∈l,Rd w w.heap.size 3 y.A (abo y.l) (y.l.flatMap jc)) (hm:∀y∈m,Rd w w.heap.size 3 y.A (abo y.l) (y.l.flatMap jc)) (H:abo l<=1000000) (C:abo m<=1000000) (r:∀y∈l,abo y.l<=1000000) (s:∀y∈m,abo y.l<=1000000):
    Calls abp 116 #[abl A l c,abl D m v,.func (.func 117) #[] #[]] w (Is w (.bool (decide (l.map aeb=m.map aeb)))):=by
 refine (uL Tryz.func116 32) ?_
 refine (dh 1∘bN 1∘Jl∘Jp 1∘Jl∘Jp 1∘fJ∘Jj) (Jh (λo=>?_) λo=>?_)
 ·
  exact (JT∘bE 1∘aW) λb=>eG (q6w (λe=>o (by rw [e]))) b.below
 have t:abo l=abo m:=by omega
 refine (aQ∘bN 1∘Jl∘bM 1∘JB) λa Z b=>?_
 refine qg (λx E F=>∃(k:Nat),(k<=abo l)/\(∀i,i<k->(l.getD i Rw.zero).l=(m.getD i Rw.zero).l)/\x=abo l-k/\Fr E 32 [] (ahY 17 k 16 (abo l) [(15,abl A l c),(14,.bool false),(6,.bool false),(0,abl A l c),(1,abl D m v),(2,.func (.func 117) #[] #[])])/\Mem w F []) (m:=abo l-0) ⟨0,abz _,Ip,rfl,Z.sub kr,b.pk []⟩ ?_
 clear Z b;rintro x a I ⟨k,J,z,rfl,Z,b⟩
 refine Jb Z b ((dh 1∘JQ) (Ji (λq=>?_) λq=>?_))
 ·
  have d:k<abo l:=by omega
  have j:k<abo m:=by omega
  obtain ⟨gA,K,rfl,_⟩:=hr.sat k (hk:=d)
  obtain ⟨L,M,rfl,_⟩:=p.sat k (hk:=j)
  refine (eY∘aM 1∘iC k 1∘Jy (h:=by exact aad hr k Rw.zero d rfl rfl)∘Jp 2∘bg 2∘iC k 1∘Jy (h:=by exact aad p k Rw.zero j rfl rfl)∘Jp 1∘fJ∘bg 3) λa Z b=>?_
  refine fo Z 3 rfl rfl ?_
  refine zh Z (f:=117) (vs:=[.slice ((l.getD k Rw.zero).A) ((l.getD k Rw.zero).l.length) ((l.getD k Rw.zero).c),.slice ((m.getD k Rw.zero).A) ((m.getD k Rw.zero).l.length) ((m.getD k Rw.zero).c)]) (fst:=[]) (caps:=[]) rfl rfl rfl kr rfl de (zfz (l.getD k Rw.zero).A (l.getD k Rw.zero).c (l.getD k Rw.zero).l (m.getD k Rw.zero).A (m.getD k Rw.zero).c (m.getD k Rw.zero).l _ (b.old (B _ (qf Rw.zero d))) (b.old (hm _ (qf Rw.zero j))) (r _ (qf Rw.zero d)) (s _ (qf Rw.zero j))) ?_
  rintro _ G ⟨rfl,u⟩
  refine ⟨_,rfl,?_⟩
  replace b:=b.call u
  clear Z;intro a Z
  refine Jb Z b ((Jp 1∘fJ∘Jj) (nH (λn=>?_) λn=>?_))
  ·
   exact (JT∘bE 1∘aW) λb=>eG (q6v d j n) b.below
  refine (aQ∘JR∘dA 1∘Jp 1∘aL∘Jq) λa Z b=>?_
  exact ⟨_,om,k+1,by omega,Iq (f:=λi=>(l.getD i Rw.zero).l) (g:=λi=>(m.getD i Rw.zero).l) z n,rfl,Z.sub kr,b.pk []⟩
 exact (JF∘JX∘JG∘bE 1∘aW) λb=>EM (q6u t (λi hi=>z i om)) b.below
abbrev aiF:Array aiN:=#[vI 0,vQ 0,vN,vN,vN,vN,vN]
def zap (s z : dF) (w : aiM) (E : fA w s.st) (hz : fA w z.st) (F : cK s.st) (G : cK z.st) :
    Calls abp 55 #[.agg s.cells,.agg z.cells] w (Is w (.bool (decide (dM s z)))):=by
 refine (iP Tryz.func55 71) ?_
 refine (JP∘JE) λW J=>(JE) λX K=>(bM 1) λa Z b=>?_
 refine qy (λM N=>∃(x:Nat) (A:Nat),Fr M 71 [] [(6,vP A 0),(5,vP x 0),aie,(3,vP K 0),(2,vP J 0)]/\Mem w N [.blk A z.st.cells 48,.blk x s.st.cells 48,.blk K z.cells 50,.blk J s.cells 50]) ?_ ?_
 ·
  refine Jb Z b ((Vs .n [7]) λO=>(Vf 0 1∘Vf 2 1∘Vy 1 (v:= .agg #[vI s.st.au,vQ s.st.aj,abl s.st.gA s.st.gs s.st.gc,abl s.st.lA s.st.cl s.st.lc,abl s.st.uA s.st.cu s.st.uc,abl s.st.tA s.st.ts s.st.tc,abl s.st.sA s.st.rs s.st.sc]) (h:=by exact Pe rfl rfl eU rfl (λ_ h=>h.sub (i:=1) rfl 1 rfl))∘Vo (.agg s.st.cells) (by exact rfl)∘Vy 3 (v:= .agg #[vI z.st.au,vQ z.st.aj,abl z.st.gA z.st.gs z.st.gc,abl z.st.lA z.st.cl z.st.lc,abl z.st.uA z.st.cu z.st.uc,abl z.st.tA z.st.ts z.st.tc,abl z.st.sA z.st.rs z.st.sc]) (h:=by exact Pe rfl rfl eU rfl (λ_ h=>h.sub (i:=0) rfl 1 rfl))∘Vo (.agg z.st.cells) (by exact rfl)) λa Z b B=>?_)
  refine zf [4,5] kr rfl ?_
  refine all_cons ?_ ?_
  ·refine qu Z (i:=4) rfl rfl ?_
   refine gX Z b aiF ?_
   clear Z b;intro a P x Z b
   refine av (b.pk [1,2]) (λB=>?_)
   refine Vb Z b B ((VA 5 (.f .n) aiF) λQ A=>λa Z b B=>?_)
   refine s_on Z 6 rfl (bS Z b 1 rfl rfl rfl rfl rfl eU rfl rfl (EL s.st) λH b=>?_)
   refine av (b.pk [2,3]) (λB=>?_)
   refine s_on Z 7 rfl (bS Z b 0 rfl rfl rfl rfl rfl eU rfl rfl (EL z.st) λI b=>?_)
   refine dU kr ?_
   refine qe kr ?_
   exact ⟨x,A,Z.sub kr,b.pk [0,1,2,3]⟩
  refine all_cons ?_ all_nil
  refine qu Z (i:=5) rfl rfl ?_
  refine gX Z b aiF ?_
  clear Z b;intro a Q A Z b
  refine av (b.pk [1,2]) (λB=>?_)
  refine Vb Z b B ((VA 4 (.f .n) aiF) λP x=>λa Z b B=>?_)
  refine s_on Z 6 rfl (bS Z b 0 rfl rfl rfl rfl rfl eU rfl rfl (EL s.st) λH b=>?_)
  refine av (b.pk [2,3]) (λB=>?_)
  refine s_on Z 7 rfl (bS Z b 1 rfl rfl rfl rfl rfl eU rfl rfl (EL z.st) λI b=>?_)
  refine dU kr ?_
  refine qe kr ?_
  exact ⟨x,A,Z.sub kr,b.pk [1,0,2,3]⟩
 clear Z b;rintro a Y ⟨x,A,Z,b⟩
 refine Jb Z b ((JP∘Jg 0 O3∘Jg 0 O2∘Jp 2) (Je (λd=>?_) λd=>?_))
 ·
  refine (Jf 0∘Jg 0 O1∘Jf 0∘Jg 0 O0∘Jp 3) (Je (λj=>?_) λj=>?_)
  ·
   refine (Jf 0∘Jg 1 O1∘Jf 0∘Jg 1 O0∘Jp 3) (Je (λC=>?_) λC=>?_)
   ·
    refine (Jf 0∘Jg 2 O1∘Jf 0∘Jg 2 O0∘JL (h:=by exact λb=>zfx s.st.gA s.st.gc s.st.gs z.st.gA z.st.gc z.st.gs _ (b.old E.g) (b.old hz.g) F.g G.g)) ?_
    rintro b _ R ⟨rfl,c⟩
    refine ⟨_,rfl,_,b.call c,?_⟩
    refine (Jp 2) (Ji (λk=>?_) λk=>?_)
    ·
     refine (Jg 3 O1∘Jg 3 O0∘JL (h:=by exact λb=>que s.st.lA s.st.lc s.st.cl z.st.lA z.st.lc z.st.cl _ (b.old E.l) (b.old hz.l) F.l G.l)) ?_
     rintro b _ S ⟨rfl,c⟩
     refine ⟨_,rfl,_,b.call c,?_⟩
     refine (Jp 2) (Ji (λm=>?_) λm=>?_)
     ·
      refine (Jg 4 O1∘Jg 4 O0∘JL (h:=by exact λb=>que s.st.uA s.st.uc s.st.cu z.st.uA z.st.uc z.st.cu _ (b.old E.u) (b.old hz.u) F.u G.u)) ?_
      rintro b _ T ⟨rfl,c⟩
      refine ⟨_,rfl,_,b.call c,?_⟩
      refine (Jp 2) (Ji (λo=>?_) λo=>?_)
      ·
       refine (Jg 5 O1∘Jg 5 O0∘JL (h:=by exact λb=>zfy s.st.tA s.st.tc s.st.ts z.st.tA z.st.tc z.st.ts _ (b.old E.t) (b.old hz.t) F.t G.t)) ?_
       rintro b _ U ⟨rfl,c⟩
       refine ⟨_,rfl,_,b.call c,?_⟩
       refine (Jp 2) (Ji (λq=>?_) λq=>?_)
       ·
        exact (Jg 6 O1∘Jg 6 O0∘JI (h:=by exact λb=>q3f s.st.sA s.st.sc s.st.rs z.st.sA z.st.sc z.st.rs _ (b.old E.s) (b.old hz.s) (λy L=>b.old (E.r y L)) (λy L=>b.old (hz.r y L)) F.s G.s F.r G.r)) λV c=>(Jp 2∘aJ∘aP∘aW) λb=>by exact AL (p:=dM s z) ⟨λe=>⟨d,j,by omega,k,m,o,q,e⟩,λh=>h.2.2.2.2.2.2.2⟩ b.below
       refine (Jp 7∘aJ∘Jq) λa Z b=>?_
       replace Z:=Z.to [aie,(6,vP A 0),(5,vP x 0),(3,vP K 0),(2,vP J 0)]
       exact Jb Z b ((JG∘JZ∘aW) λb=>by exact eG (p:=dM s z) (λ⟨D,e1,e2,e3,e4,e5,e6,e7⟩=>q (by rw [e6])) b.below)
      exact (Jv 14 [aie]∘aJ∘aP∘aW) λb=>by exact eG (p:=dM s z) (λ⟨D,e1,e2,e3,e4,e5,e6,e7⟩=>o (by rw [e5])) b.below
     exact (Jv 21 [aie]∘aJ∘aP∘aW) λb=>by exact eG (p:=dM s z) (λ⟨D,e1,e2,e3,e4,e5,e6,e7⟩=>m (by rw [e4])) b.below
    exact (Jv 28 [aie]∘aJ∘aP∘aW) λb=>by exact eG (p:=dM s z) (λ⟨D,e1,e2,e3,e4,e5,e6,e7⟩=>k (by rw [e3])) b.below
   exact (Jv 37 [aie]∘aJ∘aP∘aW) λb=>by exact eG (p:=dM s z) (λ⟨D,e1,e2,e3,e4,e5,e6,e7⟩=>C (by rw [e2])) b.below
  exact (Jv 46 [aie]∘aJ∘aP∘aW) λb=>by exact eG (p:=dM s z) (λ⟨D,e1,e2,e3,e4,e5,e6,e7⟩=>j (by rw [e1])) b.below
 exact (Jv 55 [aie]∘fJ∘aP∘aW) λb=>by exact eG (p:=dM s z) (λ⟨D,e1,e2,e3,e4,e5,e6,e7⟩=>d (by rw [D])) b.below
def zar (x:Sb) (s:x.Ok) (A:aiW) (c:Nat) (w:aiM) (hr:Rd w w.heap.size 11 A (abo x.l) (x.l.flatMap sJ)) (hc:abo x.l<=c) (O:abo x.l<=9223372036854775807):
    Calls abp 43 #[.agg (x.cells A c)] w (ZG w x.made):=by
 refine (fE Tryz.func43 42) ?_
 refine (JP∘JE) λP g1=>(JA aiE) λQ G=>(Jq) ?_
 have E:=s.lost
 have H:=s.cpu
 obtain ⟨es,q⟩:∃es,es=x.es:=⟨_,rfl⟩
 refine (JG∘JQ∘JP∘Jg 0 O1∘Jj) (Ju (λr=>?_) λr=>?_)
 ·
  refine (JT∘JP∘Jf 3∘Jg 0 O1∘JL (h:=by exact λe=>Zm x.b.seq 281474976710657 s.b.seq (by unfold aX;omega) _)) ?_
  rintro e _ R ⟨rfl,rfl⟩
  refine ⟨_,rfl,_,e,?_⟩
  refine (Jp 1∘Jo (vI (1+gH x.b.seq 281474976710657)) (by have h:=ZH x.b.seq;rw [IntWalk.i64_in _ om])∘fD #[vB 2,vB 0,vI 0,vI (1+gH x.b.seq 281474976710657),vN]∘JV aG aO) λI=>(qC∘aP) λa Z e=>?_
  exact iV rfl Z (.cellS (i:=0) Z e rfl rfl aG rfl) (M0 (b:=x.made) (d:=⟨2,0,0,1+gH x.b.seq 281474976710657,[]⟩) (A:=none) (c:=0) (by unfold Sb.made;rw [if_pos r]) (acH _ _ _ _) (abu _) e.below)
 refine (aQ) λa Z e=>?_
 refine qy (λL M=>∃(m:aiW) (g:Nat) (u:Nat),Fr L 42 [] [(3,vP u 0),(5,.bool false),(2,vP G 0),(1,vP g1 0)]/\Mem w M [.blk u #[vB 1,vB (x.cpu%64:Nat),vI x.lost,vI 0,abl m es g] 85,abn m es g fC 73 11,ahW G,.blk g1 (x.cells A c) 113]/\(abo es<=g)) ?_ ?_
 ·
  refine Jb Z e ((Vs .n [20]) λN=>(Vf 0 1∘Vf 3 2∘Vf 6 1∘Vf 8 3∘Vf 10 5∘Vf 12 5∘Vc 1 O1∘Vp [2]∘Vo (vB (x.cpu%64:Nat)) (by exact zi .u8 _ 64)∘Vc 4 O1∘Vw 5 .i64∘Vc 7 O1∘Vy 9 (v:= .agg #[vI x.b.seq,vI x.b.time]) (h:=by exact Pe rfl rfl ⟨kr,kr⟩ rfl (λ_ h=>h.sub (i:=1) rfl 3 rfl))∘Vc 11 O1∘Vc 13 O1∘Vl 14∘Vy 15 (v:=vI (if (60:Int)<(abo x.l:Int) then 60 else (abo x.l:Int))) (h:=by exact Yl.min rfl rfl rfl)∘Vo (vI (abo (x.l.take 60))) (by exact He _ _ rfl)∘Vy 16 (h:=by exact aah AA (j:=abo (x.l.take 60)) rfl rfl rfl (by rw [abx];omega))) λa Z e p=>?_)
  refine zf [17,19] kr rfl ?_
  refine all_cons ?_ ?_
  ·refine qu Z (i:=17) rfl rfl ?_
   refine lF Z [vB x.cpu,.agg #[vI x.b.seq,vI x.b.time],abl A (x.l.take 60) c] rfl rfl (Zr x.cpu s.cpu x.b s.b _ _ _ (x.l.take 60) (Rs s) _ (by have h:=(e.old hr).upto (k:=abo (x.l.take 60)) (by rw [abx];omega);rw [MX sJ 11 EK] at h;rwa [ZK] at h) (by rw [abx];omega) (by rw [abx];omega)) ?_
   rintro _ F ⟨⟨v,rfl,y⟩,z⟩
   rw [show lX x.cpu x.b (x.l.take 60)=x.es from rfl,<-q] at y
   revert p;revert e;revert a;repeat (first|clear Z|clear e|clear p)
   intro a Z e p
   obtain ⟨m,g,rfl,o⟩:=BQ y
   refine ⟨_,rfl,?_⟩
   replace e:=e.cZ z y
   clear Z;intro a Z
   refine av (e.pk [1,2]) (λp=>?_)
   refine Vb Z e p ((Vy 18 (v:= .agg #[vB 1,vB (x.cpu%64:Nat),vI x.lost,vI 0,abl m es g]) (h:=by exact Yl.build (vs:=[(0,vB 1),(1,vB (x.cpu%64:Nat)),(2,vI x.lost),(4,abl m es g)]) rfl kr kr)∘VA 19 (.f .n) aiE) λJ u=>λa Z e p=>?_)
   refine s_on Z 20 rfl (bS Z e 0 rfl rfl rfl rfl rfl aG rfl rfl (by simp [abX]) λB e=>?_)
   refine dU kr ?_
   refine qe kr ?_
   exact ⟨m,g,u,Z.sub kr,e.pk [0,1,2,3],o⟩
  refine all_cons ?_ all_nil
  refine qu Z (i:=19) rfl rfl ?_
  refine gX Z e aiE ?_
  clear Z e;intro a J u Z e
  refine av (e.pk [1,2]) (λp=>?_)
  refine s_on Z 17 rfl ?_
  refine lF Z [vB x.cpu,.agg #[vI x.b.seq,vI x.b.time],abl A (x.l.take 60) c] rfl rfl (Zr x.cpu s.cpu x.b s.b _ _ _ (x.l.take 60) (Rs s) _ (by have h:=(e.old hr).upto (k:=abo (x.l.take 60)) (by rw [abx];omega);rw [MX sJ 11 EK] at h;rwa [ZK] at h) (by rw [abx];omega) (by rw [abx];omega)) ?_
  rintro _ F ⟨⟨v,rfl,y⟩,z⟩
  rw [show lX x.cpu x.b (x.l.take 60)=x.es from rfl,<-q] at y
  revert p;revert e;revert a;repeat (first|clear Z|clear e|clear p)
  intro a Z e p
  obtain ⟨m,g,rfl,o⟩:=BQ y
  refine ⟨_,rfl,?_⟩
  replace e:=e.cZ z y
  clear Z;intro a Z
  refine av (e.pk [2,3]) (λp=>?_)
  refine Vb Z e p ((Vy 18 (v:= .agg #[vB 1,vB (x.cpu%64:Nat),vI x.lost,vI 0,abl m es g]) (h:=by exact Yl.build (vs:=[(0,vB 1),(1,vB (x.cpu%64:Nat)),(2,vI x.lost),(4,abl m es g)]) rfl kr kr)) λa Z e p=>?_)
  refine s_on Z 20 rfl (bS Z e 1 rfl rfl rfl rfl rfl aG rfl rfl (by simp [abX]) λB e=>?_)
  refine dU kr ?_
  refine qe kr ?_
  exact ⟨m,g,u,Z.sub kr,e.pk [1,0,2,3],o⟩
 clear Z e;rintro a J ⟨m,g,u,Z,e,o⟩
 refine Jb Z e ((JQ∘JP∘Jg 4 O0∘Jl∘Jp 2) (Je (λC=>?_) λC=>?_))
 ·
  refine (Jg 2 O0∘Jp 2∘aJ∘Jj) (Je (λD=>?_) λD=>?_)
  ·
   refine (JT∘JR∘Jf 2∘JW aO iG) λK=>(mJ∘Jr∘eH aG O0∘JV aG iG) λt=>(mJ∘aP) λa Z e=>?_
   exact iV rfl Z (.cellS (i:=2) Z e rfl rfl aG rfl) (M0 (b:=x.made) (d:=⟨1,x.cpu%64,1,0,es⟩) (by unfold Sb.made;rw [if_neg (by rw [r];decide),<-q,if_pos ⟨by omega,by omega⟩]) (e.own (i:=1) rfl) o e.below)
  refine (aQ∘JP∘eH aG O0∘JV aG iG) λt=>(mJ∘aP) λa Z e=>?_
  exact iV rfl Z (.cellS (i:=2) Z e rfl rfl aG rfl) (M0 (b:=x.made) (d:=⟨1,x.cpu%64,(x.lost:Int),0,es⟩) (by unfold Sb.made;rw [if_neg (by rw [r];decide),<-q,if_neg om]) (e.own (i:=1) rfl) o e.below)
 refine (Jp 4∘aJ∘Jj∘aQ∘JP∘eH aG O0∘JV aG iG) λt=>(mJ∘aP) λa Z e=>?_
 exact iV rfl Z (.cellS (i:=2) Z e rfl rfl aG rfl) (M0 (b:=x.made) (d:=⟨1,x.cpu%64,(x.lost:Int),0,es⟩) (by unfold Sb.made;rw [if_neg (by rw [r];decide),<-q,if_neg om]) (e.own (i:=1) rfl) o e.below)
def Ba {v r w:Nat} (h:cB v r w=true):1<=w/\w<=65536/\r<w/\(v<18446744073709551615\/r=0):=by
 unfold cB at h
 rw [decide_eq_true_eq] at h
 omega
def znw {v r w:Nat} (h:1<=w/\w<=65536/\r<w/\(v<18446744073709551615\/r=0)):cB v r w=true:=by
 unfold cB
 rw [decide_eq_true_eq]
 omega
def Sk {z:Nat} (a:c<18446744073709551616) (hz:1<=z/\z<=65536):(⟨c,0,z⟩:En).Ok:=⟨znw ⟨hz.1,hz.2,by show 0<z;omega,.inr rfl⟩,a⟩
def IG (x:En) (a:x.Ok) (w:aiM):Calls abp 218 #[.agg x.cells] w (Is w (.bool true)):=by
 have c:=Ba a.1
 have b:=RN x.v x.r x.w a.2 om om w
 rw [a.1] at b
 exact b
def q1y (z:Nat) (hz:1<=z/\z<=65536) (w:aiM):Calls abp 267 #[vI z] w (Is w (.bool true)):=by
 have a:=qkk z w
 rw [decide_eq_true om] at a
 exact a
def q69 (x:En) (e:x.Ok) (d:Nat) (q:d<=4294967295) (w:aiM):
    Calls abp 266 #[.agg x.cells,vI d] w (Is w (.agg (x.add d).cells)):=by
 have j:=Ba e.1
 have k:=e.2
 have l:=Nat.div_le_self (d*1048576+x.r) x.w
 have o:=ad1 (d*1048576+x.r) (show x.w>0 by omega)
 refine (iP Tryz.func266 42) ?_
 refine (JP∘JE) λs t=>(JA #[vQ 0,vW 0,vW 0]) λu y=>(bg 1∘Jw .u64∘Jp 1∘Jo (vQ (d*1048576:Nat)) (by exact xQ om om)∘Jg 1 O1∘Jw .u64∘Ja∘Jp 1∘aJ∘Jj) λa Z b=>?_
 refine wp_seq ?_
 refine Jb Z b ((Vs .n []) λp=>(Vp [0]∘Vf 1 2∘Vp [5]∘Vf 6 2∘Vc 2 O1∘Vw 3 .u64∘Vy 4 (v:=vQ ((d*1048576+x.r)/x.w:Nat)) (h:=by exact abe (m:=(d*1048576+x.r)) (n:=x.w) rfl rfl rfl om (by show _<=18446744073709551615;omega))∘Vp [10]∘Vc 7 O1∘Vw 8 .u64∘Vy 9 (v:=vQ ((d*1048576+x.r)%x.w:Nat)) (h:=by exact aax (m:=(d*1048576+x.r)) (n:=x.w) rfl rfl rfl om)∘Vp [11]∘Vd∘eP∘bN 1∘Jg 0 O1∘Jp 1∘Jo (vQ (18446744073709551615-x.v:Nat)) (by exact xQ om om)∘Jp 1∘eP∘Jj) (Ji (λc=>?_) λc=>?_))
 ·
  refine (JT∘JP∘Jg 2 O1∘fD #[vQ 18446744073709551615,vW 0,vW x.w]∘JV qp aO) λf=>(nE∘aP) λa Z b=>?_
  exact iV rfl Z (.cellS (i:=0) Z b rfl rfl qp rfl) (⟨by rw [show x.add d=⟨nR,0,x.w⟩ from if_pos (by show 18446744073709551615-x.v<=_;omega)];rfl,b.below⟩)
 refine (aQ∘JP∘Jg 0 O1∘Jp 1∘Ja∘Jp 1∘Jv 1 [(38,vW (IntKind.u32.wrap (((d*1048576+x.r)%x.w:Nat):Int)))]∘Jo (vW ((d*1048576+x.r)%x.w:Nat)) (by exact BX rfl om)∘Jg 2 O1∘fD #[vQ (x.v+((d*1048576+x.r)/x.w):Nat),vW ((d*1048576+x.r)%x.w:Nat),vW x.w]∘JV qp aO) λg=>(iZ∘aP) λa Z b=>?_
 exact iV rfl Z (.cellS (i:=0) Z b rfl rfl qp rfl) (⟨by rw [show x.add d=⟨x.v+(d*1048576+x.r)/x.w,(d*1048576+x.r)%x.w,x.w⟩ from if_neg (by show ¬18446744073709551615-x.v<=_;omega)];rfl,b.below⟩)
def q1z (d:Int) (w:aiM):Calls abp 265 #[vI d] w (Is w (.bool (decide (0<=d/\d<=4294967295)))):=by
 refine (fE Tryz.func265 9) ?_
 refine (aM 1∘bg 3) (Ji (λa=>?_) λa=>?_)
 ·
  exact (Jp 4∘aJ∘aP∘aW) λb=>AL om b.below
 exact (Jp 4∘aJ∘aP∘aW) λb=>eG om b.below
def q10 (d:Nat) (b:d<=4294967295) (w:aiM):Calls abp 265 #[vI d] w (Is w (.bool true)):=by
 have a:=q1z d w
 rw [decide_eq_true om] at a
 exact a
def zdl (x:En) (e:x.Ok) (d:Nat) (f:d<=4294967295) (w:aiM):
    Calls abp 210 #[.agg x.cells,vI d] w (Is w (.tuple #[.agg (x.add d).cells,vI 0])):=by
 refine (iP Tryz.func210 18) ?_
 refine (JP∘JE) λl m=>(JA #[vQ 0,vW 0,vW 0]) λn o=>(bM 1∘JQ∘JP∘eH qp O1∘JI (h:=by exact λb=>IG x e _)) λp c=>(Jp 3∘JI (h:=by exact λb=>q10 d f _)) λj c=>(Jp 2∘aJ∘Jj∘aQ∘JP∘eH qp O1∘Jp 1∘JI (h:=by exact λb=>q69 x e d f _)) λk c=>(JV qp aO (h1:=by exact mD (x.add d))) λg=>(Jp 1∘eP∘aP) λa Z b=>?_
 exact dR rfl Z (.cellS (i:=0) Z b rfl rfl qp rfl) (.tmp Z rfl) (⟨rfl,b.below⟩)
def EX (x:En) (e:x.Ok) (z:Nat) (hz:1<=z/\z<=65536) (w:aiM):
    Calls abp 212 #[.agg x.cells,vI z] w (Is w (.tuple #[.agg (⟨x.v,0,z⟩:En).cells,vI 0])):=by
 refine (iP Tryz.func212 20) ?_
 refine (JP∘JE) λg j=>(JA #[vQ 0,vW 0,vW 0]) λk l=>(bM 1∘JQ∘JP∘eH qp O1∘JI (h:=by exact λb=>IG x e _)) λm c=>(Jp 3∘JI (h:=by exact λb=>q1y z hz _)) λf c=>(Jp 2∘aJ∘Jj∘aQ∘JP∘Jg 0 O1∘Jp 1∘Jv 1 [(18,vW (IntKind.u32.wrap (z:Int)))]∘Jo (vW z) (by exact BX rfl om)∘fD #[vQ x.v,vW 0,vW z]∘JV qp aO) λd=>(Jp 1∘fJ∘aP) λa Z b=>?_
 exact dR rfl Z (.cellS (i:=0) Z b rfl rfl qp rfl) (.tmp Z rfl) (⟨rfl,b.below⟩)
def qyp (a b:Nat) (c:a<18446744073709551616) (hb:b<18446744073709551616) (w:aiM):
    Calls abp 264 #[vQ a,vQ b] w (Is w (vQ ((a-b:Nat):Int))):=by
 refine (iP Tryz.func264 10) ?_
 exact (aM 1∘bg 3∘Jy (v:=vQ (if (b:Int)<(a:Int) then (b:Int) else (a:Int))) (h:=by exact Yl.min rfl rfl rfl)∘Jp 1∘Jo (vQ (a-b:Nat)) (by split<;>exact (xQ (m:=a-b) om om))∘Jp 1∘lq∘aP) tT
def zj1 (a b:Nat) (c:a<18446744073709551616) (hb:b<18446744073709551616) (w:aiM):
    Calls abp 304 #[vQ a,vQ b] w (Is w (vQ ((a+min b (18446744073709551615-a):Nat):Int))):=by
 refine (iP Tryz.func304 11) ?_
 exact (aM 1∘bg 4∘Jo (vQ (18446744073709551615-a:Nat)) (by exact xQ om om)∘Jy (v:=vQ (if ((18446744073709551615-a:Nat):Int)<(b:Int) then ((18446744073709551615-a:Nat):Int) else (b:Int))) (h:=by exact Yl.min rfl rfl rfl)∘Jo (vQ (min b (18446744073709551615-a):Nat)) (by rw [Nat.min_def];split<;>split<;>first|rfl|(congr 1;omega))∘Jp 1∘Jo (vQ (a+min b (18446744073709551615-a):Nat)) (by exact xQ om om)∘Jp 1∘aJ∘aP) tT
def qyq (b z:Nat) (f:b<18446744073709551616) (hz:1<=z/\z<=65536) (w:aiM):
    Calls abp 201 #[vQ b,vI z] w (Is w (.tuple #[.agg (⟨b,0,z⟩:En).cells,vI 0])):=by
 refine (iP Tryz.func201 23) ?_
 refine (JP∘JA #[vQ 0,vW 0,vW 0]) λk l=>(Jp 1∘bg 2∘Jv 1 [(9,vW (IntKind.u32.wrap (z:Int)))]∘Jo (vW z) (by exact BX rfl om)∘fD #[vQ b,vW 0,vW z]∘JA #[vQ 0,vW 0,vW 0]) λm n=>(JV qp aO) λd=>(fJ∘Jj∘JQ∘JP∘Jg 2 O0∘Jw .i64∘Jp 2∘Jo (.bool false) (by simp)∘Jp 1∘eH qp O0∘JI (h:=by exact λc=>IG (⟨b,0,z⟩:En) (Sk f hz) _)) λg j=>(Jp 2∘aJ∘Jj∘aQ∘JP∘eH qp O0∘JV qp gu) λe=>(Jp 1∘aL∘aP) λa Z c=>?_
 exact dR rfl Z (.cellS (i:=1) Z c rfl rfl qp rfl) (.tmp Z rfl) (⟨rfl,c.below⟩)
def q7a (x:En) (f:x.Ok) (b cr:Nat) (k:b<18446744073709551616) (hc:cr<18446744073709551616) (w:aiM):
    Calls abp 207 #[.agg x.cells,vQ b,vQ cr] w (Is w (.tuple #[.agg (x.woken b cr).cells,vI 0])):=by
 have l:=f.2
 refine (uL Tryz.func207 25) ?_
 refine (JP∘JE) λo p=>(JA #[vQ 0,vW 0,vW 0]) λq r=>(bM 1∘JQ∘JP∘eH qp O1∘JI (h:=by exact λc=>IG x f _)) λm e=>(Jp 1∘bU∘Jj∘aQ∘bN 2∘JI (h:=by exact λc=>qyp b cr k hc _)) λn e=>(Jp 1∘eP∘bg 1∘Jg 0 O1∘Jp 1∘bU∘Jj) (Ji (λd=>?_) λd=>?_)
 ·
  refine (JT∘aM 1∘Jg 2 O1∘fD #[vQ (b-cr:Nat),vW 0,vW x.w]∘JV qp aO) λg=>(Jp 1∘eP∘aP) λa Z c=>?_
  exact dR rfl Z (.cellS (i:=0) Z c rfl rfl qp rfl) (.tmp Z rfl) (⟨by rw [show x.woken b cr=⟨b-cr,0,x.w⟩ from if_pos om];rfl,c.below⟩)
 refine (aQ∘JP∘eH qp O1∘JV qp aO (h1:=by exact mD x)) λj=>(Jp 1∘aL∘aP) λa Z c=>?_
 exact dR rfl Z (.cellS (i:=0) Z c rfl rfl qp rfl) (.tmp Z rfl) (⟨by rw [show x.woken b cr=x from if_neg om],c.below⟩)
def q7b (x:En) (l:x.Ok) (fr to:Nat) (o:fr<18446744073709551616) (f:to<18446744073709551616) (w:aiM):
    Calls abp 269 #[.agg x.cells,vQ fr,vQ to] w (Is w (.tuple #[.agg (x.moved fr to).cells,vI 0])):=by
 have p:=l.2
 refine (uL Tryz.func269 35) ?_
 refine (JP∘JE) λt u=>(JA #[vQ 0,vW 0,vW 0]) λy z=>(bM 1∘JQ∘JP∘eH qp O1∘JI (h:=by exact λb=>IG x l _)) λA g=>(Jp 1∘bU∘Jj∘aQ∘JQ∘JP∘Jg 0 O1∘Jp 2∘bU∘Jj) (Ji (λj=>?_) λj=>?_)
 ·
  have c:uh x.v fr to=to+min (x.v-fr) (18446744073709551615-to):=if_pos om
  refine (JT∘JR∘Jp 1∘Jg 0 O1∘Jp 1∘Js∘JI (h:=by exact λb=>zj1 to (x.v-fr) f om _)) λq g=>(Jf 0) λa Z b=>?_
  refine fo Z 7 rfl rfl ?_
  refine rz Z b (i:=1) rfl rfl rfl rfl kr rfl rfl (by simp [En.cells]) λm b=>?_
  refine Jb Z b ((iZ∘Jj∘JQ∘JP∘Jg 0 O1∘Jp 1∘aL∘Jj) (Je (λd=>?_) λd=>?_))
  ·
   refine (JT∘JR∘Jf 1∘JW gu gu) λk=>(mJ∘Jr∘Jy (v:= .agg #[vQ (to+min (x.v-fr) (18446744073709551615-to):Nat),vW 0,vW x.w]) (h:=by exact Pe rfl rfl qp rfl (λ_ h=>qj (h.blk (i:=1) rfl)))∘JV qp aO) λe=>(Jp 1∘aL∘aP) λa Z b=>?_
   exact dR rfl Z (.cellS (i:=0) Z b rfl rfl qp rfl) (.tmp Z rfl) (⟨by rw [show x.moved fr to=⟨uh x.v fr to,0,x.w⟩ from congrArg (λr=>(⟨_,r,_⟩:En)) (if_pos (by rw [c];show _=18446744073709551615;omega)),c];rfl,b.below⟩)
  refine (aQ∘JP∘Jy (v:= .agg #[vQ (to+min (x.v-fr) (18446744073709551615-to):Nat),vW x.r,vW x.w]) (h:=by exact Pe rfl rfl qp rfl (λ_ h=>qj (h.blk (i:=1) rfl)))∘JV qp aO) λe=>(Jp 1∘aL∘aP) λa Z b=>?_
  exact dR rfl Z (.cellS (i:=0) Z b rfl rfl qp rfl) (.tmp Z rfl) (⟨by rw [show x.moved fr to=⟨uh x.v fr to,x.r,x.w⟩ from congrArg (λr=>(⟨_,r,_⟩:En)) (if_neg (by rw [c];show ¬_=18446744073709551615;omega)),c];rfl,b.below⟩)
 have c:uh x.v fr to=to- (fr-x.v):=(if_neg om).trans om
 refine (JF∘JR∘Jp 2∘Jg 0 O1∘Js∘JI (h:=by exact λb=>qyp to (fr-x.v) f om _)) λs g=>(Jf 0) λa Z b=>?_
 refine fo Z 7 rfl rfl ?_
 refine rz Z b (i:=1) rfl rfl rfl rfl kr rfl rfl (by simp [En.cells]) λn b=>?_
 refine Jb Z b ((iZ∘Jj∘JQ∘JP∘Jg 0 O1∘Jp 1∘aL∘Jj) (Je (λd=>?_) λd=>?_))
 ·
  refine (JT∘JR∘Jf 1∘JW gu gu) λk=>(mJ∘Jr∘Jy (v:= .agg #[vQ (to- (fr-x.v):Nat),vW 0,vW x.w]) (h:=by exact Pe rfl rfl qp rfl (λ_ h=>qj (h.blk (i:=1) rfl)))∘JV qp aO) λe=>(Jp 1∘aL∘aP) λa Z b=>?_
  exact dR rfl Z (.cellS (i:=0) Z b rfl rfl qp rfl) (.tmp Z rfl) (⟨by rw [show x.moved fr to=⟨uh x.v fr to,0,x.w⟩ from congrArg (λr=>(⟨_,r,_⟩:En)) (if_pos (by rw [c];show _=18446744073709551615;omega)),c];rfl,b.below⟩)
 refine (aQ∘JP∘Jy (v:= .agg #[vQ (to- (fr-x.v):Nat),vW x.r,vW x.w]) (h:=by exact Pe rfl rfl qp rfl (λ_ h=>qj (h.blk (i:=1) rfl)))∘JV qp aO) λe=>(Jp 1∘aL∘aP) λa Z b=>?_
 exact dR rfl Z (.cellS (i:=0) Z b rfl rfl qp rfl) (.tmp Z rfl) (⟨by rw [show x.moved fr to=⟨uh x.v fr to,x.r,x.w⟩ from congrArg (λr=>(⟨_,r,_⟩:En)) (if_neg (by rw [c];show ¬_=18446744073709551615;omega)),c];rfl,b.below⟩)
def yw {α:Type} {l:List α} {t u:α} (h:l[i]?=some t):(l.set i u)[i]?=some u:=adf (abB.1 h).1
theorem lW.split {α:Type} {a b:α} {l m:List α} (h:lW a b l m):∃p q,l=p++a::q/\m=p++b::q:=by
 induction h with
 |z=>exact ⟨[],_,rfl,rfl⟩
 |s _ c=>obtain ⟨p,q,rfl,rfl⟩:=c;exact ⟨_::p,q,rfl,rfl⟩
def q7c (W w:aiM) (g d tc i:Nat) (ts:List Tk) (t:Tk) (ht:ts[i]?=some t) (q:abo ts=d) (x:En) (k:x.Ok) (fs:List aiX) (b:Mem W w (fT (some ⟨g,0,none⟩) d tc ts::fs)):
    Calls abp 202 #[.pointer (some ⟨g,i*8,none⟩),.agg x.cells] w (λr l=>r= .returned (.tuple #[])/\Mem W l (fT (some ⟨g,0,none⟩) d tc (ts.set i (t.put x))::fs)):=by
 have m:=(abB.1 ht).1
 have o:=Ba k.1
 refine (mq b ahi 20) ?_
 refine (JP∘JE) λs u=>(Jj∘Vs (.t (.f .n)) [18]) λp=>(Vp [0,1,2]∘Vf 3 0∘Vf 5 1∘Vf 7 2∘Vc 4 O0∘Vc 6 O0∘Vc 8 O0∘Vw 9 .i64∘Vn 10∘Vf 11 6) λa Z b c=>?_
 refine s_on Z 12 rfl ?_
 refine zj Z b (i:=1) rfl rfl rfl rfl kr rfl rfl (by rw [rJ bX 8 qm];omega) λe b=>?_
 replace b:=b.dG (i:=1) (ys:=(ts.set i ({t with v:=x.v})).flatMap bX) rfl (vo bX 8 qm ts i t ({t with v:=x.v}) ht 6 de _ rfl)
 refine av (b.pt 2 [0]) (λc=>?_)
 refine Vb Z b c ((Vn 13∘Vf 14 7) λa Z b c=>?_)
 refine s_on Z 15 rfl ?_
 refine zj Z b (i:=1) rfl rfl rfl rfl kr rfl rfl (by rw [rJ bX 8 qm,abK];omega) λh b=>?_
 replace b:=b.dG (i:=1) (ys:=(ts.set i ({t with v:=x.v,r:=x.r})).flatMap bX) rfl ((vo bX 8 qm (ts.set i ({t with v:=x.v})) i ({t with v:=x.v}) ({t with v:=x.v,r:=x.r}) (yw ht) 7 de _ rfl).trans (by rw [afk]))
 refine av (b.pt 2 [0]) (λc=>?_)
 refine Vb Z b c ((Vn 16∘Vf 17 2) λa Z b c=>?_)
 refine s_on Z 18 rfl ?_
 refine zj Z b (i:=1) rfl rfl rfl rfl kr rfl rfl (by rw [rJ bX 8 qm,abK];omega) λj b=>?_
 replace b:=b.dG (i:=1) (ys:=(ts.set i (t.put x)).flatMap bX) rfl ((vo bX 8 qm (ts.set i ({t with v:=x.v,r:=x.r})) i ({t with v:=x.v,r:=x.r}) (t.put x) (yw ht) 2 de _ rfl).trans (by rw [afk]))
 refine dU kr ?_
 refine qe kr ?_
 exact iB rfl Z ⟨rfl,b.pt 2 [1]⟩
def Nw {tc:Nat} {ts:List Tk} {H:List aiX} (t:Tk) (x:En) (O:lW (fT (some ⟨g,0,none⟩) c tc ts) (fT (some ⟨g,0,none⟩) c tc (ts.set i (t.put x))) F H) (b:Mem W w F) (ht:ts[i]?=some t) (d:abo ts=c) (e:x.Ok):
  Calls abp 202 #[.pointer (some ⟨g,i*8,none⟩),.agg x.cells] w (λr a=>r= .returned (.tuple #[])/\Mem W a H):=by
 obtain ⟨p,q,rfl,rfl⟩:=O.split
 exact (q7c W w g c tc i ts t ht d x e (p++q) (b.perm ac8)).mono λr a h=>⟨h.1,h.2.perm List.perm_middle.symm⟩
def q11 (W w:aiM) (g:Nat) (t:Tk) (x:En) (i:x.Ok) (fs:List aiX) (b:Mem W w (.blk g t.cells 232::fs)):
    Calls abp 202 #[vP g 0,.agg x.cells] w (λr j=>r= .returned (.tuple #[])/\Mem W j (.blk g (t.put x).cells 232::fs)):=by
 have k:=Ba i.1
 replace b:Mem W w (.blk g #[vI t.id,vI t.group,vI t.weight,vI t.cpu,vQ t.mask,.bool t.ready,vQ t.v,vW t.r] 232::fs):=b
 refine (mq b ahi 20) ?_
 refine (JP∘JE) λm o=>(Jj∘Vs (.t (.f .n)) [18]) λl=>(Vp [0,1,2]∘Vf 3 0∘Vf 5 1∘Vf 7 2∘Vc 4 O0∘Vc 6 O0∘Vc 8 O0∘Vw 9 .i64∘Vn 10∘Vf 11 6) λa Z b c=>?_
 refine s_on Z 12 rfl (eO Z b 1 λd b=>?_)
 refine av (b.pt 2 [0]) (λc=>?_)
 refine Vb Z b c ((Vn 13∘Vf 14 7) λa Z b c=>?_)
 refine s_on Z 15 rfl (eO Z b 1 λe b=>?_)
 refine av (b.pt 2 [0]) (λc=>?_)
 refine Vb Z b c ((Vn 16∘Vf 17 2) λa Z b c=>?_)
 refine s_on Z 18 rfl (eO Z b 1 λh b=>?_)
 refine dU kr ?_
 refine qe kr ?_
 exact iB rfl Z ⟨rfl,b.pt 2 [1]⟩
def zj2 {H:List aiX} (t:Tk) (x:En) (O:lW (.blk g t.cells 232) (.blk g (t.put x).cells 232) F H) (b:Mem W w F) (c:x.Ok):
  Calls abp 202 #[vP g 0,.agg x.cells] w (λr a=>r= .returned (.tuple #[])/\Mem W a H):=by
 obtain ⟨p,q,rfl,rfl⟩:=O.split
 exact (q11 W w g t x c (p++q) (b.perm ac8)).mono λr a h=>⟨h.1,h.2.perm List.perm_middle.symm⟩
def Ny (id:Int) (w:aiM):Calls abp 197 #[vI id] w (Is w (.bool (decide (1<=id/\id<=65535)))):=by
 refine (fE Tryz.func197 9) ?_
 refine (aM 1∘bg 3) (Ji (λa=>?_) λa=>?_)
 ·
  exact (Jp 4∘aJ∘aP∘aW) λb=>AL om b.below
 exact (Jp 4∘aJ∘aP∘aW) λb=>eG om b.below
def zj3 (d:Nat) (cp:Int) (cr:Nat) (gA:aiW) (e gc:Nat) (lA:aiW) (f lc:Nat) (uA:aiW) (g uc:Nat) (tA:aiW) (i tc:Nat) (sA:aiW) (j sc:Nat) (c:Int) (w:aiM)
    (hm:w.heap[d]?=some (.cells #[vI cp,vQ cr,.slice gA e gc,.slice lA f lc,.slice uA g uc,.slice tA i tc,.slice sA j sc,.bool true] 273 (0,0))):
    Calls abp 196 #[vP d 0,vI c] w (Is w (.bool (decide (0<=c/\c<cp)))):=by
 refine (iP Tryz.func196 17) ?_
 refine (aM 1∘bg 3) (Ji (λa=>?_) λa=>?_)
 ·
  exact (Jp 2∘Jn∘Jf 0∘Jf 0∘Jf 0∘Jy (v:=vI cp) (h:=by exact Pd rfl rfl kr (λ_ h=>h.mH hm rfl))∘Jp 3∘aJ∘aP∘aW) λb=>AL om b.below
 exact (Jv 10 [aie]∘eP∘aP∘aW) λb=>eG om b.below
def EY {a b:Nat} (n:Nat) (e:Mem W w F) (f:F.drop n=jM d x m g k a b++T) (_:dY x m g k a b) (c:Int):Calls abp 196 #[vP d 0,vI c] w (Is w (.bool (decide (0<=c/\c<x.au)))):=by
 have h:fM d x.au x.aj x.gA m x.gc x.lA g x.lc x.uA k x.uc x.tA a x.tc x.sA b x.sc∈F:=abU (i:=n) (by rw [f];exact acj ..)
 exact zj3 d x.au x.aj x.gA m x.gc x.lA g x.lc x.uA k x.uc x.tA a x.tc x.sA b x.sc c w (e.holds _ h).2
def mX (gm:Nat) (x:aF):List aiX:=jM gm x (abo x.gs) (abo x.cl) (abo x.cu) (abo x.ts) (abo x.rs)
def kK (W:aiM) (gm:Nat) (T:List aiX) (out:iT) (r:aiQ) (w':aiM):Prop:=∃y:aF,r= .returned (.tuple #[.int .i64 out.2.1,.int .i64 (out.2.2:Int)])/\y.ay=out.1/\Mem W w' (mX gm y++T)
section
variable {W w w':aiM} {F A T fs:List aiX} {x y:aF} {ng nl nu nt ns gm g c n:Nat}
theorem Mem.iY (n:Nat) (h:Mem W w F) (a:F.drop n=A):Mem W w A:=a▸h.mV (List.drop_sublist ..)
theorem Mem.toB (h:Mem W w (jM gm y ng nl nu nt ns++T)) (a:sO y ng nl nu nt ns):Mem W w (mX gm y++T):=by
 obtain ⟨rfl,rfl,rfl,rfl,rfl⟩:=a
 exact h
def qv {out:iT} {got:Int} (n:Nat) (b:Mem W w F) (d:F.drop n=jM gm y ng nl nu nt ns++T) (f:sO y ng nl nu nt ns) (a:out=(y.ay,got,e)):kK W gm T out (.returned (.tuple #[.int .i64 got,.int .i64 (e:Int)])) w:=by
 subst a
 exact ⟨y,rfl,rfl,(b.iY n d).toB f⟩
structure gT (t:Tk) (cp:Int) (ns:Nat):Prop where
 id:1<=t.id/\t.id<=65535
 group:0<=t.group/\t.group<ns
 cpu:0<=t.cpu/\t.cpu<cp
 weight:1<=t.weight/\t.weight<=65536
 mask:yg t.mask cp=false
 bit:t.mask/2^t.cpu.toNat%2=1
 ent:cB t.v t.r t.weight=true
def Sl {s:bH} {t:Tk}:eF s t=true↔gT t s.au (abo s.sp):=by
 unfold eF mo
 simp only [abG,decide_eq_true_eq,acL]
 constructor
 ·rintro ⟨⟨b,d,e,f,i,j⟩,k,l,m,a⟩
  exact ⟨⟨b,d⟩,⟨e,f⟩,⟨i,j⟩,k,l,m,a⟩
 ·intro h
  exact ⟨⟨h.id.1,h.id.2,h.group.1,h.group.2,h.cpu.1,h.cpu.2⟩,h.weight,h.mask,h.bit,h.ent⟩
theorem dY.task (h:dY x ng nl nu nt ns) {k:Nat} {t:Tk} (ht:x.ts[k]?=some t):gT t x.au ns/\t.Ok:=by
 obtain ⟨a,rfl⟩:=abB.1 ht
 have b:=(EO (h.sh.tk k a)).2
 rw [abt,abr a] at b
 have d:=Sl.1 b
 rw [lJ,h.ln.s] at d
 exact ⟨d,h.ok.ts _ (ac7 a)⟩
theorem II {l:List Tk} {id:Int} (h:¬fidx l id<0):∃(k:Nat) (t:Tk),fidx l id=(k:Int)/\l[k]?=some t/\k<abo l/\t.id=id:=by grind [Tk.zero,qyl,getD_at]
theorem yx {s:bH} {id:Int} (h:fidx s.ts id=(k:Int)) (ht:s.ts[k]?=some t):oW s id=t:=by
 unfold oW
 rw [h]
 exact uT Tk.zero ht
def aaj {v r w:Nat} {f:Int} (h:cB v r f=true) (a:f=(w:Int)) (b:v<18446744073709551616):(⟨v,r,w⟩:En).Ok:=⟨by rw [a] at h;exact h,b⟩
def wF {w:Nat} (h:t.weight=(w:Int)):t.en=⟨t.v,t.r,w⟩:=by unfold Tk.en;rw [h];rfl
def EZ {x:aF} {ts':List Tk} (h:sO x ng nl nu nt ns) (ht:abo ts'=nt):sO {x with ts:=ts'} ng nl nu nt ns:=⟨h.g,h.l,h.u,ht,h.s⟩
def Nz {x:aF} {a:List Rw} (h:sO x ng nl nu nt ns) (ht:abo a=ns):sO {x with rs:=a} ng nl nu nt ns:=⟨h.g,h.l,h.u,h.t,ht⟩
end
def nf {b:Bool} (h:b=true):¬b=false:=by rw [h];decide
def zC {b:Bool} (h:b=false):¬b=true:=by rw [h];decide
section
variable {x:aF} {o:bP} {k gt ct wt c d g:Nat} {t:Tk} {e:En} {z:Sp} {em:List Nat}
def qs5 (h1:oV o.task=true) (a:mo o.weight=true) (hk:fidx x.ts o.task=(k:Int)) (ht:x.ts[k]?=some t) (b:o.weight=(wt:Int)):y5 x.ay o=(({x with ts:=x.ts.set k (t.put ⟨t.v,0,wt⟩)}:aF).ay,0,0):=by
 unfold y5
 rw [if_neg (nf h1),if_neg (nf a),if_neg (by rw [show x.ay.ts=x.ts from rfl,hk];omega),yx (s:=x.ay) hk ht,show x.ay.ts=x.ts from rfl,hk,abH,b]
 rfl
def q7d (h1:oV o.task=true) (hk:fidx x.ts o.task=(k:Int)) (ht:x.ts[k]?=some t) (hr:t.ready=false) (b:t.group=(gt:Int)) (hc:t.cpu=(ct:Int)) (f:t.weight=(wt:Int)) (hz:x.ay.spot gt ct=z) (h:(⟨t.v,t.r,wt⟩:En).woken z.floor x.aj=e) (a:lC x.ay gt ct=em):
  yZ x.ay o=(gZ ({x with ts:=x.ts.set k {t.put e with ready:=true}}:aF).ay em ct,0,0):=by
 unfold yZ
 rw [if_neg (nf h1),if_neg (by rw [show x.ay.ts=x.ts from rfl,hk];omega),yx (s:=x.ay) hk ht,if_neg (by rw [hr];decide)]
 show (gZ (x.ay.jN (fidx x.ts o.task).toNat {t.put (t.en.woken (x.ay.spot t.group.toNat t.cpu.toNat).floor x.aj) with ready:=true}) (lC x.ay t.group.toNat t.cpu.toNat) t.cpu.toNat,(0:Int),0)=_
 rw [hk,abH,b,hc,abH,abH,hz,wF f,h,a]
 rfl
def zdm (hc:o.cpu=(c:Int)) (a:x.ay.qJ o.cpu=true):kS x.ay o=(({x with cu:=x.cu.set c (pU x.ay c)}:aF).ay,(pU x.ay c:Int),0):=by
 unfold kS
 rw [if_neg (nf a),hc,abH]
 rfl
def E5 (c d g:Nat) (s:bH):bH:=qK c d g g s
def qs6 {c d g f:Nat} {s:bH} (b:∀i,0<i->i<=g->fq s.gs i) (h:g<=f):qK c d f g s=qK c d g g s:=by
 have key:∀(g f a:Nat) (s:bH),(∀i,0<i->i<=g->fq s.gs i)->g<=f->g<=a->qK c d f g s=qK c d a g s:=by
  intro g
  induction g using afb with
  | _ g l =>
   intro f a s b n p
   by_cases j:g=0
   ·subst j
    cases f<;>cases a<;>simp [qK]
   ·obtain ⟨f,rfl⟩:∃k,f=k+1:=⟨f-1,by omega⟩
    obtain ⟨a,rfl⟩:∃k,a=k+1:=⟨a-1,by omega⟩
    have m:=b g om (abu _)
    unfold fq at m
    have e:(s.par g).toNat<g:=by show (s.gs.getD g Gr.zero).parent.toNat<g;omega
    rw [qK,qK,if_neg j,if_neg j]
    exact l (s.par g).toNat e f a _ (λi hi q=>b i hi om) om om
 exact key g f g s b h (abu _)
def qs7 {s:bH} (b:∀i,0<i->i<=g->fq s.gs i) (f:0<g) {p:Nat} (a:(s.gs.getD g Gr.zero).parent=(p:Int)):E5 c d g s=E5 c d p (s.wo g c ((s.kJ g c).add d)):=by
 obtain ⟨k,rfl⟩:∃k,g=k+1:=⟨g-1,by omega⟩
 have h:=b (k+1) f (abu _)
 unfold fq at h
 show qK c d (k+1) (k+1) s=_
 rw [qK,if_neg om]
 have e:(s.par (k+1)).toNat=p:=by show (s.gs.getD (k+1) Gr.zero).parent.toNat=p;rw [a];rfl
 rw [e]
 exact qs6 (s:=s.wo (k+1) c ((s.kJ (k+1) c).add d)) (λi hi j=>b i hi om) om
def q7e (a:x.ay.qJ o.cpu=true) (h1:1<=o.ticks/\o.ticks<=4294967295) (hc:o.cpu=(c:Int)) {v:Int} (f:x.cl.getD c 0=v) (h:¬281474976710656<v+o.ticks) (b:x.cu.getD c 0=0):jO x.ay o=(({x with cl:=x.cl.set c (v+o.ticks)}:aF).ay,0,0):=by
 unfold jO
 rw [if_neg (nf a),if_neg om,hc,abH,show x.ay.cl=x.cl from rfl,f,if_neg h]
 dsimp only
 rw [show x.ay.cu=x.cu from rfl,if_pos b]
 rfl
def zdn (a:x.ay.qJ o.cpu=true) (h1:1<=o.ticks/\o.ticks<=4294967295) (hc:o.cpu=(c:Int)) (h:o.ticks=(d:Int)) {v id:Int} (i:x.cl.getD c 0=v) (j:¬281474976710656<v+o.ticks) (b:x.cu.getD c 0=id) (f:id≠0)
  (hk:fidx x.ts id=(k:Int)) (ht:x.ts[k]?=some t) (l:t.group=(gt:Int)) (m:t.weight=(wt:Int)) (n:(⟨t.v,t.r,wt⟩:En).add d=e):
  jO x.ay o=(E5 c d gt ({x with cl:=x.cl.set c (v+d),ts:=x.ts.set k (t.put e)}:aF).ay,id,0):=by
 unfold jO
 rw [if_neg (nf a),if_neg om,hc,abH,show x.ay.cl=x.cl from rfl,i,if_neg j]
 dsimp only
 rw [show x.ay.cu=x.cu from rfl,b,if_neg f,yx (s:=x.ay) hk ht,l,show x.ay.ts=x.ts from rfl,hk,abH,abH,h,abH,wF m,n]
 rfl
def upd {α:Type} (f:α->α) (l:List α) (k:Nat):List α:=(l.take k).map f++l.drop k
theorem zj4 {α:Type} (f:α->α) (l:List α) (k:Nat):abo (upd f l k)=abo l:=by grind [upd]
def zdo {α:Type} (f:α->α) (l:List α):upd f l 0=l:=rfl
theorem zj5 {α:Type} (f:α->α) (l:List α) {k:Nat} (h:abo l<=k):upd f l k=l.map f:=by grind [upd,acs,abL]
theorem zj6 {α:Type} (f:α->α) {l:List α} {k j:Nat} (h:k<=j):(upd f l k)[j]?=l[j]?:=by grind [upd]
theorem zj7 {α:Type} (f:α->α) {l:List α} {k:Nat} {z:α} (h:l[k]?=some z):(upd f l k).set k (f z)=upd f l (k+1):=by
 obtain ⟨a,rfl⟩:=abB.1 h
 unfold upd
 have b:abo ((l.take k).map f)=k:=by rw [abw,abx];omega
 rw [ae1,if_neg (by rw [b];omega),b,Nat.sub_self,List.drop_eq_getElem_cons a,List.set_cons_zero,List.take_succ_eq_append_getElem a,abZ,abv]
 rfl
def r0 (z:Sp):Sp:={z with r:=0}
def qwa (h:o.group=(g:Int)) (h1:1<=o.group/\o.group<abo x.rs) (i:mo o.weight=true) {A:aiW} {m:Nat} {yl:List Sp} (hy:x.rs.getD g Rw.zero=⟨A,m,yl⟩) {f:Gr} (a:x.gs.getD g Gr.zero=f):
  y7 x.ay o=(({x with rs:=x.rs.set g ⟨A,m,yl.map r0⟩,gs:=x.gs.set g {f with weight:=o.weight}}:aF).ay,0,0):=by
 have b:g<abo x.rs:=by omega
 unfold y7
 rw [if_neg (by rw [lJ];omega),if_neg (nf i),h,abH]
 unfold aF.ay
 simp only [afl]
 rw [ET b,hy,a]
 rfl
def zdp {to:Nat} {h i:Sp} (ht:x.ts[k]?=some t) (j:t.group=(gt:Int)) (hc:t.cpu=(ct:Int)) (l:t.weight=(wt:Int)) (a:x.ay.spot gt ct=h) (b:x.ay.spot gt to=i) (m:(⟨t.v,t.r,wt⟩:En).moved h.floor i.floor=e) (f:lC x.ay gt to=em):
  jF x.ay k (to:Int)=if t.ready=true then gZ ({x with ts:=x.ts.set k {t.put e with cpu:=(to:Int)}}:aF).ay em to else ({x with ts:=x.ts.set k {t.put e with cpu:=(to:Int)}}:aF).ay:=by
 have e1:x.ay.ts.getD k Tk.zero=t:=uT Tk.zero ht
 unfold jF
 rw [e1]
 dsimp only
 rw [j,hc,abH,abH,abH,a,b,wF l,m,f]
 rfl
end
def IJ (W:aiM) (gm:Nat) (T:List aiX) (s:bH) (r:aiQ) (w':aiM):Prop:=∃y:aF,r= .returned (.tuple #[])/\y.ay=s/\Mem W w' (mX gm y++T)
section
variable {W w w':aiM} {F A T fs:List aiX} {x y:aF} {ng nl nu nt ns gm g c n:Nat}
def q7f {s:bH} (n:Nat) (a:Mem W w F) (b:F.drop n=jM gm y ng nl nu nt ns++T) (d:sO y ng nl nu nt ns) (hs:y.ay=s):IJ W gm T s (.returned (.tuple #[])) w:=⟨y,rfl,hs,(a.iY n b).toB d⟩
def zg1 {out:iT} {got:Int} (n:Nat) (b:Mem W w F) (d:F.drop n=mX gm y++T) (a:out=(y.ay,got,e)):kK W gm T out (.returned (.tuple #[.int .i64 got,.int .i64 (e:Int)])) w:=by
 subst a
 exact ⟨y,rfl,rfl,b.iY n d⟩
theorem q7g {a:List Rw} (b:g<abo rs) (hz:yl[c]?=some z) (hr:a=rs.set g ⟨E,m,upd r0 yl c⟩):aT a g c (r0 z)=rs.set g ⟨E,m,upd r0 yl (c+1)⟩:=by grind [zd,r0,aT,upd,zj7,afk]
end
def mY:Option Nat->Int
 |none=> -1
 |some b=>(b:Int)
def zD (s:bH) (o:bP) (be:Int) (t:Tk):Bool:=uj s o t&& (decide (be<0)||decide ((s.ts.getD be.toNat Tk.zero).weight<t.weight))
section
variable {s:bH} {o:bP} {n:Nat}
theorem qyt:∀{n b:Nat},gP s o n=some b->b<n:=by intro x;induction x<;>grind [gP]
theorem qs8 {be:Int} (hb:mY (gP s o n)=be):mY (gP s o (n+1))=if zD s o be (s.ts.getD n Tk.zero) then (n:Int) else be:=by grind [Tk.zero,gP,mY,uj,zD]
def qmn {be:Int} (hb:mY (gP s o n)=be): -1<=be/\be<n:=by
 subst hb
 cases h:gP s o n with
 |none=>exact ⟨by decide,by show (-1:Int)<n;omega⟩
 |some b=>have:=qyt h;exact ⟨by show (-1:Int)<=(b:Int);omega,by show (b:Int)<n;omega⟩
theorem q12 {cpu:Int} {M:Int} (a:∀c,aH s c<=M/\0<=aH s c) (b:0<=M):∀n:Nat,-1<=(jd s cpu n).1/\(jd s cpu n).1<n/\ -1<=(jd s cpu n).2/\(jd s cpu n).2<=M:=by intro x;induction x<;>grind [jd,aH]
def Sn {cpu fr v:Int} (hb:jd s cpu n=(fr,v)):jd s cpu (n+1)=if (n:Int)≠cpu/\v<aH s n then ((n:Int),aH s n) else (fr,v):=by
 rw [jd,hb]
def qs9 {o:bP} (a:x.ay.qJ o.cpu=true) (hb:mY (gP x.ay o (abo x.ts))= -1):wu x.ay o=(x.ay,0,6):=by
 unfold wu
 rw [if_neg (nf a),show x.ay.ts=x.ts from rfl]
 cases h:gP x.ay o (abo x.ts) with
 |none=>rfl
 |some b=>rw [h] at hb;exact absurd hb (by show ((b:Nat):Int)≠ -1;omega)
def qta {o:bP} (a:x.ay.qJ o.cpu=true) (hb:mY (gP x.ay o (abo x.ts))=(k:Int)) (ht:x.ts[k]?=some t):wu x.ay o=(jF x.ay k o.cpu,t.id,0):=by
 unfold wu
 rw [if_neg (nf a),show x.ay.ts=x.ts from rfl]
 cases h:gP x.ay o (abo x.ts) with
 |none=>rw [h] at hb;exact absurd hb (by show (-1:Int)≠(k:Int);omega)
 |some b=>
  rw [h] at hb
  have e:b=k:=by have d:(b:Int)=(k:Int):=hb;omega
  subst e
  dsimp only
  rw [uT Tk.zero ht]
def qwb {o:bP} (h1:x.ay.qJ o.to=true) (a:oV o.task=true) (hk:fidx x.ts o.task=(k:Int)) (ht:x.ts[k]?=some t) (b:o.task∉x.cu) (d:t.cpu≠o.to) (e:jE t.mask o.to=true):y8 x.ay o=(jF x.ay k o.to,0,0):=by
 unfold y8
 rw [if_neg (nf h1),if_neg (nf a),if_neg (by rw [show x.ay.ts=x.ts from rfl,hk];omega),if_neg (show ¬o.task∈x.ay.cu from b),yx (s:=x.ay) hk ht,if_neg d,if_neg (nf e),show x.ay.ts=x.ts from rfl,hk,abH]
end
def Sq (t:Tk):∀u∈bX t,u.oneCell'=true:=by simp [bX,abX]
def q7h (l:List Tk) (t:Tk):l.flatMap bX++bX t=(l++[t]).flatMap bX:=by simp
def nL (l:List Tk):abo (l.flatMap bX)=abo l*8:=rJ bX 8 qm l
def zT (m:Nat):List aiN:=(ab2 (afp Tk.zero.cells).cells m).toList
def NA (m:Nat):abo (zT m)=m*8:=by unfold zT;rw [Array.length_toList,size_zeroCells];rfl
def znx (m:Nat):∀v∈zT m,v.oneCell'=true:=by
 intro v a
 unfold zT ab2 at a
 simp only [Array.toList_map,ab7] at a
 obtain ⟨k,_,rfl⟩:=a
 have hs:(afp Tk.zero.cells).cells.size=8:=rfl
 have b:k% (afp Tk.zero.cells).cells.size<8:=by rw [hs];exact ad1 _ de
 generalize k% (afp Tk.zero.cells).cells.size=j at b
 have:∀j,j<8->((afp Tk.zero.cells).cells[j]!).oneCell'=true:=by decide
 exact this j b
theorem Mem.mO {fs:List aiX} (h:Mem W w fs) {j g n c a:Nat} {l q:List Tk} {ys:List aiN} (hi:fs[j]?=some (.row (.slice (some ⟨g,0,none⟩) n c) n (l.flatMap bX++ys) 232 8)) (e:∃b,(l.drop a).take b=q) (o:a<=abo l):∀k v,(q.flatMap bX)[k]?=some v->w.cell? ((⟨g,a*8,none⟩:Addr).add k)=some v:=by
 obtain ⟨b,rfl⟩:=e
 intro k v d
 rw [acI]
 refine h.L9 hi (a*8) (ys:=((l.drop a).take b).flatMap bX) (λk v d=>?_) k v d
 have f:l.flatMap bX=(l.take a).flatMap bX++(((l.drop a).take b).flatMap bX++((l.drop a).drop b).flatMap bX):=by
  rw [<-ab1,ab8,<-ab1,ab8]
 have i:abo ((l.take a).flatMap bX)=a*8:=by rw [nL,abx];omega
 have m:=(abB.1 d).1
 rw [f,abv,<-i,List.getElem?_append_right (Nat.le_add_right _ _),Nat.add_sub_cancel_left,abv,adT m]
 exact d
def wG (l:List Tk) (id:Int):Nat:=abo (l.takeWhile λt=>decide (t.id<=id))
def qtb (l:List Tk) (id:Int):wG l id<=abo l:=(aeL _).length_le
def qon (l:List Tk) (id:Int):l.take (wG l id)=(l.takeWhile λt=>decide (t.id<=id))/\l.drop (wG l id)=(l.dropWhile λt=>decide (t.id<=id)):=by
 have a:=adO (l₁:=l.takeWhile λt=>decide (t.id<=id)) (l₂:=l.dropWhile λt=>decide (t.id<=id))
 have b:=List.drop_left (l₁:=l.takeWhile λt=>decide (t.id<=id)) (l₂:=l.dropWhile λt=>decide (t.id<=id))
 rw [afq] at a b
 exact ⟨a,b⟩
def qtc {l:List Tk} {id:Int} {k:Nat} (hk:k<=abo l) (h:∀j,j<k->(l.getD j Tk.zero).id<=id) (hs:k=abo l\/id<(l.getD k Tk.zero).id):wG l id=k:=by
 induction l generalizing k with
 |nil=>simp at hk;subst hk;rfl
 | cons t r b =>
  unfold wG at*
  cases k with
  | zero =>
   rcases hs with a|a
   ·simp at a
   ·have c:¬t.id<=id:=by have e:id<t.id:=a;omega
    rw [ae3,if_neg (by rw [decide_eq_true_eq];exact c)]
    rfl
  | succ k =>
   have d:t.id<=id:=h 0 om
   rw [ae3,if_pos (by rw [decide_eq_true_eq];exact d),abV]
   rw [b (k:=k) (by simpa using hk) (λj f=>h (j+1) om) (by
    rcases hs with a|a
    ·exact .inl (by simpa using a)
    ·exact .inr a)]
def sQ (w:aiM) (l:List Tk) (id:Int) (r:aiQ) (a:aiM):Prop:=(∃i:Int,r= .returned (.int .i64 i)/\(if i<0 then abo l else i.toNat)=wG l id/\ -1<=i/\i<=abo l)/\Below w.heap.size w a
def q13 {l:List Tk} {id:Int} (hk:k<abo l) (h:∀j,j<k->(l.getD j Tk.zero).id<=id) (hs:id<(l.getD k Tk.zero).id) (hb:Below w.heap.size w W):sQ w l id (.returned (.int .i64 (k:Int))) W:=
 ⟨⟨k,rfl,by rw [if_neg om,qtc om h (.inr hs)];rfl,by omega,by omega⟩,hb⟩
def q14 {l:List Tk} {id:Int} (h:∀j,j<abo l->(l.getD j Tk.zero).id<=id) (hb:Below w.heap.size w W):sQ w l id (.returned (.int .i64 (-1))) W:=
 ⟨⟨-1,rfl,by rw [if_pos de,qtc (abu _) h (.inl rfl)],by omega,by omega⟩,hb⟩
theorem q15 {l:List Tk} {id:Int} (h:∀j,j<k->(l.getD j Tk.zero).id<=id) (hk:(l.getD k Tk.zero).id<=id):∀j,j<k+1->(l.getD j Tk.zero).id<=id:=by grind
def ji (l:List Tk) (i:Nat) (t:Tk):List Tk:=l.take i++t::l.drop i
def qtd (l:List Tk) (i:Nat) (t:Tk):(ji l i t).flatMap bX=(l.take i).flatMap bX++(bX t++(l.drop i).flatMap bX):=by
 unfold ji
 rw [ab1,abR]
theorem NC {l:List Tk} {t:Tk} (h:i<=abo l):abo (ji l i t)=abo l+1:=by grind [ji]
def zdq {l:List Tk} {t:Tk} (h:i=abo l):l++[t]=ji l i t:=by
 subst h
 unfold ji
 rw [List.take_length,List.drop_length]
def zdr {l:List Tk} {t:Tk} (h:i<=abo l):putAt (putAt ((l.take i).flatMap bX++zT (abo l+1-i)) (i*8) (bX t)) ((i+1)*8) ((l.drop i).flatMap bX)=(ji l i t).flatMap bX:=by
 have a:abo ((l.take i).flatMap bX)=i*8:=by rw [nL,abx];omega
 have b:abo ((l.take i).flatMap bX++bX t)=(i+1)*8:=by rw [abq,a,qm];omega
 have e:((zT (abo l+1-i)).drop (abo (bX t))).drop (abo ((l.drop i).flatMap bX))=[]:=acs (by rw [abE,NA,qm,nL,abE];omega)
 rw [<-a,M5,<-b,M5,qtd,e,abM,abv]
def q7i {l:List Tk} {t:Tk} {ys:List aiN} (h:i<=abo l) (hy:abo ys=8):putAt (putAt (l.flatMap bX++ys) ((i+1)*8) ((l.drop i).flatMap bX)) (i*8) (bX t)=(ji l i t).flatMap bX:=by
 have a:abo ((l.take i).flatMap bX)=i*8:=by rw [nL,abx];omega
 have b:abo ((l.drop i).flatMap bX)=(abo l-i)*8:=by rw [nL,abE]
 have c:l.flatMap bX++ys=(l.take i).flatMap bX++((l.drop i).flatMap bX++ys):=by
  rw [<-abv,<-ab1,ab8]
 rw [c,show (i+1)*8=abo ((l.take i).flatMap bX)+8 by rw [a];omega,q1b,<-a,M5,qtd,abv]
 congr 2
 rw [qm]
 unfold putAt
 have e:((l.drop i).flatMap bX++ys).drop (8+abo ((l.drop i).flatMap bX))=[]:=acs (by rw [abq,b,hy];omega)
 rw [abv,List.drop_left' (by rw [abx,abq,b,hy];omega),e,abM]
def zds {l:List Tk} (h:i<abo l):(l.take i).flatMap bX++(l.drop (i+1)).flatMap bX=(l.eraseIdx i).flatMap bX:=by
 rw [<-ab1,List.eraseIdx_eq_take_drop_succ]
section
variable {x:aF} {o:bP} {k g c z:Nat} {t t1:Tk} {em:List Nat} {id:Int}
def q16 (a:x.ay.qJ o.cpu=true) (hc:o.cpu=(c:Int)) (b:x.cu.getD c 0=id) (d:id≠0) (hk:fidx x.ts id=(k:Int)) (ht:x.ts[k]?=some t) (e:o.kind≠4):sK x.ay o=(({x with cu:=x.cu.set c 0,ts:=x.ts.set k {t with ready:=false}}:aF).ay,id,0):=by
 unfold sK
 rw [if_neg (nf a),hc,abH,show x.ay.cu=x.cu from rfl,b,if_neg d]
 dsimp only
 rw [show x.ay.ts=x.ts from rfl,hk,abH,uT Tk.zero ht,if_neg e]
 rfl
def zdt (a:x.ay.qJ o.cpu=true) (hc:o.cpu=(c:Int)) (b:x.cu.getD c 0=id) (d:id≠0) (hk:fidx x.ts id=(k:Int)) (ht:x.ts[k]?=some t) (e:o.kind=4):sK x.ay o=(({x with cu:=x.cu.set c 0,ts:=(x.ts.set k {t with ready:=false}).eraseIdx k}:aF).ay,id,0):=by
 unfold sK
 rw [if_neg (nf a),hc,abH,show x.ay.cu=x.cu from rfl,b,if_neg d]
 dsimp only
 rw [show x.ay.ts=x.ts from rfl,hk,abH,uT Tk.zero ht,if_pos e]
 rfl
def qte (a:x.ay.qJ o.cpu=true) (h1:oV o.task=true) (h:0<=o.group/\o.group<abo x.rs) (e:¬(mo o.weight=false\/o.mask=0\/yg o.mask x.au=true)) (i:fidx x.ts o.task<0) (f:jE o.mask o.cpu=true) (d:o.group=(g:Int)) (hc:o.cpu=(c:Int)) {m:Nat} (hz:(x.ay.spot g c).floor=m)
  (ht:(⟨o.task,o.group,o.weight,o.cpu,o.mask,true,m,0⟩:Tk)=t1) (b:lC x.ay g c=em):yY x.ay o=(gZ ({x with ts:=ji x.ts (wG x.ts o.task) t1}:aF).ay em c,0,0):=by
 unfold yY
 rw [if_neg (nf a),if_neg (nf h1),if_neg (by rw [lJ];omega),if_neg (show ¬(mo o.weight=false\/o.mask=0\/yg o.mask x.ay.au=true) from e),if_neg (by rw [show x.ay.ts=x.ts from rfl];omega),if_neg (nf f),d,hc,abH,abH,b,hz]
 rw [d,hc] at ht
 rw [show x.ay.ts=x.ts from rfl,ht]
 unfold ji
 rw [(qon x.ts o.task).1,(qon x.ts o.task).2]
 rfl
end
structure jk (s:bH):Prop where
 ok:s.Ok
 au:1<=s.au/\s.au<=64
 aj:s.aj<=1099511627776
 gs:dO s.gs=true
 cl:(abo s.cl:Int)=s.au
 cu:(abo s.cu:Int)=s.au
 sp:abo s.sp=abo s.gs
 cls:∀c,c<abo s.cl->iQ (s.cl.getD c 0)=true
 rows:∀g,g<abo s.sp->(abo (s.sp.getD g []):Int)=s.au
 spots:∀(g c:Nat),g<abo s.sp->(c:Int)<s.au->eZ s g (s.spot g c)=true
 sort:fK s.ts
 tasks:∀t∈s.ts,gT t s.au (abo s.sp)
def kV (s:bH):Prop:=∀c,c<abo s.cu->s.cu.getD c 0=0\/∃t∈s.ts,t.id=s.cu.getD c 0/\t.ready=true/\t.cpu=(c:Int)
structure GoodS (s:bH):Prop where
 sh:jk s
 cur:kV s
theorem qyv {s:bH}:(∀i,i<abo s.ts->(i=0\/(s.ts.getD (i-1) Tk.zero).id<(s.ts.getD i Tk.zero).id))↔fK s.ts:=by
 constructor
 ·intro h i j b
  induction j with
  |zero=>omega
  |succ j d=>
   grind
 ·intro h i hi
  rcases ach i with a|a
  ·exact .inl a
  ·exact .inr (h (i-1) i om hi)
def wH {α:Type} {l:List α} {x:α} (d:α) (h:x∈l):∃i,i<abo l/\l.getD i d=x:=by
 obtain ⟨i,hi,rfl⟩:=acp h
 exact ⟨i,hi,by rw [abt,abr hi];rfl⟩
theorem ND {s:bH} (b:s.Ok):nQ s=true↔jk s:=by
 unfold nQ gK M7
 simp only [abG,decide_eq_true_eq]
 constructor
 ·rintro ⟨⟨⟨⟨f,j,k⟩,l⟩,m,n,o⟩,p,r,q⟩
  have d:∀g,g<abo s.sp->(abo (s.sp.getD g []):Int)=s.au/\∀c,c<abo (s.sp.getD g [])->eZ s g (s.spot g c)=true:=λg a=>by
   grind [vV,rowOk]
  have ht:∀i,i<abo s.ts->(i=0\/(s.ts.getD (i-1) Tk.zero).id<(s.ts.getD i Tk.zero).id)/\eF s (s.ts.getD i Tk.zero)=true:=λi hi=>by
   grind [vV,jr]
  refine ⟨b,⟨f,j⟩,k,l,m,n,o,λc hc=>vV p hc,λg a=>(d g a).1,λg c a hc=>(d g a).2 c (by have:=(d g a).1;omega),qyv.1 λi hi=>(ht i hi).1,λt e=>?_⟩
  obtain ⟨i,hi,rfl⟩:=wH Tk.zero e
  exact Sl.1 (ht i hi).2
 ·intro h
  refine ⟨⟨⟨⟨h.au.1,h.au.2,h.aj⟩,h.gs⟩,h.cl,h.cu,h.sp⟩,vU h.cls,vU λg a=>?_,vU λi hi=>?_⟩
  ·unfold rowOk
   rw [abG,decide_eq_true_eq]
   exact ⟨h.rows g a,vU λc hc=>h.spots g c a (by have:=h.rows g a;omega)⟩
  ·unfold jr
   rw [abG,adD,beq_iff_eq,decide_eq_true_eq]
   exact ⟨qyv.2 h.sort i hi,Sl.2 (h.tasks _ (qf Tk.zero hi))⟩
def q7j {l:List Tk} (hs:fK l) (h1:∀t∈l,1<=t.id):∀i:Nat,i<abo l->((i:Nat):Int)+1<=(l.getD i Tk.zero).id
 |0,h=>by have:=h1 _ (qf Tk.zero h);omega
 |i+1,h=>by
  have:=q7j hs h1 i om
  have:=hs i (i+1) om h
  omega
def jk.few {s:bH} (h:jk s):abo s.ts<=65535:=by
 rcases ach (abo s.ts) with a|a
 ·omega
 ·have b:=q7j h.sort (λt ht=>(h.tasks t ht).id.1) (abo s.ts-1) om
  have d:=(h.tasks _ (qf Tk.zero (show abo s.ts-1<abo s.ts by omega))).id.2
  omega
def zj8 {l:List Tk} (hs:fK l) {t u:Tk} (ht:t∈l) (d:u∈l) (h:t.id=u.id):t=u:=by
 obtain ⟨i,hi,rfl⟩:=wH Tk.zero ht
 obtain ⟨j,e,rfl⟩:=wH Tk.zero d
 rcases ab6 i j with a|a
 ·have:=hs i j a e;omega
 ·rcases ab6 j i with b|b
  ·have:=hs j i b hi;omega
  ·rw [show i=j by omega]
def q7k {l:List Tk} (hs:fK l) {i:Nat} (hi:i<abo l):fidx l (l.getD i Tk.zero).id=(i:Int):=by
 unfold fidx
 rw [RF hi rfl (λk a=>by have:=hs k i a hi;omega)]
theorem NG {s:bH} (hs:fK s.ts):(∀c,c<abo s.cu->fu s c=true)↔kV s:=by
 have key:∀c,fu s c=true↔(s.cu.getD c 0=0\/∃t∈s.ts,t.id=s.cu.getD c 0/\t.ready=true/\t.cpu=(c:Int)):=by
  intro c
  unfold fu
  rw [adD,decide_eq_true_eq]
  refine or_congr Iff.rfl ?_
  constructor
  ·grind [Tk.zero,RG,qf]
  ·rintro ⟨t,ht,a,d,e⟩
   obtain ⟨i,hi,rfl⟩:=wH Tk.zero ht
   rw [<-a,RF hi rfl (λk b=>by have:=hs k i b hi;omega)]
   grind
 exact ⟨λh c hc=>(key c).1 (h c hc),λh c hc=>(key c).2 (h c hc)⟩
def NH {y:aF} (h:jk y.ay):dY y (abo y.gs) (abo y.cl) (abo y.cu) (abo y.ts) (abo y.rs):=by
 have d:=(qt h.gs).2.1
 have a:abo y.gs<=256:=d
 have f:abo y.rs=abo y.gs:=by rw [<-lJ];exact h.sp
 have j:(abo y.cl:Int)=y.au:=h.cl
 have k:(abo y.cu:Int)=y.au:=h.cu
 have m:1<=y.au/\y.au<=64:=h.au
 have n:abo y.ts<=65535:=h.few
 refine ⟨h.ok,⟨by omega,by omega,by omega,by omega,by omega,λr e=>?_⟩,vZ ((ND h.ok).2 h),⟨rfl,rfl,rfl,rfl,rfl⟩⟩
 obtain ⟨g,a,rfl⟩:=wH Rw.zero e
 have b:=h.rows g (by rw [lJ];exact a)
 rw [kC a] at b
 have o:((y.rs.getD g Rw.zero).l.length:Int)=y.au:=b
 omega
section
variable {s:bH} {g c i:Nat} {z:Sp} {t t':Tk}
theorem zdu (d:g<abo s.sp) (hc:c<abo (s.sp.getD g [])):∀a b,(s.yh g c z).spot a b=if a=g/\b=c then z else s.spot a b:=by grind [bH.yh,bH.spot,getD_set_ne,zd]
def E8:(s.yh g c z).sp.length=abo s.sp:=abK ..
theorem qtf (a:Nat):abo ((s.yh g c z).sp.getD a [])=abo (s.sp.getD a []):=by grind [bH.yh,getD_set_ne,zd]
theorem jk.spot (h:jk s) (b:g<abo s.sp) (hc:(c:Int)<s.au) (hz:z.Ok) (hs:eZ s g z=true):jk (s.yh g c z):=by
 have k:=h.rows g b
 have d:=zdu (z:=z) b (show c<abo (s.sp.getD g []) by omega)
 refine ⟨⟨h.ok.au,h.ok.aj,h.ok.gs,h.ok.cl,h.ok.cu,h.ok.ts,λl n y m=>?_⟩,h.au,h.aj,h.gs,h.cl,h.cu,E8.trans h.sp,h.cls,λf a=>?_,λf o a j=>?_,h.sort,λu p=>?_⟩
 ·rcases ab4 (show l∈s.sp.set g ((s.sp.getD g []).set c z) from n) with q|rfl
  ·exact h.ok.sp l q y m
  ·rcases ab4 m with r|rfl
   ·exact h.ok.sp _ (qf [] b) y r
   ·exact hz
 ·rw [qtf];exact h.rows f (by rwa [E8] at a)
 ·rw [d]
  rw [E8] at a
  split
  ·rename_i e;rw [e.1];exact hs
  ·exact h.spots f o a j
 ·rw [E8];exact h.tasks u p
theorem zdv {l:List Tk} (hs:fK l) (ht:l[i]?=some t) (f:t'.id=t.id):fK (l.set i t'):=by
 have key:∀k,((l.set i t').getD k Tk.zero).id=(l.getD k Tk.zero).id:=by
  grind
 intro a b d e
 rw [abK] at e
 rw [key,key]
 exact hs a b d e
theorem jk.task (h:jk s) (ht:s.ts[i]?=some t) (a:t'.id=t.id) (e:t'.Ok) (f:gT t' s.au (abo s.sp)):jk (s.jN i t'):=by
 refine ⟨⟨h.ok.au,h.ok.aj,h.ok.gs,h.ok.cl,h.ok.cu,λu b=>?_,h.ok.sp⟩,h.au,h.aj,h.gs,h.cl,h.cu,h.sp,h.cls,h.rows,h.spots,zdv h.sort ht a,λu b=>?_⟩
 ·rcases ab4 b with d|rfl
  ·exact h.ok.ts u d
  ·exact e
 ·rcases ab4 b with d|rfl
  ·exact h.tasks u d
  ·exact f
theorem kV.task (h:kV s) (hs:fK s.ts) (ht:s.ts[i]?=some t) (b:t'.id=t.id) (hr:t.ready=true->(∃c,c<abo s.cu/\s.cu.getD c 0=t.id/\t.cpu=(c:Int))->t'.ready=true/\t'.cpu=t.cpu):kV (s.jN i t'):=by
 intro c hc
 rcases h c hc with a|⟨u,l,a,m,d⟩
 ·exact .inl a
 ·refine .inr ?_
  have hi:=(abB.1 ht).1
  have f:t∈s.ts:=abJ ht
  by_cases e:u.id=t.id
  ·have e2:=zj8 hs l f e
   subst e2
   obtain ⟨n,o⟩:=hr m ⟨c,hc,a.symm,d⟩
   exact ⟨t',abJ (adf hi),b.trans a,n,o.trans d⟩
  ·obtain ⟨j,p,rfl⟩:=wH Tk.zero l
   have k:i≠j:=λe2=>e (by subst e2;rw [uT Tk.zero ht])
   refine ⟨s.ts.getD j Tk.zero,?_,a,m,d⟩
   have q:(s.ts.set i t')[j]?=some (s.ts.getD j Tk.zero):=by rw [aeW k];exact getD_at Tk.zero p
   exact abJ q
end
section
variable {s:bH} {g c i d:Nat} {z:Sp} {t t':Tk} {e:En} {o:bP}
def q7l (h:jk s) (a:g<abo s.gs):∃w:Nat,(s.gs.getD g Gr.zero).weight=(w:Int)/\1<=w/\w<=65536:=Nv h.gs a
theorem zdw (a:0<g) (h:cB z.v z.r (s.gs.getD g Gr.zero).weight=true):eZ s g z=true:=by grind [eZ]
def zdx (h:jk s) (a:g<abo s.sp) (hc:(c:Int)<s.au):cB (s.spot g c).v (s.spot g c).r (s.gs.getD g Gr.zero).weight=true:=by
 have:=h.spots g c a hc
 unfold eZ at this
 rw [abG] at this
 exact this.1
def q7m (h:jk s) (b:g<abo s.sp) (hc:(c:Int)<s.au):(s.kJ g c).Ok/\((s.kJ g c).w:Int)=(s.gs.getD g Gr.zero).weight:=by
 obtain ⟨w,a,_⟩:=q7l h (g:=g) (by rw [<-h.sp];exact b)
 have f:=zdx h b hc
 have e:s.kJ g c=⟨(s.spot g c).v,(s.spot g c).r,w⟩:=by unfold bH.kJ;rw [a];rfl
 rw [e]
 exact ⟨aaj f a (zB h.ok g c).v,a.symm⟩
def IK {v r w:Nat} (h:cB v r w=true):r<65536:=by
 unfold cB at h
 rw [decide_eq_true_eq] at h
 omega
def jk.run (h:jk s) (b:0<g) (f:g<abo s.sp) (hc:(c:Int)<s.au) (a:e.Ok) (j:(e.w:Int)=(s.gs.getD g Gr.zero).weight):jk (s.wo g c e):=by
 refine h.spot f hc ⟨a.2,?_,(zB h.ok g c).floor⟩ (zdw b ?_)
 ·show e.r<_
  have:=IK a.1
  omega
 ·show cB e.v e.r _=true
  rw [<-j];exact a.1
def q7n:(s.wo g c e).sp.length=abo s.sp:=E8
def jk.wake (h:jk s) (hc:(c:Int)<s.au):∀(l:List Nat),(∀g∈l,0<g/\g<abo s.sp)->jk (gZ s l c):=by
 intro l
 induction l generalizing s with
 |nil=>intro _;exact h
 |cons g r n=>
  intro b
  have f:=b g (acj ..)
  have j:=q7m h f.2 hc
  have k:=aaw j.1 (s.spot (s.par g).toNat c).floor s.aj (zB h.ok _ _).floor
  have p:jk (l5 c s g):=h.run f.1 f.2 hc k.1 (by rw [k.2];exact j.2)
  exact n (s:=l5 c s g) p hc λm a=>⟨(b m (ab5 _ a)).1,by rw [show (l5 c s g).sp.length=abo s.sp from q7n];exact (b m (ab5 _ a)).2⟩
structure dW (s s':bH):Prop where
 au:s'.au=s.au
 aj:s'.aj=s.aj
 gs:s'.gs=s.gs
 cl:s'.cl=s.cl
 cu:s'.cu=s.cu
 ts:s'.ts=s.ts
 len:abo s'.sp=abo s.sp
 row:∀g,abo (s'.sp.getD g [])=abo (s.sp.getD g [])
def dW.refl (s:bH):dW s s:=⟨rfl,rfl,rfl,rfl,rfl,rfl,rfl,λ_=>rfl⟩
def dW.trans {a b c:bH} (h:dW a b) (k:dW b c):dW a c:=⟨k.au.trans h.au,k.aj.trans h.aj,k.gs.trans h.gs,k.cl.trans h.cl,k.cu.trans h.cu,k.ts.trans h.ts,k.len.trans h.len,λg=>(k.row g).trans (h.row g)⟩
theorem dW.spot:dW s (s.yh g c z):=⟨rfl,rfl,rfl,rfl,rfl,rfl,E8,qtf⟩
def Dk (c:Nat):∀(l:List Nat) (s:bH),dW s (gZ s l c)
 |[],s=>dW.refl s
 |g::r,s=>(dW.spot (s:=s)).trans (Dk c r (l5 c s g))
def Sr (c d:Nat):∀(f g:Nat) (s:bH),dW s (qK c d f g s)
 |0,_,s=>dW.refl s
 |f+1,g,s=>by
  rw [qK]
  split
  ·exact dW.refl s
  ·exact (dW.spot (s:=s)).trans (Sr c d f _ _)
def jk.Dl (h:jk s) (hc:(c:Int)<s.au) (d:Nat):∀(f g:Nat),g<abo s.sp->jk (qK c d f g s):=by
 intro f
 induction f generalizing s with
 |zero=>intro g _;exact h
 | succ f k =>
  intro g a
  rw [qK]
  split
  ·exact h
  ·rename_i n
   have b:=q7m h a hc
   have j:=aaA b.1 d
   have l:jk (s.wo g c ((s.kJ g c).add d)):=h.run om a hc j.1 (by rw [j.2];exact b.2)
   have m:=yX h.gs (g:=g) (by rw [<-h.sp];exact a) g om (abu _)
   unfold fq at m
   exact k (s:=s.wo g c ((s.kJ g c).add d)) l hc _ (by rw [q7n];show (s.gs.getD g Gr.zero).parent.toNat<_;omega)
theorem Sv (a:g<abo s.sp):(gF s).sp.getD g []=(s.sp.getD g []).mapIdx λc x=>iR s g c x:=by grind [gF]
theorem zF:(gF s).sp.length=abo s.sp:=by unfold gF;dsimp only;rw [afd]
theorem qyw (g:Nat):abo ((gF s).sp.getD g [])=abo (s.sp.getD g []):=by grind [Sv,zF]
theorem qtg (a:g<abo s.sp) (hc:c<abo (s.sp.getD g [])):(gF s).spot g c=iR s g c (s.spot g c):=by grind [bH.spot,Sv]
theorem Sw (g c:Nat):((gF s).spot g c).v=(s.spot g c).v/\((gF s).spot g c).r=(s.spot g c).r:=by grind [bH.spot,q64,gF,zF,qyw,qtg]
theorem zdy (g c:Nat):aU (gF s) g c=aU s g c:=by grind [qok,gF,zF,Sw]
def zny (a:s.Ok) (b:aU s g c≠[]):(aN bO (aU s g c)).v<18446744073709551616:=by
 rcases Nq (Si a b) with ⟨t,ht,_,f⟩|⟨h,_,_,_,_,j⟩
 ·rw [f];exact (a.ts t ht).v
 ·rw [j];exact (zB a h c).v
def zdz (a:s.Ok) (hz:z.Ok):(iR s g c z).Ok:=by
 unfold iR
 split
 ·exact hz
 ·rename_i b
  have:=zny a (show aU s g c≠[] by simpa using b)
  refine ⟨hz.v,hz.r,?_⟩
  show max z.floor (aN bO (aU s g c)).v<_
  have:=hz.floor
  rw [agr]
  split<;>omega
def zj9 {s s':bH} (a:s'.gs=s.gs) {z b:Sp} (f:b.v=z.v) (hr:b.r=z.r):eZ s' g b=eZ s g z:=by
 unfold eZ
 rw [a,f,hr]
def jk.rise (h:jk s):jk (gF s):=by
 refine ⟨⟨h.ok.au,h.ok.aj,h.ok.gs,h.ok.cl,h.ok.cu,h.ok.ts,λl f y b=>?_⟩,h.au,h.aj,h.gs,h.cl,h.cu,zF.trans h.sp,h.cls,λg a=>?_,λg c a hc=>?_,h.sort,λu j=>?_⟩
 ·obtain ⟨g,a,rfl⟩:=wH [] f
  rw [zF] at a
  rw [Sv a] at b
  obtain ⟨c,hc,rfl⟩:=acp b
  rw [ae2]
  exact zdz h.ok (h.ok.sp _ (qf [] a) _ (ac7 _))
 ·rw [qyw];exact h.rows g (by rwa [zF] at a)
 ·rw [zF] at a
  have e:=zj9 (s:=s) (s':=gF s) (g:=g) rfl (Sw (s:=s) g c).1 (Sw (s:=s) g c).2
  rw [e]
  exact h.spots g c a hc
 ·rw [zF];exact h.tasks u j
def GoodS.rise (h:GoodS s):GoodS (gF s):=⟨h.sh.rise,h.cur⟩
theorem q17 (h:GoodS s):lu (gF s)=true:=by
 have a:=h.rise
 unfold lu
 rw [(ND a.sh.ok).2 a.sh,acn]
 refine vU λc hc=>?_
 rw [(NG a.sh.sort).2 a.cur c hc,acn]
 refine vU λg b=>?_
 rw [zF] at b
 have f:(c:Int)<s.au:=by have k:=h.sh.cu;have l:c<abo s.cu:=hc;omega
 have j:c<abo (s.sp.getD g []):=by have:=h.sh.rows g b;omega
 grind [kR,aU,iR,zdy,qtg]
theorem q18 (a:s.Ok) (h:lu s=true):GoodS s:=by
 unfold lu at h
 rw [abG] at h
 have b:=(ND a).1 h.1
 refine ⟨b,(NG b.sort).1 λc hc=>?_⟩
 grind [vV]
def IL (h:jk s) (ht:s.ts[i]?=some t):gT t s.au (abo s.sp)/\t.Ok:=⟨h.tasks t (abJ ht),h.ok.ts t (abJ ht)⟩
def NI (a:gT t s.au (abo s.sp)) (b:t.Ok) (h:e.Ok):gT (t.put e) s.au (abo s.sp)/\(t.put e).Ok:=by
 have f:=h.1
 unfold cB at f
 rw [decide_eq_true_eq] at f
 refine ⟨⟨a.id,a.group,a.cpu,⟨f.1,f.2.1⟩,a.mask,a.bit,h.1⟩,⟨b.id,b.group,?_,b.cpu,b.mask,h.2,?_⟩⟩
 ·show aX ((e.w:Nat):Int);unfold aX;omega
 ·show e.r<_;omega
def qoo (a:gT t s.au (abo s.sp)) (f:t.Ok) (b:Bool):gT {t with ready:=b} s.au (abo s.sp)/\({t with ready:=b}:Tk).Ok:=⟨⟨a.id,a.group,a.cpu,a.weight,a.mask,a.bit,a.ent⟩,⟨f.id,f.group,f.weight,f.cpu,f.mask,f.v,f.r⟩⟩
def Sy (a:gT t s.au (abo s.sp)) (b:t.Ok):t.en.Ok/\(t.en.w:Int)=t.weight:=by
 have f:=a.weight
 have e:t.en=⟨t.v,t.r,t.weight.toNat⟩:=rfl
 rw [e]
 exact ⟨aaj a.ent om b.v,by show ((t.weight.toNat:Nat):Int)=t.weight;omega⟩
theorem Sz {id:Int} (h:¬fidx s.ts id<0):∃(k:Nat) (t:Tk),fidx s.ts id=(k:Int)/\s.ts[k]?=some t/\t.id=id/\oW s id=t:=by grind [II,yx]
def SA (h:jk s) (a:g<abo s.sp):∀k∈lC s g c,0<k/\k<abo s.sp:=λk b=>by
 have:=qoi (s:=s) (c:=c) (g:=g) (yX h.gs (by rw [<-h.sp];exact a)) k b
 exact ⟨this.1,by omega⟩
theorem kV.but {s s':bH} (h:kV s) (hb:dW s s'):kV s':=by
 unfold kV
 rw [hb.cu,hb.ts]
 exact h
theorem q19 (h:GoodS s) (a:(yZ s o).2.2=0):GoodS (yZ s o).1:=by
 unfold yZ at a⊢
 split at a
 ·cases a
 ·split at a
  ·cases a
  ·rename_i w q
   rw [if_neg w,if_neg q]
   split at a
   ·cases a
   ·rename_i j
    rw [if_neg j]
    obtain ⟨k,t,x,ht,y,b⟩:=Sz q
    rw [b] at j
    simp only [b,x,abH]
    obtain ⟨f,r⟩:=IL h.sh ht
    have l:t.group.toNat<abo s.sp:=by have:=f.group;omega
    have m:=Sy f r
    have A:=aaw m.1 (s.spot t.group.toNat t.cpu.toNat).floor s.aj (zB h.sh.ok _ _).floor
    have u:=NI f r A.1
    have v:=qoo u.1 u.2 true
    have n:jk (s.jN k {t.put (t.en.woken (s.spot t.group.toNat t.cpu.toNat).floor s.aj) with ready:=true}):=h.sh.task ht rfl v.2 v.1
    have p:kV (s.jN k {t.put (t.en.woken (s.spot t.group.toNat t.cpu.toNat).floor s.aj) with ready:=true}):=h.cur.task h.sh.sort ht rfl λB _=>absurd B j
    exact ⟨n.wake (by show ((t.cpu.toNat:Nat):Int)<s.au;have:=f.cpu;omega) _ (SA h.sh l),p.but (Dk ..)⟩
theorem qp9 (h:GoodS s) (a:(y5 s o).2.2=0):GoodS (y5 s o).1:=by
 unfold y5 at a⊢
 split at a
 ·cases a
 ·split at a
  ·cases a
  ·rename_i n f
   rw [if_neg n,if_neg f]
   split at a
   ·cases a
   ·rename_i j
    rw [if_neg j]
    obtain ⟨k,t,p,ht,q,b⟩:=Sz j
    simp only [b,p,abH]
    obtain ⟨u,l⟩:=IL h.sh ht
    have x:1<=o.weight/\o.weight<=65536:=by simpa [mo] using f
    obtain ⟨z,hz⟩:∃z:Nat,o.weight=(z:Int):=⟨o.weight.toNat,by omega⟩
    have m:=NI u l (e:=⟨t.v,0,z⟩) ⟨by unfold cB;rw [decide_eq_true_eq];exact ⟨by show (1:Int)<=(z:Int);omega,by show (z:Int)<=_;omega,by show ((0:Nat):Int)<(z:Int);omega,.inr rfl⟩,l.v⟩
    have e:({t with r:=0,weight:=o.weight}:Tk)=t.put ⟨t.v,0,z⟩:=by rw [hz];rfl
    rw [e]
    exact ⟨h.sh.task ht rfl m.2 m.1,h.cur.task h.sh.sort ht rfl λw _=>⟨w,rfl⟩⟩
theorem zka (h:jk s) {v:Int} (j:0<=v/\v<=281474976710656):jk {s with cl:=s.cl.set c v}:=by
 refine ⟨⟨h.ok.au,h.ok.aj,h.ok.gs,λz hz=>?_,h.ok.cu,h.ok.ts,h.ok.sp⟩,h.au,h.aj,h.gs,by show (abo (s.cl.set c v):Int)=_;rw [abK];exact h.cl,h.cu,h.sp,λd b=>?_,h.rows,h.spots,h.sort,h.tasks⟩
 ·rcases ab4 hz with f|rfl
  ·exact h.ok.cl z f
  ·unfold aX;omega
 ·have a:d<abo (s.cl.set c v):=b
  show iQ ((s.cl.set c v).getD d 0)=true
  rw [abK] at a
  by_cases e:c=d
  ·grind [iQ,zd]
  ·rw [getD_set_ne _ _ e]
   exact h.cls d a
def q7o (h:jk s) {v:Int} (a:aX v):jk {s with cu:=s.cu.set c v}:=by
 refine ⟨⟨h.ok.au,h.ok.aj,h.ok.gs,h.ok.cl,λz hz=>?_,h.ok.ts,h.ok.sp⟩,h.au,h.aj,h.gs,h.cl,by show (abo (s.cu.set c v):Int)=_;rw [abK];exact h.cu,h.sp,h.cls,h.rows,h.spots,h.sort,h.tasks⟩
 rcases ab4 hz with b|rfl
 ·exact h.ok.cu z b
 ·exact a
def E9 {x:Int} (h:¬s.qJ x=false):0<=x/\x<s.au:=by
 unfold bH.qJ at h
 simpa using h
theorem q7p (h:GoodS s) (a:(jO s o).2.2=0):GoodS (jO s o).1:=by
 unfold jO at a⊢
 split at a
 ·cases a
 ·split at a
  ·cases a
  ·rename_i x D
   rw [if_neg x,if_neg D]
   split at a
   ·cases a
   ·rename_i E
    rw [if_neg E]
    have hc:=E9 x
    have b:=h.sh.cls o.cpu.toNat (by have:=h.sh.cl;omega)
    have y:0<=s.cl.getD o.cpu.toNat 0/\s.cl.getD o.cpu.toNat 0<=281474976710656:=by unfold iQ at b;simpa using b
    have f:jk {s with cl:=s.cl.set o.cpu.toNat (s.cl.getD o.cpu.toNat 0+o.ticks)}:=zka h.sh ⟨by omega,by omega⟩
    dsimp only at a⊢
    by_cases l:s.cu.getD o.cpu.toNat 0=0
    ·rw [if_pos l];exact ⟨f,h.cur⟩
    ·rw [if_neg l]
     rcases h.cur o.cpu.toNat (by have:=h.sh.cu;omega) with F|⟨t,m,j,G,n⟩
     ·exact absurd F l
     ·obtain ⟨k,A,rfl⟩:=wH Tk.zero m
      have p:=q7k h.sh.sort A
      have ht:=getD_at Tk.zero A
      obtain ⟨t,q⟩:∃t,s.ts.getD k Tk.zero=t:=⟨_,rfl⟩
      rw [q] at j G n p ht
      rw [<-j,p,yx p ht,abH]
      obtain ⟨r,B⟩:=IL h.sh ht
      have u:=Sy r B
      have H:=aaA u.1 o.ticks.toNat
      have C:=NI r B H.1
      have v:jk ({s with cl:=s.cl.set o.cpu.toNat (s.cl.getD o.cpu.toNat 0+o.ticks)}.jN k (t.put (t.en.add o.ticks.toNat))):=f.task ht rfl C.2 C.1
      have w:kV ({s with cl:=s.cl.set o.cpu.toNat (s.cl.getD o.cpu.toNat 0+o.ticks)}.jN k (t.put (t.en.add o.ticks.toNat))):=kV.task (s:={s with cl:=s.cl.set o.cpu.toNat (s.cl.getD o.cpu.toNat 0+o.ticks)}) h.cur h.sh.sort ht rfl λI _=>⟨I,rfl⟩
      exact ⟨v.Dl (by show ((o.cpu.toNat:Nat):Int)<s.au;omega) _ _ _ (by show t.group.toNat<abo s.sp;have:=r.group;omega),w.but (Sr ..)⟩
theorem zd0 (a:s.Ok):∀(n g:Nat),g<abo s.sp->abo s.sp-g<=n->wE s c g=0\/∃t∈s.ts,t.ready=true/\t.cpu=(c:Int)/\wE s c g=t.id.toNat:=by
 intro n
 induction n with
 |zero=>intro g b f;omega
 |succ n h=>
  grind [Tk.here,Nr,qmj,qmh,qmi,aU]
theorem q7q (h:GoodS s) (a:(kS s o).2.2=0):GoodS (kS s o).1:=by
 unfold kS at a⊢
 split at a
 ·cases a
 ·rename_i f
  rw [if_neg f]
  have hc:=E9 f
  have k:=(qt h.sh.gs).1
  have j:=zd0 (c:=o.cpu.toNat) h.sh.ok (abo s.sp) 0 (by rw [h.sh.sp];omega) om
  rw [<-q62] at j
  have l:aX ((pU s o.cpu.toNat:Nat):Int):=by
   unfold aX
   rcases j with m|⟨t,ht,_,_,m⟩
   ·omega
   ·have:=(h.sh.tasks t ht).id;omega
  refine ⟨q7o h.sh l,λd n=>?_⟩
  have b:d<abo s.cu:=by have p:d<abo (s.cu.set o.cpu.toNat (pU s o.cpu.toNat:Int)):=n;rwa [abK] at p
  show (s.cu.set o.cpu.toNat (pU s o.cpu.toNat:Int)).getD d 0=0\/_
  by_cases e:o.cpu.toNat=d
  ·grind
  ·show (s.cu.set o.cpu.toNat (pU s o.cpu.toNat:Int)).getD d 0=0\/∃t∈s.ts,t.id=(s.cu.set o.cpu.toNat (pU s o.cpu.toNat:Int)).getD d 0/\_
   rw [getD_set_ne _ _ e]
   exact h.cur d b
end
theorem K3 {α:Type} {l m:List α} (d:α) (a:abo l=abo m) (h:∀i,i<abo l->l.getD i d=m.getD i d):l=m:=by grind [ad8,abr]
theorem D7 {α:Type} {f g:Nat->List α}:∀k,(∀i,i<k->abo (f i)=abo (g i))->dV k f=dV k g->∀i,i<k->f i=g i:=by intro x;induction x<;>grind [qz,List.append_inj',ab6]
def zop {x y:Gr} (h1:x.parent=y.parent) (a:x.weight=y.weight):x=y:=by
 cases x;cases y
 rw [Gr.mk.injEq]
 exact ⟨h1,a⟩
def qzw (g:Nat) (z a:Sp):abo (nI g z)=abo (nI g a):=by
 unfold nI
 split<;>rfl
def zfh (g:Nat) {l m:List Sp} (h:abo l=abo m):abo (kU g l)=abo (kU g m):=by
 unfold kU
 rw [h]
 have key:∀k,abo (dV k λc=>nI g (l.getD c Sp.zero))=abo (dV k λc=>nI g (m.getD c Sp.zero)):=λk=>by
  induction k with
  |zero=>rfl
  |succ k a=>rw [qz,qz,abq,abq,a,qzw]
 exact key _
section
variable {s:bH} {g c i d:Nat} {t t':Tk} {o:bP}
theorem qoq {l a:List Gr} (h:∀g,(l.getD g Gr.zero).parent=(a.getD g Gr.zero).parent):∀f g,jJ l f g=jJ a f g
 |0,_=>rfl
 |f+1,g=>by rw [jJ,jJ,h g,qoq h f]
theorem zd1 {l:List Gr} {w:Int} (h:dO l=true) (a:0<g) (b:g<abo l) (e:mo w=true):dO (l.set g {l.getD g Gr.zero with weight:=w})=true:=by grind [Gr.zero,vU,qoq,jh,qH,getD_set_ne,zd,dO,qt]
theorem qth (h:GoodS s) (f:(y7 s o).2.2=0):GoodS (y7 s o).1:=by
 unfold y7 at f⊢
 split at f
 ·cases f
 ·split at f
  ·cases f
  ·rename_i E w
   rw [if_neg E,if_neg w]
   obtain ⟨g,F⟩:∃g:Nat,o.group=(g:Int):=⟨o.group.toNat,by omega⟩
   rw [F,abH]
   have G:mo o.weight=true:=by simpa using w
   have q:1<=o.weight/\o.weight<=65536:=by simpa [mo] using w
   have j:g<abo s.sp:=by omega
   have m:g<abo s.gs:=by rw [<-h.sh.sp];exact j
   have A:=h.sh.ok.gs _ (qf Gr.zero m)
   have a:abo (s.sp.set g ((s.sp.getD g []).map λx=>{x with r:=0}))=abo s.sp:=abK ..
   have B:∀k e:Nat,((s.sp.set g ((s.sp.getD g []).map λx=>{x with r:=0})).getD k []).getD e Sp.zero=if k=g then r0 (s.spot k e) else s.spot k e:=λk e=>by
    by_cases n:g=k
    ·subst n
     rw [zd _ _ j,if_pos rfl]
     show _=r0 ((s.sp.getD g []).getD e Sp.zero)
     rw [abt,acM,abt (l:=s.sp.getD g [])]
     cases (s.sp.getD g [])[e]?<;>rfl
    ·rw [getD_set_ne _ _ n,if_neg (λh=>n h.symm)];rfl
   refine ⟨⟨⟨h.sh.ok.au,h.sh.ok.aj,λx H=>?_,h.sh.ok.cl,h.sh.ok.cu,h.sh.ok.ts,λl I y C=>?_⟩,h.sh.au,h.sh.aj,zd1 h.sh.gs om m G,h.sh.cl,h.sh.cu,?_,h.sh.cls,λk n=>?_,λk e n f=>?_,h.sh.sort,λu J=>?_⟩,h.cur⟩
   ·rcases ab4 H with b|rfl
    ·exact h.sh.ok.gs x b
    ·exact ⟨A.parent,by show aX o.weight;unfold aX;omega⟩
   ·rcases ab4 I with b|rfl
    ·exact h.sh.ok.sp l b y C
    ·obtain ⟨z,hz,rfl⟩:=ab7.1 C
     have:=h.sh.ok.sp _ (qf [] j) z hz
     exact ⟨this.v,by show 0<_;omega,this.floor⟩
   ·rw [a,abK];exact h.sh.sp
   ·have p:k<abo s.sp:=by rw [<-a];exact n
    have:=h.sh.rows k p
    grind
   ·have p:k<abo s.sp:=by rw [<-a];exact n
    have b:=h.sh.spots k e p f
    unfold eZ at b⊢
    have e1:=B k e
    unfold bH.spot at b⊢e1
    dsimp only at b⊢e1
    rw [e1]
    by_cases e2:g=k
    ·subst e2
     rw [if_pos rfl,zd _ _ m]
     rw [abG] at b⊢
     have D:=b.1
     unfold cB at D⊢
     rw [decide_eq_true_eq] at D⊢
     refine ⟨⟨q.1,q.2,by show ((0:Nat):Int)<o.weight;omega,.inr rfl⟩,?_⟩
     grind
    ·grind
   ·show gT u s.au (abo (s.sp.set g _))
    rw [a]
    exact h.sh.tasks u J
theorem qti (h:GoodS s) (ht:s.ts[i]?=some t) {to:Nat} (b:(to:Int)<s.au) (hb:t.mask/2^to%2=1) (n:∀d,d<abo s.cu->s.cu.getD d 0=t.id->t.cpu=(d:Int)->False):GoodS (jF s i (to:Int)):=by
 unfold jF
 rw [uT Tk.zero ht]
 dsimp only
 rw [abH]
 obtain ⟨j,m⟩:=IL h.sh ht
 have k:=Sy j m
 have hm:=aaR k.1 (s.spot t.group.toNat t.cpu.toNat).floor (s.spot t.group.toNat to).floor (zB h.sh.ok _ _).floor
 have a:=NI j m hm.1
 have p:aX (to:Int):=by have:=h.sh.au;unfold aX;omega
 have e:jk (s.jN i {t.put (t.en.moved (s.spot t.group.toNat t.cpu.toNat).floor (s.spot t.group.toNat to).floor) with cpu:=(to:Int)}):=
  h.sh.task ht rfl ⟨a.2.id,a.2.group,a.2.weight,p,a.2.mask,a.2.v,a.2.r⟩ ⟨a.1.id,a.1.group,⟨by show (0:Int)<=(to:Int);omega,b⟩,a.1.weight,a.1.mask,by show t.mask/2^ ((to:Int)).toNat%2=1;rw [abH];exact hb,a.1.ent⟩
 have f:kV (s.jN i {t.put (t.en.moved (s.spot t.group.toNat t.cpu.toNat).floor (s.spot t.group.toNat to).floor) with cpu:=(to:Int)}):=
  h.cur.task h.sh.sort ht rfl λ_ ⟨d,q,u,w⟩=>(n d q u w).elim
 have l:t.group.toNat<abo s.sp:=by have:=j.group;omega
 split
 ·exact ⟨e.wake b _ (SA h.sh l),f.but (Dk ..)⟩
 ·exact ⟨e,f⟩
theorem SB {x:Int} (h:jE m x=true):m/2^x.toNat%2=1:=of_decide_eq_true h
theorem qtj (h:GoodS s) (a:(y8 s o).2.2=0):GoodS (y8 s o).1:=by
 unfold y8 at a⊢
 split at a
 ·cases a
 ·split at a
  ·cases a
  ·split at a
   ·cases a
   ·split at a
    ·cases a
    ·split at a
     ·cases a
     ·split at a
      ·cases a
      ·rename_i b f e j l m
       rw [if_neg b,if_neg f,if_neg e,if_neg j,if_neg l,if_neg m]
       obtain ⟨k,t,r,ht,n,p⟩:=Sz e
       have q:=E9 b
       grind [jE,SB,qf,qti]
theorem zd2:∀{n b:Nat},gP s o n=some b->uj s o (s.ts.getD b Tk.zero)=true:=by intro x;induction x<;>grind [gP]
theorem qtk (h:GoodS s) (a:(wu s o).2.2=0):GoodS (wu s o).1:=by
 unfold wu at a⊢
 split at a
 ·cases a
 ·rename_i e
  rw [if_neg e]
  cases hb:gP s o (abo s.ts) with
  |none=>rw [hb] at a;cases a
  |some b=>
   dsimp only
   have f:=qyt hb
   have hm:=zd2 hb
   have ht:=getD_at Tk.zero f
   have j:=E9 e
   grind [SB,qti,uj]
theorem SC {l:List Tk}:fK l↔l.Pairwise λa b=>a.id<b.id:=by
 rw [List.pairwise_iff_getElem]
 constructor
 ·intro h i j hi f e
  have:=h i j e f
  grind
 ·intro h i j e f
  grind
theorem jk.ts (h:jk s) {l:List Tk} (hs:fK l) (b:∀u∈l,gT u s.au (abo s.sp)/\u.Ok):jk {s with ts:=l}:=
 ⟨⟨h.ok.au,h.ok.aj,h.ok.gs,h.ok.cl,h.ok.cu,λu a=>(b u a).2,h.ok.sp⟩,h.au,h.aj,h.gs,h.cl,h.cu,h.sp,h.cls,h.rows,h.spots,hs,λu a=>(b u a).1⟩
theorem q7s {l:List Tk} {id:Int} (h:¬0<=fidx l id):∀t∈l,t.id≠id:=by grind [Tk.zero,RH,gN,qf]
def qg7 {α:Type} {p:α->Bool}:∀{l:List α} {u:α},u∈l.takeWhile p->p u=true
 |[],u,h=>by cases h
 | a :: r, u, h => by
  rw [ae3] at h
  split at h
  ·rename_i b
   rcases abY.1 h with rfl|h
   ·exact b
   ·exact qg7 h
  ·cases h
theorem qf2 {α:Type} {p:α->Bool}:∀{l:List α} {a:α} {r:List α},l.dropWhile p=a::r->p a=false
 |[],_,_,h=>by cases h
 |b::q,a,r,h=>by
  rw [List.dropWhile_cons] at h
  split at h
  ·exact qf2 h
  ·grind
theorem zd3 {l:List Tk} {id:Int} (hs:fK l) (m:∀t∈l,t.id≠id) (ht:t.id=id):fK ((l.takeWhile λt=>decide (t.id<=id))++t::(l.dropWhile λt=>decide (t.id<=id))):=by
 rw [SC] at hs⊢
 have k:∀u∈l.takeWhile (λt=>decide (t.id<=id)),u.id<id:=λu e=>by
  have f:=qg7 e
  rw [decide_eq_true_eq] at f
  have:=m u ((aeL _).subset e)
  omega
 have h:=hs.sublist (List.dropWhile_sublist λt=>decide (t.id<=id))
 have j:∀u∈l.dropWhile (λt=>decide (t.id<=id)),id<u.id:=λu e=>by
  cases hdr:l.dropWhile (λt=>decide (t.id<=id)) with
  |nil=>rw [hdr] at e;cases e
  | cons a r =>
   have f:¬decide (a.id<=id)=true:=by
    have:=qf2 hdr
    rw [this];decide
   rw [decide_eq_true_eq] at f
   rw [hdr] at e h
   rcases abY.1 e with rfl|e
   ·omega
   ·have:=(aey.1 h).1 u e;omega
 rw [List.pairwise_append]
 refine ⟨hs.sublist (aeL _),aey.2 ⟨λu e=>?_,h⟩,λa n b p=>?_⟩
 ·have:=j u e;omega
 ·grind
theorem q7t {l:List Tk} {p:Tk->Bool} {u:Tk}:u∈l.takeWhile p++t::l.dropWhile p↔u=t\/u∈l:=by grind [afq]
theorem q2a (e : o.Ok) (h : GoodS s) (a : (yY s o).2.2 = 0) : GoodS (yY s o).1 := by
 unfold yY at a⊢
 split at a
 ·cases a
 ·split at a
  ·cases a
  ·split at a
   ·cases a
   ·split at a
    ·cases a
    ·split at a
     ·cases a
     ·split at a
      ·cases a
      ·rename_i w x y f z A
       rw [if_neg w,if_neg x,if_neg y,if_neg f,if_neg z,if_neg A]
       have hc:=E9 w
       have j:o.group.toNat<abo s.sp:=by omega
       have k:1<=o.task/\o.task<=65535:=by simpa [oV] using x
       have l:0<=o.group/\o.group<abo s.sp:=adu.1 y
       have m:1<=o.weight/\o.weight<=65536:=by have:=λh=>f (.inl h);simpa [mo] using this
       have hm:yg o.mask s.au=false:=by have:=λh=>f (.inr (.inr h));simpa using this
       have B:o.mask/2^o.cpu.toNat%2=1:=SB (by simpa using A)
       have C:=(zB h.sh.ok o.group.toNat o.cpu.toNat).floor
       have n:gT (⟨o.task,o.group,o.weight,o.cpu,o.mask,true,(s.spot o.group.toNat o.cpu.toNat).floor,0⟩:Tk) s.au (abo s.sp):=⟨k,l,hc,m,hm,B,by unfold cB;rw [decide_eq_true_eq];exact ⟨m.1,m.2,by show ((0:Nat):Int)<o.weight;omega,.inr rfl⟩⟩
       have p:(⟨o.task,o.group,o.weight,o.cpu,o.mask,true,(s.spot o.group.toNat o.cpu.toNat).floor,0⟩:Tk).Ok:=⟨e.task,e.group,e.weight,e.cpu,e.mask,C,by show 0<_;omega⟩
       have q:=h.sh.ts (zd3 h.sh.sort (q7s z) (t:=⟨o.task,o.group,o.weight,o.cpu,o.mask,true,(s.spot o.group.toNat o.cpu.toNat).floor,0⟩) rfl) (λu b=>by
        rcases q7t.1 b with rfl|b
        ·exact ⟨n,p⟩
        ·exact ⟨h.sh.tasks u b,h.sh.ok.ts u b⟩)
       have r:kV {s with ts:=(s.ts.takeWhile λt=>decide (t.id<=o.task))++(⟨o.task,o.group,o.weight,o.cpu,o.mask,true,(s.spot o.group.toNat o.cpu.toNat).floor,0⟩::(s.ts.dropWhile λt=>decide (t.id<=o.task)))}:=λd D=>by
        rcases h.cur d D with v|⟨u,b,v⟩
        ·exact .inl v
        ·exact .inr ⟨u,q7t.2 (.inr b),v⟩
       exact ⟨q.wake (by show ((o.cpu.toNat:Nat):Int)<s.au;omega) _ (SA h.sh j),r.but (Dk ..)⟩
theorem q2b (h:GoodS s) (p:(sK s o).2.2=0):GoodS (sK s o).1:=by
 unfold sK at p⊢
 split at p
 ·cases p
 ·split at p
  ·cases p
  ·rename_i E F
   rw [if_neg E,if_neg F]
   have hc:=E9 E
   dsimp only
   rcases h.cur o.cpu.toNat (by have:=h.sh.cu;omega) with I|⟨t,z,q,J,A⟩
   ·exact absurd I F
   ·obtain ⟨k,G,rfl⟩:=wH Tk.zero z
    have H:=q7k h.sh.sort G
    have ht:=getD_at Tk.zero G
    obtain ⟨t,r⟩:∃t,s.ts.getD k Tk.zero=t:=⟨_,rfl⟩
    rw [r] at q J A H ht
    rw [<-q,H,abH,r]
    obtain ⟨K,B⟩:=IL h.sh ht
    have v:=qoo K B false
    have C:jk {s with cu:=s.cu.set o.cpu.toNat 0}:=q7o h.sh (by unfold aX;omega)
    have a:jk {s with cu:=s.cu.set o.cpu.toNat 0,ts:=s.ts.set k {t with ready:=false}}:=C.task (s:={s with cu:=s.cu.set o.cpu.toNat 0}) ht rfl v.2 v.1
    have m:∀d,d<abo (s.cu.set o.cpu.toNat 0)->(s.cu.set o.cpu.toNat 0).getD d 0=0\/∃j u,s.ts[j]?=some u/\j≠k/\u.id=(s.cu.set o.cpu.toNat 0).getD d 0/\u.ready=true/\u.cpu=(d:Int):=λd n=>by
     rw [abK] at n
     by_cases e:o.cpu.toNat=d
     ·grind
     ·rw [getD_set_ne _ _ e]
      rcases h.cur d n with b|⟨u,D,b,x,L⟩
      ·exact .inl b
      ·obtain ⟨j,y,rfl⟩:=wH Tk.zero D
       grind
    split
    ·refine ⟨a.ts (s:={s with cu:=s.cu.set o.cpu.toNat 0,ts:=s.ts.set k {t with ready:=false}}) (l:=(s.ts.set k {t with ready:=false}).eraseIdx k) (SC.2 ((SC.1 a.sort).sublist (agc ..))) (λu D=>?_),λd n=>?_⟩
     ·have w:=(agc ..).subset D
      exact ⟨a.tasks u w,a.ok.ts u w⟩
     ·rcases m d n with b|⟨j,u,y,f,b⟩
      ·exact .inl b
      ·refine .inr ⟨u,?_,b⟩
       have x:(s.ts.set k {t with ready:=false})[j]?=some u:=by rw [aeW (λe=>f e.symm)];exact y
       exact List.mem_eraseIdx_iff_getElem?.2 ⟨j,f,x⟩
    ·refine ⟨a,λd n=>?_⟩
     rcases m d n with b|⟨j,u,y,f,b⟩
     ·exact .inl b
     ·refine .inr ⟨u,?_,b⟩
      have x:(s.ts.set k {t with ready:=false})[j]?=some u:=by rw [aeW (λe=>f e.symm)];exact y
      exact abJ x
theorem SE (a:o.Ok) (h:GoodS s) (b:(dL s o).2.2=0):GoodS (dL s o).1:=by grind [qtk,q2b,qtj,q7q,qth,qp9,q19,q2a,q7p,dL]
end
def NJ (w:aiM) (R:List Nat) (r:aiQ) (a:aiM):Prop:=
 (∃A c,r= .returned (.slice A (abo R) c)/\a.ownsRow w.heap.size 3 1 (.slice A (abo R) c) (abo R) (R.map bL)/\abo R<=c)/\Below w.heap.size w a
def zg2 {q:List Nat} (a:q=R) (b:W.ownsRow w.heap.size 3 1 (.slice A (abo q) c) (abo q) (q.map bL)) (hc:abo q<=c) (hb:Below w.heap.size w W):NJ w R (.returned (.slice A (abo q) c)) W:=by
 subst a
 exact ⟨⟨A,c,rfl,b,hc⟩,hb⟩
def zkb (b:x.ay.Ok) (a:ShAt x) (j:aU x.ay g c≠[]):(aN bO (aU x.ay g c)).id<=1000000:=by
 rcases Nr b j with ⟨_,t,ht,_,k⟩|⟨_,h,m,_,e,_⟩
 ·obtain ⟨i,hi,rfl⟩:=acp ht
  have f:=qL (a.tk i hi)
  rw [abt,abr (l:=x.ts) hi] at f
  have e:1<=(x.ay.ts[i]).id/\(x.ay.ts[i]).id<=65535:=f
  rw [k]
  show (x.ay.ts[i]).id.toNat<=1000000
  omega
 ·rw [m]
  rw [lJ,a.rs] at e
  obtain ⟨_,_,_,d⟩:=mM a.cfg
  have:=(qt d).2.1
  omega
def qor (b:ShAt x):∀t∈x.ts,1<=t.weight/\t.weight<=65536:=by
 intro t ht
 obtain ⟨i,hi,rfl⟩:=acp ht
 have a:=(EO (b.tk i hi)).2
 rw [abt,abr hi] at a
 unfold eF mo at a
 simp only [abG,decide_eq_true_eq,Option.getD_some] at a
 exact a.2.1
def q7u (x:aF) (E g c:Nat) (w:aiM) (H:x.ay.Ok) (F:cK x) (o:ShAt x) (I:fA w x) (hm:w.heap[E]?=some (.cells #[vI x.au,vQ x.aj,abl x.gA x.gs x.gc,abl x.lA x.cl x.lc,abl x.uA x.cu x.uc,abl x.tA x.ts x.tc,abl x.sA x.rs x.sc,.bool true] 273 (0,0))) (hc:(c:Int)<x.au) (hg:g<abo x.rs):
    Calls abp 200 #[vP E 0,vI g,vI c] w (NJ w (lC x.ay g c)):=by
 have P:=F.s;have Q:=F.t;have R:=F.g;have V:=o.rs
 obtain ⟨W,Y,_,r⟩:=mM o.cfg
 refine (uL Tryz.func200 35) ?_
 refine (aM 1∘Jq∘JC (h:=by exact λb=>b.nil 3 1)∘JG∘dh 1∘JQ∘JB) λa Z b=>?_
 refine qg (λS aS wS=>∃(k:Nat) (q:List Nat) (X:aiW) (G:Nat),(k<=g)/\(q++lC x.ay k c=lC x.ay g c)/\(abo q<=g-k)/\(abo q<=G)/\S=0+k/\Fr aS 35 [] ((7,abl X q G)::(6,vN)::(0,vP E 0)::ahY 1 k 2 c [])/\Mem w wS [abm X q G bL 3 1]) (m:=0+g) ⟨g,[],none,0,abu _,rfl,abz _,abu _,rfl,Z.sub kr,b.pk [0]⟩ ?_
 clear Z b;rintro S a w_ ⟨k,q,X,G,hk,J,hql,u,rfl,Z,b⟩
 refine Jb Z b ((bN 2∘aL∘Jj) (Ji (λz=>?_) λz=>?_))
 ·
  have A:0<k:=by omega
  have K:=yX r (g:=k) om k A (abu _)
  intro a Z b
  unfold fq at K
  obtain ⟨y,T⟩:∃y:Nat,(x.gs.getD k Gr.zero).parent=(y:Int):=⟨(x.gs.getD k Gr.zero).parent.toNat,by omega⟩
  refine Jb Z b ((eY∘bN 3∘JL (h:=by exact λb=>Ni x H F o E c om _ k (abu _) om _ (I.old b) (b.lG hm))) ?_)
  rintro b _ NK ⟨rfl,L⟩
  refine ⟨_,rfl,_,b.call L,?_⟩
  refine (Jp 1∘Jx∘Jx∘JA #[vQ 0,vQ 0,vQ 0]) λw8 g8=>(JV uo aO (h1:=by exact CV (aN bO (aU x.ay k c)))) λU=>(Jp 1∘aJ∘bg 1∘Jj) (Ju (λe=>?_) λe=>?_)
  ·
   have p:q=lC x.ay g c:=by rw [<-J,qmg (by simpa using e),abM]
   exact (JT∘JX∘JG∘aM 2∘aL∘aP∘aW) λb=>zg2 p (b.own (i:=1) rfl) u b.below
  have M:aU x.ay k c=[]:=by simpa using e
  have f:=qmf (s:=x.ay) (c:=c) (g:=k) (yX r om) A M
  replace f:lC x.ay k c=k::lC x.ay (x.gs.getD k Gr.zero).parent.toNat c:=f
  rw [T,abH] at f
  refine (aQ∘JR∘Jp 2∘JU j6 #[vI k]) λw32 g32=>(JD ([k].map bL) 2 (λ_ _=>iG) j6 (hr:=by exact λb=>b.bB (i:=0) (n:=1) (size:=1) rfl rfl) (h1:=by simp [abX,bL])) λGh B C j=>(Jp 1∘fJ∘Jq) ?_
  have d:abo q+1=abo (q++[k]):=Sg rfl
  rw [d] at j
  refine (JC (h:=by exact λb=>b.bC (i:=2) (ys:=(q++[k]).map bL) rfl d (List.map_append.symm))∘Jk 7 (.slice B (abo (q++[k])) C) (h:=by exact iW d)∘JG∘JR∘Jp 1∘Jn∘Jf 0∘Jf 0∘Jf 2∘Jy (v:= .slice x.gA (abo x.gs) x.gc) (h:=by exact Pd rfl rfl kr (λ_ h=>h.mH hm rfl))∘Jp 1) ?_
  obtain ⟨N,O,D,_⟩:=Rd.sat I.g k
  have l:=I.g;rw [D] at l
  refine (Jk 17 (.slice (some ⟨N,O,none⟩) (abo x.gs) x.gc) (h:=by rw [D];try rfl)∘iC k 2∘Jf 0∘Et pR l k Gr.zero∘Jo (vI y) (by rw [T])∘Jp 1∘aJ∘Jq) λa Z b=>?_
  exact ⟨_,om,y,(q++[k]),B,C,by omega,by rw [<-J,f,abv];rfl,by rw [abq];show abo q+1<=g-y;omega,j,rfl,Z.sub kr,b.pk [2]⟩
 have p:q=lC x.ay g c:=by rw [<-J,show k=0 by omega,qv5,abM]
 exact (JF∘JX∘JG∘aM 2∘aL∘aP∘aW) λb=>zg2 p (b.own (i:=0) rfl) u b.below
def q7v (x:aF) (o c:Nat) (w:aiM) (i:x.ay.Ok) (p:cK x) (f:ShAt x) (H:fA w x) (hm:w.heap[o]?=some (.cells #[vI x.au,vQ x.aj,abl x.gA x.gs x.gc,abl x.lA x.cl x.lc,abl x.uA x.cu x.uc,abl x.tA x.ts x.tc,abl x.sA x.rs x.sc,.bool true] 273 (0,0))) (hc:(c:Int)<x.au):
    Calls abp 211 #[vP o 0,vI c] w (Is w (vI (pU x.ay c:Int))):=by
 have B:=p.s;have C:=p.t;have D:=p.g;have I:=f.rs
 obtain ⟨J,K,_,q⟩:=mM f.cfg
 have E:0<abo x.rs:=by have S:=(qt q).1;omega
 refine (iP Tryz.func211 28) ?_
 refine (aM 1∘bg 1∘Jj∘JB) λa Z b=>?_
 refine qg (λF L M=>∃(g:Nat),(g<abo x.rs)/\(wE x.ay c g=pU x.ay c)/\F=abo x.rs-g/\Fr L 28 [] [(5,vI g),(4,vI 0),(0,vP o 0),(1,vI c)]/\Mem w M []) (m:=abo x.rs-0) ⟨0,by omega,rfl,rfl,Z.sub kr,b.pk []⟩ ?_
 clear Z b;rintro F a T ⟨g,U,r,rfl,Z,b⟩
 refine Jb Z b ((JB∘aM 3∘JL (h:=by exact λb=>Ni x i p f o c om _ g (abu _) om _ (H.old b) (b.lG hm))) ?_)
 rintro b _ N ⟨rfl,u⟩
 refine ⟨_,rfl,_,b.call u,?_⟩
 refine (Jp 1∘Jx∘Jx∘JA #[vQ 0,vQ 0,vQ 0]) λV l=>(JV uo aO (h1:=by exact CV (aN bO (aU x.ay g c)))) λG=>(bM 1∘JQ∘JB∘aM 3∘bU∘Jj) (Ju (λd=>?_) λd=>?_)
 ·
  have e:aU x.ay g c=[]:=by simpa using d
  exact (JT∘bE 1∘aW) λb=>by exact ⟨by rw [<-r,qmh (by rw [lJ];omega) e];rfl,b.below⟩
 have e:aU x.ay g c≠[]:=by simpa using d
 have O:abo x.ay.sp=abo x.rs:=lJ
 refine (JF∘JP∘Jy (v:=vP l 1) (h:=by exact Yl.tL (ad:=⟨l,0,none⟩) (m:=3) (y:=1) (sz:=1) rfl rfl rfl kr de)∘Jc O0∘Jp 2∘eP∘Jj) (Je (λn=>?_) λn=>?_)
 ·
  have j:(aN bO (aU x.ay g c)).k=0:=by omega
  have P:=zkb i f e
  have z:=qmi (s:=x.ay) (c:=c) (g:=g) om e j
  exact (JT∘JP∘Jy (v:=vP l 2) (h:=by exact Yl.tL (ad:=⟨l,0,none⟩) (m:=3) (y:=2) (sz:=1) rfl rfl rfl kr de)∘Jc O0∘Jv 1 [(24,vI (IntKind.i64.wrap ((aN bO (aU x.ay g c)).id:Int)))]∘Jo (vI ((aN bO (aU x.ay g c)).id)) (by exact zc rfl om)∘Jp 1∘eP∘aP∘aW) λb=>by exact ⟨by rw [<-r,z],b.below⟩
 have j:(aN bO (aU x.ay g c)).k≠0:=by omega
 obtain ⟨A,Q,R⟩:=qmj (s:=x.ay) (c:=c) (g:=g) i om e j
 refine (aQ∘JR∘Jy (v:=vP l 2) (h:=by exact Yl.tL (ad:=⟨l,0,none⟩) (m:=3) (y:=2) (sz:=1) rfl rfl rfl kr de)∘Jc O0∘Jv 1 [(27,vI (IntKind.i64.wrap ((aN bO (aU x.ay g c)).id:Int)))]∘Jo (vI ((aN bO (aU x.ay g c)).id)) (by exact zc rfl om)∘Jp 1∘eP∘Jq) λa Z b=>?_
 exact ⟨_,om,(aN bO (aU x.ay g c)).id,by omega,by rw [<-A];exact r,rfl,Z.sub kr,b.pk []⟩
def q2c (x:aF) (C c:Nat) (w:aiM) (K:x.ay.Ok) (y:cK x) (l:ShAt x) (D:fA w x) (hm:w.heap[C]?=some (.cells #[vI x.au,vQ x.aj,abl x.gA x.gs x.gc,abl x.lA x.cl x.lc,abl x.uA x.cu x.uc,abl x.tA x.ts x.tc,abl x.sA x.rs x.sc,.bool true] 273 (0,0))):
    Calls abp 215 #[vP C 0,vI c] w (Is w (vI (aH x.ay c))):=by
 have E:=y.s;have F:=y.t;have G:=y.g;have L:=l.rs
 obtain ⟨M,N,_,O⟩:=mM l.cfg
 have n:=qor l
 refine (iP Tryz.func215 32) ?_
 refine (aM 1∘bg 1∘Jj∘bN 1∘Jn∘Jf 0∘Jf 5∘Jy (v:= .slice x.tA (abo x.ts) x.tc) (h:=by exact Pd rfl rfl kr (λ_ h=>h.mH hm rfl))∘Jl∘bM 1∘JB) λa Z b=>?_
 refine qg (λH A B=>∃(i:Nat),(i<=abo x.ts)/\H=abo x.ts-i/\Fr A 32 [] (ahY 14 i 13 (abo x.ts) [(12,abl x.tA x.ts x.tc),(5,vI (iE (x.ts.take i) c)),(4,vI 0),(1,vI c)])/\Mem w B []) (m:=abo x.ts-0) ⟨0,abz _,rfl,Z.sub kr,b.pk []⟩ ?_
 clear Z b;rintro H a R ⟨i,hi,rfl,Z,b⟩
 refine Jb Z b ((dh 1∘JQ) (Ji (λo=>?_) λo=>?_))
 ·
  have p:i<abo x.ts:=by omega
  obtain ⟨t,ht⟩:∃z,(x.ts.getD i Tk.zero)=z:=⟨_,rfl⟩
  have d:=q1t (c:=c) p
  rw [ht] at d
  have P:=qoj (c:=c) n i;have Q:=qoj (c:=c) n (i+1)
  refine (eY∘JP) ?_
  obtain ⟨q,r,j,_⟩:=Rd.sat D.t i
  have k:=D.t;rw [j] at k
  refine (Jk 12 (.slice (some ⟨q,r,none⟩) (abo x.ts) x.tc) (h:=by rw [j];try rfl)∘iC i 8∘qD Tk.cells qm k fF i Tk.zero∘Jo (.agg t.cells) (by rw [ht])∘JA aiG) λS I=>(JV fF aO (h1:=by exact Ht t)) λJ=>(bU∘Jj) λa Z b=>?_
  refine qy (λA B=>Fr A 32 [] ((25,.bool (t.ready&&decide (t.cpu=(c:Int))))::(7,vP I 0)::(12,abl (some ⟨q,r,none⟩) x.ts x.tc)::(15,.bool true)::ahY 14 i 13 (abo x.ts) [(5,vI (iE (x.ts.take i) c)),(4,vI 0),(1,vI c)])/\Mem w B [.blk I t.cells 232]) ?_ ?_
  ·
   refine zu ?_
   refine Jb Z b ((Jg 5 O0∘Jp 1) (Ju (λe=>?_) λe=>?_))
   ·
    refine (Jg 3 O0∘Jp 3∘lq∘Jq) λa Z b=>?_
    have Z:=Z.sp 25 (.bool (t.ready&&decide (t.cpu=(c:Int)))) rfl (congrArg abN (by rw [e,acn,ab3,beq_iff_eq,decide_eq_true_eq]))
    exact ⟨Z.sub kr,b.pk [0]⟩
   refine (Jp 5∘aJ∘Jq) λa Z b=>?_
   have Z:=Z.sp 25 (.bool (t.ready&&decide (t.cpu=(c:Int)))) rfl (congrArg abN (by rw [e];try rfl))
   exact ⟨Z.sub kr,b.pk [0]⟩
  clear Z b;rintro a T ⟨Z,b⟩
  refine Jb Z b (Ju (λf=>?_) λf=>?_)
  ·
   rw [if_pos f] at d
   refine (JT∘JR∘Jp 1∘Jg 2 O0∘Jp 1∘Jo (vI (iE (x.ts.take (i+1)) c)) (by rw [d];exact nD ⟨by omega,by omega⟩)∘Jp 1∘eP∘Jj∘JR∘dA 1∘Jp 1∘aL∘Jq) λa Z b=>?_
   replace Z:=Z.sp 12 (abl x.tA x.ts x.tc) rfl (by rw [j])
   exact ⟨_,om,i+1,by omega,rfl,Z.sub kr,b.pk []⟩
  rw [if_neg (by rw [f];decide),Int.add_zero] at d
  refine (Jk 5 (vI (iE (x.ts.take (i+1)) c)) (h:=by rw [d])∘aQ∘JR∘dA 1∘Jp 1∘aL∘Jq) λa Z b=>?_
  replace Z:=Z.sp 12 (abl x.tA x.ts x.tc) rfl (by rw [j])
  exact ⟨_,om,i+1,by omega,rfl,Z.sub kr,b.pk []⟩
 have u:iE (x.ts.take i) c=aH x.ay c:=by rw [abL om];rfl
 exact (JF∘JX∘JG∘aM 2∘aL∘aP∘aW) λb=>by exact ⟨by rw [u],b.below⟩
def zd4 {b:Nat} (n:Nat) (h:Mem W w F) (i:F.drop n=jM d x m k e f b++T) (a:dY x m k e f b) (hc:(c:Int)<x.au) (j:g<b):Calls abp 200 #[vP d 0,vI g,vI c] w (NJ w (lC x.ay g c)):=
 q7u x d g c w a.ok a.few a.sh (h.uw n i a.ln) (h.oD n i a.ln) hc (by rw [a.ln.s];exact j)
def zd5 {b:Nat} (n:Nat) (f:Mem W w F) (h:F.drop n=jM b x m g k d e++T) (a:dY x m g k d e) (hc:(c:Int)<x.au):Calls abp 211 #[vP b 0,vI c] w (Is w (vI (pU x.ay c:Int))):=
 q7v x b c w a.ok a.few a.sh (f.uw n h a.ln) (f.oD n h a.ln) hc
def q7w {m g k d e b c:Nat} (n:Nat) (f:Mem W w F) (h:F.drop n=jM b x m g k d e++T) (a:dY x m g k d e):Calls abp 215 #[vP b 0,vI c] w (Is w (vI (aH x.ay c))):=
 q2c x b c w a.ok a.few a.sh (f.uw n h a.ln) (f.oD n h a.ln)
def SF (W:aiM) (c:Nat) (x:aF) (d e f g b:Nat) (T:List aiX) (s:bH) (r:aiQ) (h:aiM):Prop:=∃a,r= .returned (.tuple #[])/\abo a=b/\fH x.gs x.au a/\({x with rs:=a}:aF).ay=s/\Mem W h (jM c {x with rs:=a} d e f g b++T)
def zg3 {b:Nat} {s:bH} {a:List Rw} (e:a.length=b) (hs:fH x.gs x.au a) (f:({x with rs:=a}:aF).ay=s) (hm:Mem W w (jM c {x with rs:=a} m g k d b++T)):SF W c x m g k d b T s (.returned (.tuple #[])) w:=⟨a,rfl,e,hs,f,hm⟩
def Fa (x e:En) (b:x.Ok) (a cr:Nat) (c:a<18446744073709551616) (hc:cr<18446744073709551616) (d:x.woken a cr=e) (w:aiM):
  Calls abp 207 #[.agg x.cells,vQ a,vQ cr] w (Is w (.tuple #[.agg e.cells,vI 0])):=d▸q7a x b a cr c hc w
def q2d (W w:aiM) (x:aF) (K c:Nat) (u B C D t:Nat) (hx:sO x u B C D t) (T:List aiX) (E:aiW) (ec:Nat) (l:List Nat) (hT: abm E l ec bL 3 1∈T) (hlm:∀g∈l,0<g/\g<t) (hln:abo l<=1000000)
    (L:dO x.gs=true) (hrg:abo x.rs=abo x.gs) (hsp:fH x.gs x.au x.rs) (M:x.aj<18446744073709551616) (hcp:x.au<=64) (hc:(c:Int)<x.au) (b:Mem W w (jM K x u B C D t++T)):
    Calls abp 206 #[vP K 0,abl E l ec,vI c] w (SF W K x u B C D t T (gZ x.ay l c)):=by
 obtain ⟨cp,cr,gA,gc,gs,lA,lc,cl,uA,uc,cu,tA,tc,ts,sA,sc,rs⟩:=x
 replace b:Mem W w (fM K cp cr gA u gc lA B lc uA C uc tA D tc sA t sc::fG gA u gc gs::fI lA B lc cl::fI uA C uc cu::fT tA D tc ts::fS sA t sc rs::(fR rs++(T))):=b
 obtain ⟨mP,hll,nT,hlt,hls⟩:=hx;replace mP:abo gs=u:=mP;replace hls:abo rs=t:=hls
 have hrE:Rd w w.heap.size 1 E (abo l) (l.map bL):=b.rdT 6 rfl hT
 replace L:dO gs=true:=L;replace hrg:abo rs=abo gs:=hrg;replace M:cr<18446744073709551616:=M;replace hcp:cp<=64:=hcp;replace hc:(c:Int)<cp:=hc;replace hsp:fH gs cp rs:=hsp
 have hgl:=qt L
 have nU:=hgl.1;have nV:=hgl.2.1
 obtain ⟨rE,rfl⟩:=zx (b.own (i:=1) rfl) om
 obtain ⟨rF,rfl⟩:=zx (b.own (i:=5) rfl) om
 refine (zA b Tryz.func206 82) ?_
 refine (aM 1∘Jl∘bM 1∘JB) λa Z b=>?_
 refine qg (λmS aS wS=>∃(i:Nat) (d:List Rw),(i<=abo l)/\(abo d=t)/\(fH gs cp d)/\((⟨cp,cr,some ⟨rE,0,none⟩,gc,gs,lA,lc,cl,uA,uc,cu,tA,tc,ts,some ⟨rF,0,none⟩,sc,d⟩:aF).ay=gZ (⟨cp,cr,some ⟨rE,0,none⟩,gc,gs,lA,lc,cl,uA,uc,cu,tA,tc,ts,some ⟨rF,0,none⟩,sc,rs⟩:aF).ay (l.take i) c)/\mS=abo l-i/\Fr aS 82 [] (ahY 14 i 13 (abo l) [(12,abl E l ec),(0,vP K 0),(2,vI c)])/\Mem W wS (fM K cp cr (some ⟨rE,0,none⟩) u gc lA B lc uA C uc tA D tc (some ⟨rF,0,none⟩) t sc::fG (some ⟨rE,0,none⟩) u gc gs::fI lA B lc cl::fI uA C uc cu::fT tA D tc ts::fS (some ⟨rF,0,none⟩) t sc d::(fR d++(T)))) (m:=abo l-0) ⟨0,rs,abz _,hls,hsp,rfl,rfl,Z.sub kr,b.pt 6 [0,1,2,3,4,5]⟩ ?_
 clear Z b;rintro mS a w_ ⟨i,d,hi,hl2,G,V,rfl,Z,b⟩
 refine Jb Z b ((dh 1∘JQ) (Ji (λCO=>?_) λCO=>?_))
 ·
  have X:i<abo l:=by omega
  obtain ⟨g,hge⟩:∃z,(l.getD i 0)=z:=⟨_,rfl⟩
  have hg0:=hlm g (by rw [<-hge];exact qf 0 X)
  obtain ⟨⟨yA,yc,yl⟩,Y⟩:∃y,d.getD g Rw.zero=y:=⟨_,rfl⟩
  have hys:=G g om;rw [Y] at hys
  have hyl:(abo yl:Int)=cp:=hys.1
  repeat (first|clear Z|clear b)
  intro a Z b
  obtain ⟨gy,rfl⟩:=b.jQ 6 rfl om Y om
  obtain ⟨o,H⟩:∃z,yl[c]?=some z:=⟨_,abr om⟩
  have I:=hys.2 o (abJ H)
  have hyv:=I.1.v;have sN:=I.1.r;have sS:=I.1.floor
  have hpb:=yX L (g:=g) om g hg0.1 (abu _)
  unfold fq at hpb
  obtain ⟨p,hpp⟩:∃p:Nat,(gs.getD g Gr.zero).parent=(p:Int):=⟨(gs.getD g Gr.zero).parent.toNat,by omega⟩
  have hpg:p<g:=by omega
  obtain ⟨⟨pA,pc,pl⟩,hp⟩:∃y,d.getD p Rw.zero=y:=⟨_,rfl⟩
  have hps:=G p om;rw [hp] at hps
  have hpl:(abo pl:Int)=cp:=hps.1
  revert b;revert a;repeat (first|clear Z|clear b)
  intro a Z b
  obtain ⟨gp,rfl⟩:=b.jQ 6 rfl om hp om
  obtain ⟨pz,hpz⟩:∃z,pl[c]?=some z:=⟨_,abr om⟩
  have hpo:=hps.2 pz (abJ hpz)
  have hpv:=hpo.1.v;have hpr:=hpo.1.r;have P:=hpo.1.floor
  obtain ⟨J,Q,anI,anJ⟩:=Nv L (g:=g) om
  have R:(⟨o.v,o.r,J⟩:En).Ok:=⟨by have:=I.2;rw [Q] at this;exact this,I.1.v⟩
  obtain ⟨e,N⟩:∃e,(⟨o.v,o.r,J⟩:En).woken pz.floor cr=e:=⟨_,rfl⟩
  have S:e.Ok/\e.w=J:=by rw [<-N];exact aaw R _ _ P
  have hev:=S.1.2;have her:e.r<4294967296:=by have:=Ba S.1.1;omega
  refine Jb Z b ((eY∘JP) ?_)
  obtain ⟨gE,oE,rfl,_⟩:=hrE.sat i
  refine (iC i 1∘Jy (v:=vI (l.getD i 0)) (h:=by exact Pd rfl rfl kr (λ_ h=>(h.rdT 6 rfl hT).BS (k:=i) (vw (F:=bL) (k:=i) (x:=(l.getD i 0)) ((getD_at 0 om)))))∘Jo (vI g) (by rw [hge])∘Jp 1∘bU∘bg 1∘Jn∘Jf 0∘Jg 6 O0∘Jp 1∘nG g 1∘Jy (v:= .slice ((d.getD g Rw.zero).A) ((d.getD g Rw.zero).l.length) ((d.getD g Rw.zero).c)) (h:=by exact aae 5 g Rw.zero om rfl rfl rfl)∘Jo (vS gy (abo yl) yc) (by rw [Y])∘Jp 1∘nG c 3∘Jp 1∘aJ∘bg 1∘Jn∘Jf 0∘Jf 0∘Jg 2 O0∘Jp 1∘nG g 2∘Jy (v:= .agg ((gs.getD g Gr.zero).cells)) (h:=by exact Pe rfl rfl kD rfl (λ_ h=>h.yJ pR (i:=1) rfl ((getD_at Gr.zero om))))∘JA #[vI 0,vI 0]) λw9 g9=>(JV kD aO (h1:=by exact ZT (gs.getD g Gr.zero))) λabC=>(aJ∘Jj) λa Z b=>?_
  refine qy (λaS wS=>∃(q:Nat),Fr aS 82 [] ((10,vP q 0)::(9,vP g9 0)::(8,vP gy (c*3))::(7,vI g)::(15,.bool true)::ahY 14 i 13 (abo l) [(12,abl (some ⟨gE,oE,none⟩) l ec),(0,vP K 0),(2,vI c)])/\Mem W wS (.blk q e.cells 333:: .blk g9 ((gs.getD g Gr.zero).cells) 198::fM K cp cr (some ⟨rE,0,none⟩) u gc lA B lc uA C uc tA D tc (some ⟨rF,0,none⟩) t sc::fG (some ⟨rE,0,none⟩) u gc gs::fI lA B lc cl::fI uA C uc cu::fT tA D tc ts::fS (some ⟨rF,0,none⟩) t sc d::(fR d++(T)))) ?_ ?_
  ·
   refine Jb Z b ((Vs .n [35]) λwd5=>(Vp [0,4]∘Vf 8 1∘Vp [11]∘Vf 16 0∘Vp [20,24]∘Vn 1∘Vf 2 0∘Vy 3 (v:=vQ o.v) (h:=by exact Pd rfl rfl kr (λ_ h=>h.uS 7 (j:=0) rfl om Y (H) rfl))∘Vn 5∘Vf 6 1∘Vy 7 (v:=vW o.r) (h:=by exact Pd rfl rfl kr (λ_ h=>h.uS 7 (j:=1) rfl om Y (H) rfl))∘Vc 9 O0∘Vo (vI J) (by rw [Q])∘Vn 12∘Vf 13 0∘Vf 14 6∘Vc 15 O1∘Vc 17 O0∘Vo (vI p) (by rw [hpp])∘Vy 18 (h:=by exact Yl.iO rF p 1 rfl rfl rfl)∘Vy 19 (v:= .slice ((d.getD p Rw.zero).A) ((d.getD p Rw.zero).l.length) ((d.getD p Rw.zero).c)) (h:=by exact aae 6 p Rw.zero om rfl rfl rfl)∘Vo (vS gp (abo pl) pc) (by rw [hp])∘Vy 21 (h:=by exact Yl.iO gp c 3 rfl rfl rfl)∘Vf 22 2∘Vy 23 (v:=vQ pz.floor) (h:=by exact Pd rfl rfl kr (λ_ h=>h.uS 7 (j:=2) rfl om hp (hpz) rfl))∘Vn 25∘Vf 26 0∘Vf 27 0∘Vf 28 1∘Vc 29 O1) λa Z b s=>?_)
   refine zf [10,34] kr rfl ?_
   refine all_cons ?_ ?_
   ·refine qu Z (i:=10) rfl rfl ?_
    refine jq Z b [vQ o.v,vW o.r,vI J] (.agg #[vQ o.v,vW o.r,vW J]) rfl rfl (zg o.v o.r (J:Int) om _) λCx U b a Z=>?_
    refine av (b.pt 7 [0,1,2,3,4,5,6]) (λs=>?_)
    refine zf [30,34] kr rfl ?_
    refine all_cons ?_ ?_
    ·refine qu Z (i:=30) rfl rfl ?_
     refine jq Z b [.agg #[vQ o.v,vW o.r,vW J],vQ pz.floor,vQ cr] (.tuple #[.agg e.cells,vI 0]) rfl rfl (Fa (⟨o.v,o.r,J⟩:En) e R pz.floor cr P M N _) λNM U b a Z=>?_
     refine av (b.pt 7 [0,1,2,3,4,5,6]) (λs=>?_)
     refine Vb Z b s ((Vp [31]∘Vx 32∘Vx 33∘VA 34 .n #[vQ 0,vW 0,vW 0]) λsG q=>λa Z b s=>?_)
     refine s_on Z 35 rfl (bS Z b 0 rfl rfl rfl rfl rfl qp rfl rfl (mD e) λO b=>?_)
     refine dU kr ?_
     refine ap Z (bZ kr) [36] (bt 37 []) [] λa Z=>?_
     refine qe kr ?_
     exact ⟨q,Z.sub kr,b.pt 8 [0,1,2,3,4,5,6,7]⟩
    refine all_cons ?_ all_nil
    refine qu Z (i:=34) rfl rfl ?_
    refine gX Z b #[vQ 0,vW 0,vW 0] ?_
    clear Z b;intro a sG q Z b
    refine av (b.pt 8 [1,2,3,4,5,6,7]) (λs=>?_)
    refine Vb Z b s ((VI 30 (.f .n) (h:=by exact λb=>Fa (⟨o.v,o.r,J⟩:En) e R pz.floor cr P M N _)) λNM U=>(Vp [31]∘Vx 32∘Vx 33) λa Z b s=>?_)
    refine s_on Z 35 rfl (bS Z b 0 rfl rfl rfl rfl rfl qp rfl rfl (mD e) λO b=>?_)
    refine dU kr ?_
    refine ap Z (bZ kr) [36] (bt 37 []) [] λa Z=>?_
    refine qe kr ?_
    exact ⟨q,Z.sub kr,b.pt 8 [0,1,2,3,4,5,6,7]⟩
   refine all_cons ?_ all_nil
   refine qu Z (i:=34) rfl rfl ?_
   refine gX Z b #[vQ 0,vW 0,vW 0] ?_
   clear Z b;intro a sG q Z b
   refine av (b.pt 8 [1,2,3,4,5,6,7]) (λs=>?_)
   refine Vb Z b s ((VI 10 (.f .n) (h:=by exact λb=>zg o.v o.r (J:Int) om _)) λCx U=>(VI 30 (.f .n) (h:=by exact λb=>Fa (⟨o.v,o.r,J⟩:En) e R pz.floor cr P M N _)) λNM U=>(Vp [31]∘Vx 32∘Vx 33) λa Z b s=>?_)
   refine s_on Z 35 rfl (bS Z b 0 rfl rfl rfl rfl rfl qp rfl rfl (mD e) λO b=>?_)
   refine dU kr ?_
   refine ap Z (bZ kr) [36] (bt 37 []) [] λa Z=>?_
   refine qe kr ?_
   exact ⟨q,Z.sub kr,b.pt 8 [0,1,2,3,4,5,6,7]⟩
  clear Z b;rintro a w5 ⟨q,Z,b⟩
  refine FX b [.blk q e.cells 333,.blk g9 ((gs.getD g Gr.zero).cells) 198,fM K cp cr (some ⟨rE,0,none⟩) u gc lA B lc uA C uc tA D tc (some ⟨rF,0,none⟩) t sc,fG (some ⟨rE,0,none⟩) u gc gs,fI lA B lc cl,fI uA C uc cu,fT tA D tc ts] [0,1,2,3,4,5,6] [11] λb s=>?_
  refine ap Z (λ_=>s) [0,1,2,4] (bf 12 [0,1,2,4]) [(75,vP q 1),(73,vP q 0),(72,vP gy (c*3)),(71,vP gy (c*3))] λa Z=>?_
  refine dH Z s 3 0 (v:=vQ e.v) λa Z=>?_
  refine dH Z s 5 0 (v:=vW e.r) λa Z=>?_
  refine oO Z s 6 λa Z=>?_
  refine ap Z (λ_=>s) [7] (bt 12 [8,9,10,11]) [(78,vP gy (c*3))] λa Z=>?_
  refine s_on Z 8 rfl ?_
  refine Dj Z b 7 (c:=c) 0 ({o with v:=e.v}) rfl rfl rfl rfl kr rfl rfl om (Y) (H) rfl de rfl λDm b=>?_
  replace b:Mem W Dm (.blk q e.cells 333:: .blk g9 ((gs.getD g Gr.zero).cells) 198::fM K cp cr (some ⟨rE,0,none⟩) u gc lA B lc uA C uc tA D tc (some ⟨rF,0,none⟩) t sc::fG (some ⟨rE,0,none⟩) u gc gs::fI lA B lc cl::fI uA C uc cu::fT tA D tc ts::fS (some ⟨rF,0,none⟩) t sc (aT d g c ({o with v:=e.v}))::(fR (aT d g c ({o with v:=e.v}))++(T))):=b
  refine av (b.pk [0,1,2,3,4,5,6]) (λs=>?_)
  refine Ci Z (λ_=>s) 9 λa Z=>?_
  refine ap Z (λ_=>s) [10] (bt 12 [11]) [(80,vP gy (c*3+1))] λa Z=>?_
  refine s_on Z 11 rfl ?_
  refine Dj Z b 7 (c:=c) 1 ({o with v:=e.v,r:=e.r}) rfl rfl rfl rfl kr rfl rfl (by first|omega|(rw [zq];omega)) (Ns om Y) (yw H) rfl de rfl λIQ b=>?_
  replace b:Mem W IQ (.blk q e.cells 333:: .blk g9 ((gs.getD g Gr.zero).cells) 198::fM K cp cr (some ⟨rE,0,none⟩) u gc lA B lc uA C uc tA D tc (some ⟨rF,0,none⟩) t sc::fG (some ⟨rE,0,none⟩) u gc gs::fI lA B lc cl::fI uA C uc cu::fT tA D tc ts::fS (some ⟨rF,0,none⟩) t sc (aT (aT d g c ({o with v:=e.v})) g c ({o with v:=e.v,r:=e.r}))::(fR (aT (aT d g c ({o with v:=e.v})) g c ({o with v:=e.v,r:=e.r}))++(T))):=b
  rw [R9 (by first|omega|(rw [zq];omega))] at b
  refine dU kr ?_
  refine qe kr ?_
  refine Jb Z b ((JG∘JR∘dA 1∘Jp 1∘aJ∘Jq) λa Z b=>?_)
  exact ⟨_,om,i+1,(aT d g c {o with v:=e.v,r:=e.r}),by omega,by rw [zq];exact hl2,G.put {o with v:=e.v,r:=e.r} ⟨hev,her,I.1.floor⟩ (by rw [Q];have:=S.1.1;rw [S.2] at this;exact this),by rw [q1u X,<-V,hge];exact q63 (x:=(⟨cp,cr,some ⟨rE,0,none⟩,gc,gs,lA,lc,cl,uA,uc,cu,tA,tc,ts,some ⟨rF,0,none⟩,sc,d⟩:aF)) (by show g<abo d;omega) Y H hpp (by show p<abo d;omega) hp hpz Q N,rfl,Z.sub kr,b.pt 8 [2,3,4,5,6,7]⟩
 refine (JF∘JX) λa Z b=>?_
 exact iB rfl Z (zg3 (x:=(⟨cp,cr,some ⟨rE,0,none⟩,gc,gs,lA,lc,cl,uA,uc,cu,tA,tc,ts,some ⟨rF,0,none⟩,sc,rs⟩:aF)) hl2 G (by rw [show ({(⟨cp,cr,some ⟨rE,0,none⟩,gc,gs,lA,lc,cl,uA,uc,cu,tA,tc,ts,some ⟨rF,0,none⟩,sc,rs⟩:aF) with rs:=d}:aF)=(⟨cp,cr,some ⟨rE,0,none⟩,gc,gs,lA,lc,cl,uA,uc,cu,tA,tc,ts,some ⟨rF,0,none⟩,sc,d⟩:aF) from rfl,V,abL om]) b)
def zd6 {a:Nat} {b:List Mb} (n:Nat) (h:Mem W w F) (i:F.drop n=jM f x m k d e a++T) (j:dY x m k d e a) (hc:(c:Int)<x.au) (l:g<a) (hm:aU x.ay g c=b):Calls abp 162 #[vP f 0,vI g,vI c] w (Is w (.tuple #[.agg (aN bO b).cells,.bool (!b.isEmpty)])):=hm▸zdi n h i j hc l
def zd7 (a:x.ay.Ok) {g c:Nat} (b:aU x.ay g c≠[]):(aN bO (aU x.ay g c)).v<18446744073709551616:=by
 rcases Nq (Si a b) with ⟨t,ht,_,d⟩|⟨h,_,_,_,_,e⟩
 ·rw [d];exact (a.ts t ht).v
 ·rw [e];exact (zB a h c).v
def q2e (W w:aiM) (x:aF) (I:Nat) (s t u B k:Nat) (hx:dY x s t u B k) (T:List aiX) (e:Mem W w (jM I x s t u B k++T)):
    Calls abp 157 #[vP I 0] w (SF W I x s t u B k T (gF x.ay)):=by
 obtain ⟨cp,cr,gA,gc,gs,lA,lc,cl,uA,uc,cu,tA,tc,ts,sA,sc,rs⟩:=x
 replace e:Mem W w (fM I cp cr gA s gc lA t lc uA u uc tA B tc sA k sc::fG gA s gc gs::fI lA t lc cl::fI uA u uc cu::fT tA B tc ts::fS sA k sc rs::(fR rs++(T))):=e
 obtain ⟨mP,hll,nT,hlt,Q⟩:=hx.ln
 replace mP:abo gs=s:=mP;replace hll:abo cl=t:=hll;replace nT:abo cu=u:=nT;replace hlt:abo ts=B:=hlt;replace Q:abo rs=k:=Q
 have hrg:=hx.sh.rs;replace hrg:abo rs=abo gs:=hrg
 obtain ⟨N,O,_,J⟩:=mM hx.sh.cfg
 replace N:1<=cp:=N;replace O:cp<=64:=O;replace J:dO gs=true:=J
 have nU:=(qt J).1;have nV:=(qt J).2.1
 obtain ⟨d,rfl⟩:=zx (e.own (i:=5) rfl) om
 refine (Sd e Tryz.func157 45) ?_
 refine (aM 1∘Jn∘Jf 0∘Jg 6 O0∘Jl∘bM 1∘JB) λa Z e=>?_
 refine qg (λmS aS wS=>∃(g:Nat) (f:List Rw),(g<=k)/\(abo f=k)/\(dY (⟨cp,cr,gA,gc,gs,lA,lc,cl,uA,uc,cu,tA,tc,ts,some ⟨d,0,none⟩,sc,f⟩:aF) s t u B k)/\(jG (⟨cp,cr,gA,gc,gs,lA,lc,cl,uA,uc,cu,tA,tc,ts,some ⟨d,0,none⟩,sc,rs⟩:aF) f g 0)/\mS=k-g/\Fr aS 45 [] (ahY 13 g 12 k [(11,vS d k sc),(0,vP I 0)])/\Mem W wS (fM I cp cr gA s gc lA t lc uA u uc tA B tc (some ⟨d,0,none⟩) k sc::fG gA s gc gs::fI lA t lc cl::fI uA u uc cu::fT tA B tc ts::fS (some ⟨d,0,none⟩) k sc f::(fR f++(T)))) (m:=k-0) ⟨0,rs,abz _,Q,hx,q1v,rfl,Z.sub kr,e.pt 6 [0,1,2,3,4,5]⟩ ?_
 clear Z e;rintro mS a w_ ⟨g,f,hg,hl2,R,hR,rfl,Z,e⟩
 refine Jb Z e ((dh 1∘JQ) (Ji (λzG=>?_) λzG=>?_))
 ·
  have anN:g<k:=by omega
  obtain ⟨⟨yA,yc,yl⟩,hy⟩:∃y,f.getD g Rw.zero=y:=⟨_,rfl⟩
  have K:=R.spots g (by show g<abo f;omega)
  replace K:((f.getD g Rw.zero).l.length:Int)=cp/\_:=K
  rw [hy] at K
  have hyl:(abo yl:Int)=cp:=K.1
  repeat (first|clear Z|clear e)
  intro a Z e
  obtain ⟨Y,rfl⟩:=e.jQ 6 rfl om hy om
  have S:=hR.2.1 g
  rw [hy] at S
  replace S:abo yl=(rs.getD g Rw.zero).l.length:=S
  refine Jb Z e ((eY∘aM 1∘nG g 1∘Jy (v:= .slice ((f.getD g Rw.zero).A) ((f.getD g Rw.zero).l.length) ((f.getD g Rw.zero).c)) (h:=by exact aae 5 g Rw.zero om rfl rfl rfl)∘Jo (vS Y (abo yl) yc) (by rw [hy])∘Jp 2∘bg 1∘Jl∘bM 1∘JB) λa Z e=>?_)
  refine qg (λmS aS wS=>∃(c:Nat) (b:List Rw) (p:List Sp),(abo b=k)/\(dY (⟨cp,cr,gA,gc,gs,lA,lc,cl,uA,uc,cu,tA,tc,ts,some ⟨d,0,none⟩,sc,b⟩:aF) s t u B k)/\(jG (⟨cp,cr,gA,gc,gs,lA,lc,cl,uA,uc,cu,tA,tc,ts,some ⟨d,0,none⟩,sc,rs⟩:aF) b g c)/\(b.getD g Rw.zero=⟨some ⟨Y,0,none⟩,yc,p⟩)/\(abo p=abo yl)/\mS=abo yl-c/\Fr aS 45 [] (ahY 20 c 19 (abo yl) ((3,vS Y (abo yl) yc)::(2,vI g)::(14,.bool true)::ahY 13 g 12 k [(11,vS d k sc),(0,vP I 0)]))/\Mem W wS (fM I cp cr gA s gc lA t lc uA u uc tA B tc (some ⟨d,0,none⟩) k sc::fG gA s gc gs::fI lA t lc cl::fI uA u uc cu::fT tA B tc ts::fS (some ⟨d,0,none⟩) k sc b::(fR b++(T)))) (m:=abo yl-0) ⟨0,f,yl,hl2,R,hR,hy,rfl,rfl,Z.sub kr,e.pt 6 [0,1,2,3,4,5]⟩ ?_
  clear Z e;rintro mS a w_ ⟨c,b,p,U,E,L,q,P,rfl,Z,e⟩
  refine Jb Z e ((dh 1∘JQ) (Ji (λCt=>?_) λCt=>?_))
  ·
   have hc21:c<abo yl:=by omega
   obtain ⟨o,F⟩:∃z,p[c]?=some z:=⟨_,abr om⟩
   obtain ⟨C,G⟩:∃z,aU (⟨cp,cr,gA,gc,gs,lA,lc,cl,uA,uc,cu,tA,tc,ts,some ⟨d,0,none⟩,sc,rs⟩:aF).ay g c=z:=⟨_,rfl⟩
   have D:=E.spots g (by show g<abo b;omega)
   replace D:((b.getD g Rw.zero).l.length:Int)=cp/\∀z∈(b.getD g Rw.zero).l,z.Ok/\_:=D
   rw [q] at D
   have V:=(D.2 o (abJ F)).1
   have hzf:=V.floor
   have M:=(CU (x:=(⟨cp,cr,gA,gc,gs,lA,lc,cl,uA,uc,cu,tA,tc,ts,some ⟨d,0,none⟩,sc,b⟩:aF)) (by show g<abo b;omega) (E.sh.row g (by show g<abo b;omega))).2 c (by show c<(b.getD g Rw.zero).l.length;rw [q];show c<abo p;omega)
   replace M:eZ _ g ((b.getD g Rw.zero).l.getD c Sp.zero)=true:=M
   rw [q,show (⟨some ⟨Y,0,none⟩,yc,p⟩:Rw).l.getD c Sp.zero=o from uT Sp.zero F] at M
   refine (eY∘aM 2∘aL∘bg 3∘JI (h:=by exact λe=>zd6 0 e rfl E (by show (c:Int)<cp;omega) om ((q65 L g c).trans G))) λEU hbw=>(Jp 1∘Jx∘Jx∘JA #[vQ 0,vQ 0,vQ 0]) λw5 g5=>(JV uo aO (h1:=by exact CV (aN bO C))) λDm=>(Jp 1∘bg 1∘Jj) (Ju (λH=>?_) λH=>?_)
   ·
    have hne:C≠[]:=by simpa using H
    have hbv:=zd7 (x:=(⟨cp,cr,gA,gc,gs,lA,lc,cl,uA,uc,cu,tA,tc,ts,some ⟨d,0,none⟩,sc,rs⟩:aF)) hx.ok (g:=g) (c:=c) (by rw [G];exact hne)
    rw [G] at hbv
    have hr1:iR (⟨cp,cr,gA,gc,gs,lA,lc,cl,uA,uc,cu,tA,tc,ts,some ⟨d,0,none⟩,sc,rs⟩:aF).ay g c o={o with floor:=max o.floor (aN bO C).v}:=by unfold iR;rw [G,if_neg (by simpa using hne)]
    refine (JT∘Vs .n [12]) λNP=>(Vp [0,1,2,3]∘Vy 4 (h:=by exact Yl.iO Y c 3 rfl rfl rfl)∘Vf 5 2∘Vy 6 (v:=vQ o.floor) (h:=by exact Pd rfl rfl kr (λ_ h=>h.uS 7 (j:=2) rfl om q (F) rfl))∘mK 7 uo O0∘VI 8 .n (h:=by exact λe=>zgu (aN bO C) _)) λNQ hbw=>(Vy 9 (v:=vQ (if ((aN bO C).v:Int)>(o.floor:Int) then ((aN bO C).v:Int) else (o.floor:Int))) (h:=by exact Yl.max rfl rfl rfl)∘Vo (vQ (max o.floor (aN bO C).v:Nat)) (by rw [agr];split<;>split<;>first|rfl|(congr 1;omega))∘Vu 10 (h:=by exact λ_=>Yl.iO Y c 3 rfl rfl rfl)∘Vf 11 2) λa Z e HS=>?_
    refine s_on Z 12 rfl ?_
    refine Dj Z e 6 (c:=c) 2 ({o with floor:=max o.floor (aN bO C).v}) rfl rfl rfl rfl kr rfl rfl om (q) (F) rfl de rfl λX e=>?_
    replace e:Mem W X (.blk g5 ((aN bO C).cells) 283::fM I cp cr gA s gc lA t lc uA u uc tA B tc (some ⟨d,0,none⟩) k sc::fG gA s gc gs::fI lA t lc cl::fI uA u uc cu::fT tA B tc ts::fS (some ⟨d,0,none⟩) k sc (aT b g c ({o with floor:=max o.floor (aN bO C).v}))::(fR (aT b g c ({o with floor:=max o.floor (aN bO C).v}))++(T))):=e
    refine dU kr ?_
    refine qe kr ?_
    refine Jb Z e ((JG∘JR∘dA 1∘Jp 1∘aJ∘Jq) λa Z e=>?_)
    exact ⟨_,om,c+1,(aT b g c {o with floor:=max o.floor (aN bO C).v}),(p.set c {o with floor:=max o.floor (aN bO C).v}),by rw [zq];exact U,E.put (by show g<abo b;omega) {o with floor:=max o.floor (aN bO C).v} ⟨V.v,V.r,by show max _ _<_;rw [agr];split<;>omega⟩ M,q1w L (by show g<abo rs;omega) (by show c<(rs.getD g Rw.zero).l.length;omega) (by rw [q];exact F) hr1,Ns om q,by rw [abK];exact P,rfl,Z.sub kr,e.pt 7 [1,2,3,4,5,6]⟩
   have hem:aU (⟨cp,cr,gA,gc,gs,lA,lc,cl,uA,uc,cu,tA,tc,ts,some ⟨d,0,none⟩,sc,rs⟩:aF).ay g c=[]:=by rw [G];simpa using H
   refine (aQ∘JR∘dA 1∘Jp 1∘aL∘Jq) λa Z e=>?_
   exact ⟨_,om,c+1,b,p,U,E,q1x L hem,q,P,rfl,Z.sub kr,e.pt 7 [1,2,3,4,5,6]⟩
  refine (JF∘JX∘JG∘JR∘dA 1∘Jp 1∘aL∘Jq) λa Z e=>?_
  exact ⟨_,om,g+1,b,by omega,U,E,q66 L (by show (rs.getD g Rw.zero).l.length<=c;omega),rfl,Z.sub kr,e.pt 6 [0,1,2,3,4,5]⟩
 refine (JF∘JX) λa Z e=>?_
 exact iB rfl Z (zg3 (x:=(⟨cp,cr,gA,gc,gs,lA,lc,cl,uA,uc,cu,tA,tc,ts,some ⟨d,0,none⟩,sc,rs⟩:aF)) hl2 R.spots (q67 hR (by show abo rs<=g;omega)) e)
end Go.Proofs.YtekiimhdnigmcaaGreatDoor
