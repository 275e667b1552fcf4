/- Parts. -/
import Derived.Test.YtekiimhdnigmcaaGreatDoorQgZ3
set_option linter.all false
set_option maxRecDepth 100000
set_option maxHeartbeats 1000000
namespace Go.Proofs.YtekiimhdnigmcaaGreatDoor
open Go.RowKit
open Go renaming World→ajg,Value→ajh,Program→aji,TypeId→ajj,Ending→ajk,Operand→ajl,Oper→ajm,Deferred→ajo,Exit→ajp
open List renaming length→abr
open _root_.Go.Proofs.Tryz renaming prog→abt,func202→ahB
open _root_.List renaming length_append→abu,getElem?_eq_getElem→abv,getD_eq_getElem?_getD→abw,append_assoc→aby,length_map→abz,length_take→abA,length_drop→abE,getElem?_eq_some_iff→abF,mem_of_getElem?→abK,length_set→abL,take_of_length_le→abM,append_nil→abN,flatMap_cons→abO,mem_of_mem_drop→abQ,length_cons→abS,map_append→abW,mem_cons→abX,flatMap_append→abZ,take_append_drop→ab1,mem_or_eq_of_mem_set→ab4,mem_cons_of_mem→ab5,mem_map→ab7,mem_append→acg,mem_cons_self→aci,getElem_of_mem→acn,mem_of_mem_take→aco,drop_of_length_le→acu,not_mem_nil→acA,perm_append_comm→acG,drop_drop→acH,getElem?_map→acQ,mem_flatMap→acT,length→acY,mem_map_of_mem→ac1,getElem_mem→ada,perm_middle→ade,mem_append_right→adi,getElem?_set_self→adk,getElem?_eq_none→adp,take_left→adP,getElem?_append_left→adU,ext_getElem→aeh,length_nil→aes,pairwise_cons→aeC,takeWhile_sublist→aeK,set_cons_zero→aeS,getElem?_set_ne→aeV,set_append→aeY,getElem_mapIdx→aeZ,takeWhile_cons→ae0,length_mapIdx→afa,set_set→afn,map_set→afo,getD_cons_zero→aft,takeWhile_append_dropWhile→afA,set_cons_succ→afK,foldl_append→afS,perm_append_comm_assoc→afU,eraseIdx_sublist→agw,getD_cons_succ→agF,length_pos_iff→agH,getElem_map→ag2
open Nat renaming le_refl→abx,zero_le→abC,lt_or_ge→ab0,zero_add→ab9,eq_zero_or_pos→ach,xor_assoc→acS,mul_one→ac5,testBit_two_pow_mul→ac6,le_trans→adg,mod_lt→adJ,testBit_xor→adL,eq_of_testBit_eq→aer,strongRecOn→ae8,xor_self→afp,pow_succ→afH,xor_lt_two_pow→afT,mul_comm→af2,testBit_mod_two_pow→agk,pow_zero→agu,zero_xor→agv,lt_trichotomy→ag0,lt_succ_of_lt→ag1,xor_comm→ag5,one_mul→ahu,mul_assoc→ahx,xor_zero→ahD,le_of_lt→ahI,pow_add→ahK
open Bool renaming and_eq_true→abH,eq_iff_iff→ab3,true_and→acj,not_eq_true'→acP,false_and→adz,and_false→adA,or_eq_true→adD,not_eq_false'→aem
open Int renaming toNat_natCast→abI,le_refl→agl,ofNat_inj→ahA
open Value renaming bool→abP,int→abT,oneCell'→abV,agg→afz
open Builtin renaming zeroCells→ab2
open World renaming ownsRow_nil→acK
open Addr renaming add_mid→acL
open Option renaming not_isSome_iff_eq_none→adu
open Classical renaming not_not→ady
open Rw renaming l→ael
open ajr renaming row→agz
variable {w W:ajg} {a s:dG} {b:Bk} {c d e er m g cpu lost k i uI:Nat} {l R:List Nat} {A E:ajq} {q:List Ev×Nat×Nat} {x:aF} {r:ajk} {T F:List ajr} {t:Tk} {z:Sp} {rs:List Rw} {yl:List Sp}
def q6e (g:Nat) (b:Bk) (o:b.Ok) (A:ajq) (c B:Nat) (w:ajg) (r:aR B w) (p:B<=w.heap.size) (hr:Rd w w.heap.size 11 A (abr b.evs) (b.evs.flatMap fD)) (u:abr b.evs<=1000000) (hb:w.heap[g]?=some (.cells (b.cells A c) 85 (0,0))):
    Calls abt 225 #[vP g 0] w (Is w (.bool b.qB)):=by
 refine (fE Tryz.func225 47) ?_
 refine (cB 1∘JQ∘JP∘Jf 4∘Jy (v:= .slice A (abr b.evs) c) (h:=by exact Pd rfl rfl kr (λ_ h=>h.mV hb rfl))∘JI (h:=by exact λd=>zot A (abr b.evs) c b.evs o.evs B _ (r.mem d p).laid (d.le p) (d.old hr) om (i:=(jo b.evs).1) (er:=(jo b.evs).2) rfl)) λx s=>(Jp 1∘Jx∘Jx∘Jp 2∘aI∘bg 3) (Jh (λe=>?_) λe=>?_)
 ·
  exact (Jv 19 [(31,.bool true)]∘kV∘Jj∘JT∘bB 1∘aW) λd=>by exact ⟨by rw [show b.qB=false from decide_eq_false om],d.below⟩
 refine (Jf 1∘Jy (v:=vB b.cpu) (h:=by exact Pd rfl rfl kr (λ_ h=>h.mV hb rfl))∘Jp 3) (Ji (λf=>?_) λf=>?_)
 ·
  exact (Jv 14 [(31,.bool true)]∘aI∘Jj∘JT∘bB 1∘aW) λd=>by exact ⟨by rw [show b.qB=false from decide_eq_false om],d.below⟩
 refine (Jf 2∘Jy (v:=vI b.lost) (h:=by exact Pd rfl rfl kr (λ_ h=>h.mV hb rfl))∘Jp 3) (Ji (λj=>?_) λj=>?_)
 ·
  exact (Jv 9 [(31,.bool true)]∘aI∘Jj∘JT∘bB 1∘aW) λd=>by exact ⟨by rw [show b.qB=false from decide_eq_false om],d.below⟩
 refine (Jf 2∘Jy (v:=vI b.lost) (h:=by exact Pd rfl rfl kr (λ_ h=>h.mV hb rfl))∘Jp 3) (Ji (λk=>?_) λk=>?_)
 ·
  exact (Jp 4∘aI∘Jj∘JT∘bB 1∘aW) λd=>by exact ⟨by rw [show b.qB=false from decide_eq_false om],d.below⟩
 refine (Jf 3∘Jy (v:=vI b.next) (h:=by exact Pd rfl rfl kr (λ_ h=>h.mV hb rfl))∘Jp 2∘aI∘Jj) (Jh (λl=>?_) λl=>?_)
 ·
  exact (JT∘bB 1∘aW) λd=>by exact ⟨by rw [show b.qB=false from decide_eq_false om],d.below⟩
 refine (aP∘JQ∘JP∘Jf 4∘Jy (v:= .slice A (abr b.evs) c) (h:=by exact Pd rfl rfl kr (λ_ h=>h.mV hb rfl))∘Jl∘Jp 1∘eO∘Jj) (Je (λm=>?_) λm=>?_)
 ·
  exact (JT∘JP∘Jf 2∘Jy (v:=vI b.lost) (h:=by exact Pd rfl rfl kr (λ_ h=>h.mV hb rfl))∘Jp 2∘eO∘aQ∘aW) λd=>by exact ⟨by rw [ab3.2 (show (decide ((b.lost:Int)>(0:Int)))=true↔b.qB=true by unfold Bk.qB;rw [Zn om];simp only [decide_eq_true_eq,beq_iff_eq];omega)],d.below⟩
 refine (aP) λa Z d=>?_
 refine wp_seq ?_
 refine Jb Z d ((Vs .n []) λt=>(Vf 0 4∘Vf 5 1∘Vy 1 (v:= .slice A (abr b.evs) c) (h:=by exact Pd rfl rfl kr (λ_ h=>h.mV hb rfl))) ?_)
 obtain ⟨gA,q,rfl,_⟩:=hr.sat 0
 exact (Vy 2 (v:=vP gA q) (h:=by exact Yl.indexAddr (ad:=⟨gA,q,none⟩) (y:=0) (sz:=11) rfl rfl rfl om kr)∘Vf 3 2∘GH 4 sj hr 2 0 Ev.zero (hk:=by first|omega|(simp;omega))∘Vy 6 (v:=vB b.cpu) (h:=by exact Pd rfl rfl kr (λ_ h=>h.mV hb rfl))∘Vp [7,8]∘Vd∘aI∘JZ∘aW) λd=>by exact ⟨by rw [ab3.2 (show (((b.evs.getD 0 Ev.zero).cpu:Int)==(b.cpu:Int))=true↔b.qB=true by unfold Bk.qB;rw [Zm om];simp only [decide_eq_true_eq,beq_iff_eq];omega)],d.below⟩
def q6f (g:Nat) (b:Bk) (A:ajq) (c:Nat) (w:ajg) (hb:w.heap[g]?=some (.cells (b.cells A c) 85 (0,0))):
    Calls abt 226 #[vP g 0] w (Is w (.bool b.vE)):=by
 refine (fE Tryz.func226 26) ?_
 refine (aM 1∘Jr∘Jf 3∘Jy (v:=vI b.next) (h:=by exact Pd rfl rfl kr (λ_ h=>h.mV hb rfl))∘Jp 2) (Ji (λi=>?_) λi=>?_)
 ·
  refine (Jf 3∘Jy (v:=vI b.next) (h:=by exact Pd rfl rfl kr (λ_ h=>h.mV hb rfl))∘Jp 3) (Ji (λd=>?_) λd=>?_)
  ·
   refine (Jf 1∘Jy (v:=vB b.cpu) (h:=by exact Pd rfl rfl kr (λ_ h=>h.mV hb rfl))∘Jp 3) (Je (λe=>?_) λe=>?_)
   ·
    refine (Jf 2∘Jy (v:=vI b.lost) (h:=by exact Pd rfl rfl kr (λ_ h=>h.mV hb rfl))∘Jp 3) (Je (λf=>?_) λf=>?_)
    ·
     exact (Jf 4∘Jy (v:= .slice A (abr b.evs) c) (h:=by exact Pd rfl rfl kr (λ_ h=>h.mV hb rfl))∘Jl∘Jp 3∘aI∘aQ∘aW) λa=>by exact ⟨by rw [ab3.2 (show ((abr b.evs:Int)==(0:Int))=true↔b.vE=true by unfold Bk.vE;simp only [decide_eq_true_eq,beq_iff_eq];omega)],a.below⟩
    exact (Jp 6∘aI∘aQ∘aW) λa=>by exact ⟨by rw [show b.vE=false from decide_eq_false om],a.below⟩
   exact (Jv 11 [(1,.bool false)]∘aI∘aQ∘aW) λa=>by exact ⟨by rw [show b.vE=false from decide_eq_false om],a.below⟩
  exact (Jv 16 [(1,.bool false)]∘aI∘aQ∘aW) λa=>by exact ⟨by rw [show b.vE=false from decide_eq_false om],a.below⟩
 exact (Jv 21 [(1,.bool false)]∘fK∘aQ∘aW) λa=>by exact ⟨by rw [show b.vE=false from decide_eq_false om],a.below⟩
def Hq (b:Bk) (k:b.Ok) (A:ajq) (c B:Nat) (w:ajg) (r:aR B w) (o:B<=w.heap.size) (hr:Rd w w.heap.size 11 A (abr b.evs) (b.evs.flatMap fD)) (s:abr b.evs<=1000000):
    Calls abt 164 #[.agg (b.cells A c)] w (Is w (.bool b.fits)):=by
 refine (fE Tryz.func164 19) ?_
 refine (JP∘JE) λt g1=>(Jp 1∘Jr) λa Z d=>?_
 refine fo Z 0 rfl rfl ?_
 refine q46 Z d rfl rfl de ?_
 clear Z d;intro a u x Z d
 refine Jb Z d ((Jy (h:=by exact Yl.makeFunc (fst:=[]) (caps:=[vP g1 0]) rfl rfl rfl)) λa Z d=>?_)
 refine fo Z 2 rfl rfl ?_
 refine XV Z d (i:=0) (kt:=5) (et:=23) (kd:= .int .u8) (Or.inr rfl) rfl kr kr rfl rfl rfl rfl (by first|trivial|rfl) (rfl) λp d=>?_
 refine Jb Z d ((Jy (h:=by exact Yl.makeFunc (fst:=[]) (caps:=[vP g1 0]) rfl rfl rfl)) λa Z d=>?_)
 refine fo Z 4 rfl rfl ?_
 refine XV Z d (i:=0) (kt:=5) (et:=23) (kd:= .int .u8) (Or.inr rfl) rfl kr kr rfl rfl rfl rfl (by first|trivial|rfl) (rfl) λq d=>?_
 refine Jb Z d ((Jp 2∘fK∘Jq) λa Z d=>?_)
 rcases zo1 b.kind with e|e|⟨e,l⟩
 ·
  refine Jb Z d ((JG∘aM 1∘Jg 0 O1∘Jy (v:= .func (.func 225) #[] #[vP g1 0]) (h:=by exact aaQ (kt:=5) (et:=23) (kd:= .int .u8) (j:=0) (es:=(#[].push {key:=vB 1,val:= .func (.func 225) #[] #[vP g1 0],born:=0}).push {key:=vB 2,val:= .func (.func 226) #[] #[vP g1 0],born:=0+1}) (clock:=0+1+1) rfl kr kr rfl rfl (λ_ h=>h.jI (i:=0) rfl) (by first|trivial|rfl) (by rw [e];rfl))∘Jp 1∘fK∘bg 1∘Jy (v:= .bool true) (h:=by exact aaX rfl rfl rfl kr)∘Jp 2) λa Z d=>?_)
  refine fo Z 4 rfl rfl ?_
  refine zl Z (f:=225) (vs:=[]) (fst:=[]) (caps:=[vP g1 0]) rfl rfl rfl kr rfl de (q6e _ b k A c B _ (r.mem d o) (d.le o) (d.old hr) s (d.blk (i:=1) rfl)) ?_
  rintro _ m ⟨rfl,g⟩
  refine ⟨_,rfl,?_⟩
  replace d:=d.call g
  clear Z;intro a Z
  exact Jb Z d ((Jp 2∘aI∘aQ∘JM (.f .n)∘aW) λd=>by exact ⟨by unfold Bk.fits;rw [if_pos e],d.below⟩)
 ·
  refine Jb Z d ((JG∘aM 1∘Jg 0 O1∘Jy (v:= .func (.func 226) #[] #[vP g1 0]) (h:=by exact aaQ (kt:=5) (et:=23) (kd:= .int .u8) (j:=1) (es:=(#[].push {key:=vB 1,val:= .func (.func 225) #[] #[vP g1 0],born:=0}).push {key:=vB 2,val:= .func (.func 226) #[] #[vP g1 0],born:=0+1}) (clock:=0+1+1) rfl kr kr rfl rfl (λ_ h=>h.jI (i:=0) rfl) (by first|trivial|rfl) (by rw [e];rfl))∘Jp 1∘fK∘bg 1∘Jy (v:= .bool true) (h:=by exact aaX rfl rfl rfl kr)∘Jp 2) λa Z d=>?_)
  refine fo Z 4 rfl rfl ?_
  refine zl Z (f:=226) (vs:=[]) (fst:=[]) (caps:=[vP g1 0]) rfl rfl rfl kr rfl de (q6f _ b A c _ (d.blk (i:=1) rfl)) ?_
  rintro _ m ⟨rfl,g⟩
  refine ⟨_,rfl,?_⟩
  replace d:=d.call g
  clear Z;intro a Z
  exact Jb Z d ((Jp 2∘aI∘aQ∘JM (.f .n)∘aW) λd=>by exact ⟨by unfold Bk.fits;rw [if_neg om,if_pos e],d.below⟩)
 ·
  exact Jb Z d ((JG∘aM 1∘Jg 0 O1∘Jy (v:= .nilFunc) (h:=by exact abj (kt:=5) (et:=23) (kd:= .int .u8) (es:=(#[].push {key:=vB 1,val:= .func (.func 225) #[] #[vP g1 0],born:=0}).push {key:=vB 2,val:= .func (.func 226) #[] #[vP g1 0],born:=0+1}) (clock:=0+1+1) rfl kr kr rfl rfl (λ_ h=>h.jI (i:=0) rfl) (by first|trivial|rfl) (by have e1:((b.kind:Int)==1)=false:=(by rw [beq_eq_false_iff_ne];omega);have e2:((b.kind:Int)==2)=false:=(by rw [beq_eq_false_iff_ne];omega);simp [Instr.findNow,Instr.sameNow,e1,e2]) kr)∘Jp 1∘fK∘bg 1∘Jy (v:= .bool false) (h:=by exact aa0 rfl rfl rfl kr)∘Jp 5∘aI∘aQ∘JM (.f .n)∘aW) λd=>by exact ⟨by unfold Bk.fits;rw [if_neg e,if_neg l],d.below⟩)
def zdn (b:Bk) (A:ajq) (c:Nat) (w:ajg) (hr:Rd w w.heap.size 11 A (abr b.evs) (b.evs.flatMap fD)) (k:abr b.evs≠0):
    Calls abt 172 #[.agg (b.cells A c)] w (Is w (.agg b.base.cells)):=by
 refine (fE Tryz.func172 14) ?_
 refine (JP∘JE) λl g1=>(JA #[vI 0,vI 0]) λm o=>(Jj) λa Z d=>?_
 refine wp_seq ?_
 refine Jb Z d ((Vs .n [11]) λj=>(Vf 0 4∘Vf 5 4∘Vc 1 O1) ?_)
 obtain ⟨gA,e,rfl,_⟩:=hr.sat 0
 refine (Vy 2 (v:=vP gA e) (h:=by exact Yl.indexAddr (ad:=⟨gA,e,none⟩) (y:=0) (sz:=11) rfl rfl rfl om kr)∘Vf 3 0∘YC 4 sj hr 0 Ev.zero (hk:=by first|omega|(simp;omega))∘Vc 6 O1∘Vy 7 (v:=vP gA e) (h:=by exact Yl.indexAddr (ad:=⟨gA,e,none⟩) (y:=0) (sz:=11) rfl rfl rfl om kr)∘Vf 8 1∘GH 9 sj hr 1 0 Ev.zero (hk:=by first|omega|(simp;omega))∘Vy 10 (v:= .agg #[vI ((b.evs.getD 0 Ev.zero).seq),vI ((b.evs.getD 0 Ev.zero).time)]) (h:=by exact Yl.build (vs:=(ah8 0 ((b.evs.getD 0 Ev.zero).seq) 1 ((b.evs.getD 0 Ev.zero).time) [])) rfl kr kr)) λa Z d p=>?_
 refine s_on Z 11 rfl (bV Z d 0 rfl rfl rfl rfl rfl ⟨kr,kr⟩ rfl rfl (by simp [abV]) λg d=>?_)
 refine dR kr ?_
 refine qe kr ?_
 refine Jb Z d ((JM (.t (.f .n))∘JZ) λa Z d=>?_)
 exact jc rfl Z (.cellS (i:=0) Z d rfl rfl ⟨kr,kr⟩ rfl) (⟨by rw [q6a];rfl,d.below⟩)
def Ra (x:Nat) (c:x<18446744073709551616) (w:ajg):
    Calls abt 227 #[vQ x] w (sU w (ak x)):=by
 refine (fE Tryz.func227 5) ?_
 exact (aM 1∘bg 1∘JK (h:=by exact λa=>q1g c)) λd e f b=>(Jp 1∘bU∘aQ∘aW) λa=>by exact ⟨⟨_,_,rfl,a.own (i:=0) rfl,b⟩,a.below⟩
def Rb {a b c d:Part} (f:Rd w w.heap.size 1 a.A (abr a.l) (a.l.map B8)) (hb:Rd w w.heap.size 1 b.A (abr b.l) (b.l.map B8)) (hc:Rd w w.heap.size 1 c.A (abr c.l) (c.l.map B8)) (g:Rd w w.heap.size 1 d.A (abr d.l) (d.l.map B8)):∀p∈[a,b,c,d],Rd w w.heap.size 1 p.A (abr p.l) (p.l.map B8):=by
 intro p e
 simp only [abX,acA,or_false] at e
 rcases e with rfl|rfl|rfl|rfl
 ·exact f
 ·exact hb
 ·exact hc
 ·exact g
def zdo (b:Bk) (g:b.Ok) (A:ajq) (c B:Nat) (w:ajg) (N:aR B w) (F:B<=w.heap.size) (hr:Rd w w.heap.size 11 A (abr b.evs) (b.evs.flatMap fD)) (hn:abr b.evs<=1000000) (C:b.fits=true):
    Calls abt 165 #[.agg (b.cells A c)] w (sU w b.body):=by
 have G:=g.cpu
 refine (fE Tryz.func165 52) ?_
 refine (JP∘JE) λw1 g1=>(bO 1∘JQ∘JP∘Jg 0 O0∘Jp 1∘aL∘Jj) (Je (λD=>?_) λD=>?_)
 ·
  have s:b.kind=2:=by omega
  obtain ⟨n1,n2,n3,n4,n5⟩:=Zo C s
  exact (JT∘JP∘Jg 3 O0∘Jv 1 [(12,vQ (IntKind.u64.wrap b.next))]∘Jo (vQ b.next.toNat) (by exact yF om om)∘JK (h:=by exact λe=>Ra b.next.toNat om _)) λO P Q u=>(Jp 1∘eO∘aQ∘aW) λe=>by exact sU.as ⟨⟨_,_,rfl,e.own (i:=0) rfl,u⟩,e.below⟩ (by unfold Bk.body;rw [if_pos s])
 have s:b.kind≠2:=by omega
 obtain ⟨m0,m1,m2,m3,m4⟩:=q6b C s
 refine (aP∘JP∘Jg 1 O0∘Jw .u64∘Jg 2 O0∘Jv 1 [(19,vQ (IntKind.u64.wrap b.lost))]∘Jo (vQ b.lost.toNat) (by exact yF om om)∘Jg 4 O0∘Jl∘Jw .u64∘JU kT #[vQ b.cpu,vQ b.lost.toNat,vQ (abr b.evs)]) λR S=>(JK (h:=by exact λe=>M0 _ 3 _ [b.cpu,b.lost.toNat,abr b.evs] _ (e.bE (i:=0) (n:=3) (size:=1) rfl rfl) (by intro x T;simp only [abX,acA,or_false] at T;omega) om)) λj k U v=>(Jp 1∘aI∘Jj∘JQ∘JP∘Jg 4 O2∘Jl∘Jp 1∘bU∘Jj) (Je (λy=>?_) λy=>?_)
 ·
  exact (JT∘aM 2∘aL∘aQ∘JM (.t (.f .n))∘aW) λe=>by exact sU.as ⟨⟨_,_,rfl,e.own (i:=0) rfl,v⟩,e.below⟩ (by unfold Bk.body;rw [if_neg s,if_pos om];simp)
 have H:=q1p g (Nh C s).2 om
 obtain ⟨q1,q2,q3,q4⟩:=zdk g C s om
 refine (aP∘JP∘eF aG O2∘JI (h:=by exact λe=>zdn b A c _ (e.old hr) om)) λV W=>(JA #[vI 0,vI 0]) λw4 g4=>(JV ⟨kr,kr⟩ aN (h1:=by exact MF b.base)) λI=>(bU∘Jr∘eF ⟨kr,kr⟩ O0∘Jg 4 O3∘JK (h:=by exact λe=>zc5 b.base A (abr b.evs) c b.evs g.evs B _ (N.mem e F).laid (e.le F) (e.old hr) om H.1 H.2)) λl m X J=>(Jp 1∘Jx∘Jx∘Jp 2∘mW∘Jj) λa Z e=>?_
 refine wp_seq ?_
 refine Jb Z e ((Vs .n []) λY=>(Vp [0]∘Vf 1 0∘Vf 5 1∘Vp [9]∘Vc 2 O1∘Vq [3] [(43,vQ (IntKind.u64.wrap b.base.seq))]∘Vo (vQ b.base.seq.toNat) (by exact yF om om)∘Vc 6 O1∘Vq [7] [(47,vQ (IntKind.u64.wrap b.base.time))]∘Vo (vQ b.base.time.toNat) (by exact yF om om)∘VK 4 .n (h:=by exact λe=>Ra b.base.seq.toNat om _)) λo p Rf K=>(VK 8 (.f .n) (h:=by exact λe=>Ra b.base.time.toNat om _)) λq r C9 L=>λa Z e M=>?_)
 refine s_on Z 10 rfl (jG Z e Hg [(0,abo j ([b.cpu,b.lost.toNat,abr b.evs].flatMap ak) k),(1,abo o (ak b.base.seq.toNat) p),(2,abo q (ak b.base.time.toNat) r),(3,abo l (recs b.base b.evs) m)] #[abo j ([b.cpu,b.lost.toNat,abr b.evs].flatMap ak) k,abo o (ak b.base.seq.toNat) p,abo q (ak b.base.time.toNat) r,abo l (recs b.base b.evs) m] ?_)
 clear Z e;intro a GX g50 Z e
 refine av (e.pk [3,4,5,6,7]) (λM=>?_)
 have E:=Rb (a:=⟨j,k,[b.cpu,b.lost.toNat,abr b.evs].flatMap ak⟩) (b:=⟨o,p,ak b.base.seq.toNat⟩) (c:=⟨q,r,ak b.base.time.toNat⟩) (d:=⟨l,m,recs b.base b.evs⟩) (e.rd (i:=5) rfl) (e.rd (i:=2) rfl) (e.rd (i:=1) rfl) (e.rd (i:=3) rfl)
 exact Vb Z e M ((VK 11 (.f (.f (.f .n))) (h:=by exact λe=>(q1r _ 4 _ [⟨j,k,[b.cpu,b.lost.toNat,abr b.evs].flatMap ak⟩,⟨o,p,ak b.base.seq.toNat⟩,⟨q,r,ak b.base.time.toNat⟩,⟨l,m,recs b.base b.evs⟩] _ (e.bE (i:=0) (n:=4) (size:=1) rfl rfl) rfl om E (by have h1:=vg [b.cpu,b.lost.toNat,abr b.evs];have h2:=Ci b.base.seq.toNat;have h3:=Ci b.base.time.toNat;have h4:=Zj b.evs b.base;simp only [abO,List.flatMap_nil,abu,abN,abS,aes] at h1⊢;omega)).mono (λ_ _ h=>h.as (R':=ak b.cpu++ak b.lost.toNat++ak (abr b.evs)++(ak b.base.seq.toNat++ak b.base.time.toNat++recs b.base b.evs)) (by simp)))) λA51 c51 QK z=>(Vp [12]∘Vd∘aI∘JM (.t (.f (.f (.f (.f (.t (.t (.f .n))))))))∘JZ∘aW) λe=>by exact sU.as ⟨⟨_,_,rfl,e.own (i:=0) rfl,z⟩,e.below⟩ (by unfold Bk.body;rw [if_neg s,if_neg om]))
instance Zu:DecidableEq Bk:=λ⟨a,b,c,d,e⟩ ⟨f,g,h,i,j⟩=>
 decidable_of_iff (a=f/\b=g/\c=h/\d=i/\e=j) (by simp)
def q6g (h:8+abr b.body+4<=4096):(#[abT .u8 (((8+abr b.body+4)%256:Nat):Int),.int .u8 (((8+abr b.body+4)/256%256:Nat):Int),.int .u8 0,.int .u8 0,.int .u8 113,.int .u8 116,.int .u8 1,.int .u8 (b.kind:Int)]:Array ajh).toList++b.body.map B8=b.raw.map B8:=by
 have a:8+abr b.body+4=12+abr b.body:=by omega
 have e1:(12+abr b.body)/65536%256=0:=by omega
 have e2:(12+abr b.body)/16777216%256=0:=by omega
 unfold Bk.raw rQ
 rw [a,e1,e2]
 simp [B8]
def qvy {b:Bs} {e:Ev} (h:e.kind<256):∀x∈zn b e,x<256:=by
 intro x a
 unfold zn at a
 rcases abX.1 a with rfl|a
 ·exact h
 ·obtain ⟨y,_,c⟩:=acT.1 a
  exact zD y x c
def Zv:∀(l:List Ev) (b:Bs),(∀e∈l,e.Ok)->∀x∈recs b l,x<256
 |[],_,_,x,c=>by simp [recs] at c
 |e::r,b,a,x,c=>by
  rw [recs] at c
  rcases acg.1 c with h|h
  ·exact qvy (a e (by simp)).kind x h
  ·exact Zv r e.at (λy d=>a y (by simp [d])) x h
def zkn (c:b.Ok):∀x∈b.body,x<256:=by
 intro x a
 unfold Bk.body at a
 split at a
 ·exact zD _ x a
 ·rcases acg.1 a with h|h
  ·rcases acg.1 h with h|h
   ·rcases acg.1 h with h|h
    ·exact zD _ x h
    ·exact zD _ x h
   ·exact zD _ x h
  ·split at h
   ·cases h
   ·rcases acg.1 h with h|h
    ·rcases acg.1 h with h|h
     ·exact zD _ x h
     ·exact zD _ x h
    ·exact Zv _ _ c.evs x h
def Zw (a:b.Ok):∀x∈b.raw,x<256:=by
 intro x c
 unfold Bk.raw at c
 rcases acg.1 c with h|h
 ·rcases acg.1 h with h|h
  ·exact Yo _ x h
  ·simp only [abX,acA,or_false] at h
   have:=a.kind
   omega
 ·exact zkn a x h
theorem Nj (b:Bk):abr b.raw=8+abr b.body:=by unfold Bk.raw rQ;simp;omega
theorem Rh (b:Bk):abr b.body<=50+61*abr b.evs:=by grind [Bk.body,Zj,Ci]
def Zx (h:b.err=er) (c:er≠0) (hb:Below w.heap.size w W):mI w b.err b.out (.returned (.tuple #[.slice none 0 0,.int .i64 (er:Int)])) W:=by
 have a:b.out=[]:=by unfold Bk.out;rw [if_neg om]
 rw [h,a]
 exact ⟨⟨none,0,rfl,acK _ _ _ _,abx _⟩,hb⟩
theorem Hr (h:b.err=0):b.out=aY b.raw:=by unfold Bk.out;rw [if_pos h]
theorem Ri (b:Bk):abr b.out<=4096:=by grind [Bk.err,Bk.out,Nj,qI]
def zo2 (a:b.Ok):∀x∈b.out,x<256:=by
 unfold Bk.out
 split
 ·exact MV (Zw a)
 ·intro x c;cases c
def rT (most:Nat) (l:List Nat):aA most l<=most:=by unfold aA;split<;>omega
def E5 (most:Nat) (l:List Nat):(if ((most:Nat):Int)<(((aD l).1:Nat):Int) then ((most:Nat):Int) else (((aD l).1:Nat):Int))=((aA most l:Nat):Int):=by unfold aA;split<;>split<;>omega
def Nk (l:List Nat):abr (qd l)=abr l- (aD l).2.1:=by unfold qd;rw [abE]
def E8 (l:List Nat):abr (qd l)<=abr l:=by rw [Nk];omega
theorem Zy {most:Nat} (h:(aD l).2.2≠0):bA most l=false:=by unfold bA;rw [decide_eq_false];omega
def Zz (W:ajg) (d e:Nat) (l:List Nat) (a:Bool) (most:Nat) (fr:List ajr) (r:ajk) (f:ajg):Prop:=
 r= .returned (.int .i64 ((aA most l:Nat):Int))/\∃b c,Rd W W.heap.size 1 b (abr (qd l)) ((qd l).map B8)/\abr (qd l)<=c/\
  Mem W f (ah7 d b (abr (qd l)) c::aiY e (a&&bA most l)::fr)
def Rj {n most:Nat} {a b:Bool} {fr:List ajr} (hr:Rd W W.heap.size 1 A (abr l) (l.map B8)) (hc:abr l<=c) (d:(a&&bA most l)=b) (e:n=abr l)
  (f:Mem W w (.blk m #[.slice (if c=(aD l).2.1 then A else A.map (·.add ((aD l).2.1*1))) (n- (aD l).2.1) (c- (aD l).2.1)] 30:: .blk g #[.bool b] 4::fr)):
  Zz W m g l a most fr (.returned (.int .i64 ((aA most l:Nat):Int))) w:=by
 subst d;subst e
 refine ⟨rfl,(if c=(aD l).2.1 then A else A.map (·.add ((aD l).2.1*1))),c- (aD l).2.1,?_,?_,?_⟩
 ·rw [Nk]
  exact hr.Gs (yu l) hc
 ·rw [Nk];omega
 ·rw [Nk];exact f
def Da (w:ajg) (q:Option Bk) (r:ajk) (d:ajg):Prop:=
 (∃ a : Array ajh, r = .returned (.tuple #[.agg a, .bool q.isSome]) /\ a.size = 5 /\ (∀ v ∈ a.toList, v.oneCell' = true) /\
  (∀b,q=some b->∃A c,a=b.cells A c/\d.ownsRow w.heap.size 73 11 (.slice A (abr b.evs) c) (abr b.evs) (b.evs.flatMap fD)/\abr b.evs<=c))/\Below w.heap.size w d
def Ht {q:Option Bk} {C:Array ajh} (h:q=none) (hs:C.size=5) (h1:∀v∈C.toList,v.oneCell'=true) (hb:Below w.heap.size w W):Da w q (.returned (.tuple #[.agg C,.bool false])) W:=by
 subst h
 exact ⟨⟨C,rfl,hs,h1,λb h=>by cases h⟩,hb⟩
def Nl {q:Option Bk} (h:q=some b) (a:W.ownsRow w.heap.size 73 11 (.slice A (abr b.evs) c) (abr b.evs) (b.evs.flatMap fD)) (hc:abr b.evs<=c) (hb:Below w.heap.size w W):Da w q (.returned (.tuple #[.agg (b.cells A c),.bool true])) W:=by
 subst h
 exact ⟨⟨_,rfl,rfl,uM _ _ _,λd h=>by injection h with h;subst h;exact ⟨A,c,rfl,a,hc⟩⟩,hb⟩
def tk3 {l:List Nat}:(((true&&bA 63 l)&&bA 281474976710656 (qd l))&&bA 4096 (qd (qd l)))=vF l:=by unfold vF;simp
def ZA (l:List Nat):vG 2 l=uK l:=by unfold vG;rw [if_pos rfl]
def Db (l:List Nat):vG 1 l=zg l:=by unfold vG;rw [if_neg om]
def Hu {x:Nat} (h:x<=281474976710657):Bk.Ok ⟨2,0,0,(x:Int),[]⟩:=⟨by show 2<256;decide,by show 0<256;decide,by unfold aX;simp,Ni h,by simp⟩
def wD {es:List Ev} (h:cpu<256) (b:lost<=281474976710656) (a:∀e∈es,e.Ok):Bk.Ok ⟨1,cpu,(lost:Int),0,es⟩:=⟨by show 1<256;decide,h,Ni (by show lost<=_;omega),by unfold aX;simp,a⟩
def ZB (a:vF l=true) (b:0<aA 4096 (qd (qd l)))
  (c:gZ ⟨(aA 281474976710656 (qd (qd (qd l))):Int),(aA 281474976710656 (qd (qd (qd (qd l)))):Int)⟩ (aA 63 l) (aA 4096 (qd (qd l)):Int) (qd (qd (qd (qd (qd l)))))=q):
  zg l=uL (aA 63 l) (aA 281474976710656 (qd l)) (qd (qd (qd l))) q:=by
 unfold zg
 rw [if_pos ⟨a,b⟩,c]
theorem ZC (h:¬(q.2.2=0/\(q.1.getD 0 Ev.zero).seq=(aA 281474976710656 l:Int)/\(q.1.getD 0 Ev.zero).time=(aA 281474976710656 (qd l):Int)/\bA 281474976710656 l=true/\bA 281474976710656 (qd l)=true/\abr (qd (qd l))-q.2.1=0/\Bk.fits ⟨1,cpu,lost,0,q.1⟩=true)):uL cpu lost l q=none:=by
 unfold uL
 rw [if_neg]
 intro a
 obtain ⟨c,d,f,g,i,b,j⟩:=a
 rw [abE] at b
 have e:q.1.headD Ev.zero=q.1.getD 0 Ev.zero:=by cases q.1<;>rfl
 grind
theorem qno (h:q.2.2=0/\(q.1.getD 0 Ev.zero).seq=(aA 281474976710656 l:Int)/\(q.1.getD 0 Ev.zero).time=(aA 281474976710656 (qd l):Int)/\bA 281474976710656 l=true/\bA 281474976710656 (qd l)=true/\abr (qd (qd l))-q.2.1=0/\Bk.fits ⟨1,cpu,lost,0,q.1⟩=true):uL cpu lost l q=some ⟨1,cpu,lost,0,q.1⟩:=by
 unfold uL
 rw [if_pos]
 obtain ⟨a,b,c,d,f,g,i⟩:=h
 have e:q.1.headD Ev.zero=q.1.getD 0 Ev.zero:=by cases q.1<;>rfl
 grind
theorem Rk (l:List Nat):(uK l).isSome=(bA 281474976710657 l&& (decide (abr (qd l)=0)&&Bk.fits ⟨2,0,0,(aA 281474976710657 l:Int),[]⟩)):=by grind [uK]
theorem qsw (h:(uK l).isSome=true):uK l=some ⟨2,0,0,(aA 281474976710657 l:Int),[]⟩:=by grind [uK]
theorem Nn (h:¬(vF l=true/\0<aA 4096 (qd (qd l)))):(zg l).isSome=(vF l&& (decide (abr (qd (qd (qd l)))=0)&&Bk.fits ⟨1,aA 63 l,(aA 281474976710656 (qd l):Int),0,[]⟩)):=by grind [zg]
theorem ZE (h:¬(vF l=true/\0<aA 4096 (qd (qd l)))) (hs:(zg l).isSome=true):zg l=some ⟨1,aA 63 l,(aA 281474976710656 (qd l):Int),0,[]⟩:=by grind [zg]
theorem Rl {cpu lost L:Nat} {es:List Ev} (h:(es.getD 0 Ev.zero).seq=(aA 281474976710656 l:Int)/\(es.getD 0 Ev.zero).time=(aA 281474976710656 (qd l):Int)):(uL cpu lost l (es,L,0)).isSome=((bA 281474976710656 l&&bA 281474976710656 (qd l))&& (decide (abr (qd (qd l))-L=0)&&Bk.fits ⟨1,cpu,(lost:Int),0,es⟩)):=by grind [Bk.fits,ZC,qno,bA,qd]
theorem zdp (h:(uL cpu lost l q).isSome=true):uL cpu lost l q=some ⟨1,cpu,(lost:Int),0,q.1⟩:=by grind [uL]
theorem Da.none {q:Option Bk} (h:Da w q r W) (b:q=none):(∃a:Array ajh,r= .returned (.tuple #[.agg a,.bool false])/\a.size=5/\(∀v∈a.toList,v.oneCell'=true))/\Below w.heap.size w W:=by
 subst b
 obtain ⟨⟨a,c,d,e,_⟩,f⟩:=h
 exact ⟨⟨a,c,d,e⟩,f⟩
theorem Da.some {q:Option Bk} (h:Da w q r W) (a:q=some b):(∃A c,r= .returned (.tuple #[.agg (b.cells A c),.bool true])/\W.ownsRow w.heap.size 73 11 (.slice A (abr b.evs) c) (abr b.evs) (b.evs.flatMap fD)/\abr b.evs<=c)/\Below w.heap.size w W:=by
 subst a
 obtain ⟨⟨d,e,f,g,i⟩,j⟩:=h
 grind
def Rm (T:ajj) (w:ajg) (q:Bk×Nat×Nat) (r:ajk) (a:ajg):Prop:=
 (∃A c,r= .returned (.tuple #[.agg (q.1.cells A c),.int .i64 (q.2.1:Int),.int .i64 (q.2.2:Int)])/\a.ownsRow w.heap.size T 11 (.slice A (abr q.1.evs) c) (abr q.1.evs) (q.1.evs.flatMap fD)/\abr q.1.evs<=c)/\Below w.heap.size w a
def Bd {T:ajj} {q:Bk×Nat×Nat} (h:q=(Bk.zero,0,er)) (hb:Below w.heap.size w W):Rm T w q (.returned (.tuple #[.agg #[.int .u8 0,.int .u8 0,.int .i64 0,.int .i64 0,.slice none 0 0],.int .i64 0,.int .i64 (er:Int)])) W:=by
 subst h
 exact ⟨⟨none,0,rfl,acK _ _ _ _,abx _⟩,hb⟩
def ZF {T:ajj} {q:Bk×Nat×Nat} (h:q=(b,m,0)) (a:W.ownsRow w.heap.size T 11 (.slice A (abr b.evs) c) (abr b.evs) (b.evs.flatMap fD)) (hc:abr b.evs<=c) (hb:Below w.heap.size w W):Rm T w q (.returned (.tuple #[.agg (b.cells A c),.int .i64 (m:Int),.int .i64 0])) W:=by
 subst h
 exact ⟨⟨A,c,rfl,a,hc⟩,hb⟩
def q6j (h:(bC l).2≠0):dK l=(Bk.zero,0,(bC l).2):=by unfold dK;rw [if_pos h]
def Dc {L:List Nat} (h:(bC l).2=0) (a:L=l.take (bC l).1) (hb:gB L=(none,e)):dK l=(Bk.zero,0,e):=by unfold dK;rw [if_neg om,<-a,hb]
def Rn {L:List Nat} (h:(bC l).2=0) (a:L=l.take (bC l).1) (hb:gB L=(some b,e)):dK l=(b,(bC l).1,0):=by unfold dK;rw [if_neg om,<-a,hb]
def ZG {l:List Nat} {m g k f h:Nat} {a b c d e:List Nat}:(((((true&&bA m a)&&bA g b)&&bA k c)&&bA f d)&&bA h e)=((((true&&bA m a)&&bA g b)&&bA k c)&& (bA f d&&bA h e)):=by
 have _:=l
 rw [Bool.and_assoc]
theorem ZJ (h:(gB l).1=none):(gB l).2≠0:=by grind [gB]
def Rs (h:dK l=(b,m,0)):13<=m/\m<=abr l/\(gB (l.take m)).1=some b:=by
 unfold dK at h
 split at h
 ·rename_i c;simp only [Prod.mk.injEq] at h;exact absurd h.2.2 c
 ·rename_i c
  obtain ⟨_,d,_,e⟩:=ZI (show (bC l).2=0 by omega)
  split at h
  ·rename_i f a
   simp only [Prod.mk.injEq] at h
   obtain ⟨rfl,rfl,_⟩:=h
   exact ⟨d,e,a⟩
  ·rename_i a
   simp only [Prod.mk.injEq] at h
   exact absurd h.2.2 (ZJ a)
theorem HV (x:Nat):1<=abr (ak x):=by grind [EA,Ez,ak]
theorem ZK (b:Bk):1<=abr b.body:=by grind [Bk.body,HV]
def Np (h:b.err=0):abr b.out=12+abr b.body:=by rw [Hr h,qI,Nj];omega
theorem Rt (h:b.err=0):b.fits=true/\12+abr b.body<=4096:=by grind [Bk.err]
def ZL (h:b.fits=true) (a:12+abr b.body<=4096):b.err=0:=by
 unfold Bk.err
 rw [if_neg (by simp [h]),if_neg om]
theorem zdu (h:b.err=0):b.out.getD 4 0=113/\b.out.getD 5 0=116/\b.out.getD 6 0=1/\b.out.getD 7 0=b.kind/\(b.out.take (abr b.out-4)).drop 8=b.body:=by
 have e:abr b.out-4=abr b.raw:=by rw [Np h,Nj];omega
 rw [e,Hr h]
 unfold aY
 rw [adP,zdt]
 refine ⟨rfl,rfl,rfl,rfl,rfl⟩
def zdv (h:b.err=0) (t:List Nat):jN (b.out++t)=abr b.out:=by
 obtain ⟨a,c⟩:=Rt h
 rw [Np h,Hr h]
 unfold aY Bk.raw
 simp only [aby]
 exact Yq om _
theorem qsz (h:b.fits=true):b.kind=1\/b.kind=2:=by grind [Bk.fits]
theorem qv2 (h:b.fits=true) (c:12+abr b.body<=4096):abr b.evs<=4096:=by
 by_cases a:b.kind=2
 ·have:=Zo h a;omega
 ·have:=zoz a;omega
theorem q6m (a:b.Ok) (h:b.err=0):gB b.out=(some b,0):=by grind [Hr,gB,Rt,qv2,qsz,zdu,q1q,q5,MW]
def zdw {b:Bk} (c:b.Ok) (h:b.err=0) (t:List Nat):dK (b.out++t)=(b,abr b.out,0):=by
 obtain ⟨f,g⟩:=Rt h
 have i:=Np h
 have j:=ZK b
 have d:=zdv h t
 have a:bC (b.out++t)=(abr b.out,0):=by
  unfold bC
  rw [d,if_neg (by rw [abu];omega),if_neg om,if_neg (by rw [abu];omega)]
 refine (Rn (b:=b) (e:=0) (L:=b.out) (by rw [a]) (by rw [a];exact List.take_left.symm) (q6m c h)).trans ?_
 rw [a]
def jA:List Nat->Nat
 |[]=>0
 |b::l=>b+256*jA l
def eZ:Nat->Nat->Nat
 |0,c=>c
 |n+1,c=>eZ n (zm c)
def PG:∀(n a b:Nat),eZ n (a^^^b)=eZ n a^^^eZ n b
 |0,_,_=>rfl
 |n+1,a,b=>by rw [eZ,eZ,eZ,Qw,PG n]
def quw:∀(m n c:Nat),eZ (m+n) c=eZ n (eZ m c)
 |0,n,c=>by rw [ab9];rfl
 |m+1,n,c=>by rw [show m+1+n=(m+n)+1 by omega,eZ,eZ,quw m n]
def znn (n c:Nat):eZ (8+n) c=eZ n (nA c):=by rw [quw];rfl
def qux:∀(k n q:Nat),eZ (k+n) (2^k*q)=eZ n q
 |0,n,q=>by rw [ab9,agu,ahu]
 |k+1,n,q=>by rw [show k+1+n=(k+n)+1 by omega,eZ,afH,show 2^k*2*q=2*(2^k*q) by rw [af2 (2^k) 2,ahx],EP,qux k n q]
def qxv (h:c<4294967296) (d:c≠0):zm c≠0:=by
 unfold zm
 split
 ·intro a
  have b:c/2=uz:=by
   have:=congrArg (· ^^^uz) a
   simpa [acS] using this
  unfold uz at b
  omega
 ·omega
def quy:∀(n:Nat) {c:Nat},c<4294967296->c≠0->eZ n c≠0
 |0,_,_,a=>a
 |n+1,_,h,a=>quy n (Yk h) (qxv h a)
def LQ {x N:Nat} (a:x<256):x+256*N=(256*N)^^^x:=by
 have h:=Yh 8 (x+256*N)
 have e1:(x+256*N)/2^8=N:=by rw [show (2:Nat)^8=256 from rfl];omega
 have e2:(x+256*N)%2^8=x:=by rw [show (2:Nat)^8=256 from rfl];omega
 rw [e1,e2] at h
 exact h
def PI:∀(l:List Nat) (c:Nat),(∀x∈l,x<256)->zc c l=eZ (8*abr l) (c^^^jA l)
 |[],c,_=>by simp [zc,eZ,jA]
 |x::l,c,h=>by
  have a:=h x (by simp)
  have b:=PI l (AZ c x) (λy d=>h y (by simp [d]))
  show zc (AZ c x) l=_
  rw [b,abS,Nat.mul_add,ac5,Nat.add_comm (8*abr l) 8,znn,jA,LQ a,ag5 (256*jA l) x,<-acS,zco,q5e,Yj]
def zbg (h:abr l=4):jA l=jN l:=by
 match l,h with
 |[a,b,c,d],_=>simp only [jA,jN,aft,agF];omega
def qro (c:Nat) (l m:List Nat):zc c (l++m)=zc (zc c l) m:=by unfold zc;rw [afS]
def qpg (c:∀x∈l,x<256) (h:q5 l=true):zc 4294967295 l=eZ 32 4294967295:=by
 unfold q5 at h
 rw [decide_eq_true_eq] at h
 obtain ⟨f,h⟩:=h
 have d:abr (l.drop (abr l-4))=4:=by rw [abE];omega
 have a:∀x∈l.drop (abr l-4),x<256:=λx b=>c x (abQ b)
 have e:zc 4294967295 (l.take (abr l-4))<4294967296:=Gx _ de (λx b=>c x (aco b))
 conv=>lhs;rw [<-ab1 (abr l-4) l]
 rw [qro,PI _ _ a,d,zbg d,<-h]
 unfold zq
 rw [<-Ym e,<-acS,afp,agv]
def q36 {m:List Nat} (a:∀x∈l,x<256) (hm:∀x∈m,x<256) (c:abr m=abr l) (h1:q5 l=true) (d:q5 m=true):eZ (8*abr l) (jA l^^^jA m)=0:=by
 have e1:=qpg a h1
 have e2:=qpg hm d
 rw [PI _ _ a,PG] at e1
 rw [PI _ _ hm,c,PG] at e2
 have e:=e1.trans e2.symm
 have b:=congrArg (eZ (8*abr l) 4294967295^^^ ·) e
 simp only [<-acS,afp,agv] at b
 rw [PG,b,afp]
def j3 (l:List Nat) (k:Nat):List Nat:=l.set (k/8) (l.getD (k/8) 0^^^2^ (k%8))
theorem quz (l:List Nat) (k:Nat):abr (j3 l k)=abr l:=by unfold j3;simp
def PK (k:Nat):2^ (k%8)<256:=by
 have h:2^ (k%8)<2^8:=Nat.pow_lt_pow_right de (adJ _ de)
 exact h
def q37 (a:∀x∈l,x<256) (j:Nat):l.getD j 0<256:=by
 rcases ab0 j (abr l) with h|h
 ·exact a _ (qf 0 h)
 ·rw [abw,adp om];decide
def q0v (a:∀x∈l,x<256) (k:Nat):∀x∈j3 l k,x<256:=by
 intro x b
 unfold j3 at b
 rcases ab4 b with h|h
 ·exact a x h
 ·subst h;exact afT (n:=8) (q37 a _) (PK k)
def q38 (a b:Nat):256*(a^^^b)=256*a^^^256*b:=by
 apply aer
 intro i
 rw [show (256:Nat)=2^8 from rfl,adL,ac6,ac6,ac6,adL]
 cases decide (i>=8)<;>simp
def q0w:∀(l:List Nat) (j y:Nat),(∀x∈l,x<256)->y<256->j<abr l->jA (l.set j (l.getD j 0^^^y))=jA l^^^ (256^j*y)
 |[],_,_,_,_,h=>by simp at h
 |x::l,0,y,b,c,_=>by
  have a:=b x (by simp)
  rw [aft,aeS,jA,jA,LQ (afT (n:=8) a c),LQ a,agu,ahu,acS]
 |x::l,j+1,y,b,c,h=>by
  have a:=b x (by simp)
  have d:=q0w l j y (λz hz=>b z (by simp [hz])) c (by simpa using h)
  rw [agF,afK,jA,jA,d,LQ a,LQ a,q38,afH,af2 (256^j) 256,ahx,acS,acS,ag5 x]
def zbh (a:∀x∈l,x<256) (h:k/8<abr l):jA (j3 l k)=jA l^^^2^k:=by
 unfold j3
 rw [q0w l (k/8) (2^ (k%8)) a (PK k) h]
 congr 1
 rw [show (256:Nat)=2^8 from rfl,<-Nat.pow_mul,<-ahK]
 congr 1
 omega
def tZ (l:List Nat) (a p:Nat):Nat->List Nat
 |0=>l
 |i+1=>if a+i<8*abr l/\p/2^i%2=1 then j3 (tZ l a p i) (a+i) else tZ l a p i
def F5 (l:List Nat) (a p:Nat):∀i,abr (tZ l a p i)=abr l
 |0=>rfl
 |i+1=>by
  rw [tZ]
  split
  ·rw [quz,F5]
  ·exact F5 l a p i
def PL {l:List Nat} (b:∀x∈l,x<256) (a p:Nat):∀i,∀x∈tZ l a p i,x<256
 |0=>b
 |i+1=>by
  rw [tZ]
  split
  ·exact q0v (PL b a p i) _
  ·exact PL b a p i
def zgy (p i:Nat):p%2^ (i+1)=(p%2^i)^^^ (if p/2^i%2=1 then 2^i else 0):=by
 apply aer
 intro j
 rw [adL,agk,agk]
 have a:p.testBit i=decide (p/2^i%2=1):=by rw [Nat.testBit_eq_decide_div_mod_eq]
 by_cases hc:p/2^i%2=1
 ·rw [if_pos hc,Nat.testBit_two_pow]
  rw [decide_eq_true hc] at a
  rcases ag0 j i with h|h|h
  ·simp [h,ag1 h,Nat.ne_of_gt h]
  ·subst h;simp [a]
  ·simp [Nat.not_lt.2 (ahI h),show ¬j<i+1 by omega,Nat.ne_of_lt h]
 ·rw [if_neg hc,Nat.zero_testBit,Bool.xor_false]
  rw [decide_eq_false hc] at a
  rcases ag0 j i with h|h|h
  ·simp [h,ag1 h]
  ·subst h;simp [a]
  ·simp [Nat.not_lt.2 (ahI h),show ¬j<i+1 by omega]
def zno (k a b:Nat):2^k*(a^^^b)=2^k*a^^^2^k*b:=by
 apply aer
 intro i
 rw [adL,ac6,ac6,ac6,adL]
 cases decide (i>=k)<;>simp
def qph {l:List Nat} (e:∀x∈l,x<256) {c:Nat} (g:c<8*abr l) (p:Nat):∀i,jA (tZ l c p i)=jA l^^^2^c*(p%2^min i (8*abr l-c))
 |0=>by rw [tZ,Nat.zero_min,agu,Nat.mod_one,Nat.mul_zero,ahD]
 | i + 1 => by
  have a:=qph e g p i
  rw [tZ]
  by_cases f:c+i<8*abr l
  ·rw [show min (i+1) (8*abr l-c)=i+1 by omega,zgy]
   rw [show min i (8*abr l-c)=i by omega] at a
   by_cases b:p/2^i%2=1
   ·rw [if_pos ⟨f,b⟩,if_pos b,zbh (PL e c p i) (by rw [F5];omega),a,zno,<-ahK,acS]
   ·rw [if_neg (λd=>b d.2),if_neg b,a,ahD]
  ·rw [if_neg (λd=>f d.1),a,show min (i+1) (8*abr l-c)=min i (8*abr l-c) by omega]
def qxw {m:List Nat} (a:∀x∈l,x<256) (hm:∀x∈m,x<256) (b:abr m=abr l) (h1:q5 l=true) (c:eZ (8*abr l) (jA l^^^jA m)≠0):q5 m=false:=by
 cases h:q5 m with
 |false=>rfl
 |true=>exact absurd (q36 a hm b h1 h) c
def qnt (a:∀x∈l,x<256) (h1:q5 l=true) {c p:Nat} (d:c<8*abr l) (g:p%2=1):q5 (tZ l c p 32)=false:=by
 refine qxw a (PL a c p 32) (F5 l c p 32) h1 ?_
 rw [qph a d p 32,<-acS,afp,agv]
 obtain ⟨n,e⟩:∃n,8*abr l=c+n:=⟨8*abr l-c,by omega⟩
 obtain ⟨m,hm⟩:∃m,min 32 (8*abr l-c)=m+1:=⟨min 32 (8*abr l-c)-1,by omega⟩
 rw [hm,e,qux]
 refine quy n ?_ ?_
 ·have b:p%2^ (m+1)<2^ (m+1):=adJ _ (Nat.two_pow_pos _)
  have f:2^ (m+1)<=2^32:=Nat.pow_le_pow_right de om
  exact Nat.lt_of_lt_of_le b f
 ·have b:p%2^ (m+1)%2=p%2:=Nat.mod_mod_of_dvd _ ⟨2^m,by rw [afH,af2]⟩
  omega
def zdx {b:Bs} (a:cpu<256) {l:List Nat} {e:Ev} {u:Nat} (j:∀b∈l,b<256) (h:bF b cpu l=(e,u,0)):e.Ok/\u<=abr l:=by
 unfold bF at h
 split at h
 ·simp at h
 ·rename_i m
  split at h
  ·simp at h
  ·rename_i c
   split at h
   ·simp at h
   ·have d:l.getD 0 0<256:=j _ (qf 0 (agH.2 c))
    generalize l.getD 0 0=kd at h d
    generalize o:aV (2+abr (aB kd)) (l.drop 1)=R at h
    obtain ⟨xs,n,k⟩:=R
    unfold uj at h
    split at h
    ·rename_i f;simp at h;exact absurd h.2.2 f
    ·rename_i f
     have f:k=0:=by show k=0;exact ady.1 f
     subst f
     obtain ⟨_,_,q,r⟩:=Zb _ _ xs n (λb s=>j b (abQ s)) o
     split at h
     ·simp at h
     ·rename_i t
      split at h
      ·simp at h
      ·injection h with h i
       injection i with i
       subst h
       have v:=agH.2 c
       rw [abE] at r
       refine ⟨?_,by dsimp only at i;omega⟩
       have g:b.right=true:=by simpa using m
       unfold Bs.right at g
       simp only [decide_eq_true_eq] at g
       dsimp only at t
       exact P7 (Xp ⟨⟨by show _<=b.seq+((xs.getD 0 0:Nat):Int);omega,by show b.seq+((xs.getD 0 0:Nat):Int)<=_;omega⟩,⟨by show _<=b.time+((xs.getD 1 0:Nat):Int);omega,by show b.time+((xs.getD 1 0:Nat):Int)<=_;omega⟩,a,d,o8,o8,o8,o8,o8,by show 0<18446744073709551616;omega,o8⟩) _ (λp w=>q p.2 (abQ (List.of_mem_zip w).2))
def ZM {cpu:Nat} (a:cpu<256):∀(n:Nat) (b:Bs) (p:Option Ev) (l:List Nat),(∀x∈l,x<256)->(q6 cpu n b p l).2.2=0->(q6 cpu n b p l).1.length=n/\(∀e∈(q6 cpu n b p l).1,e.Ok)/\(q6 cpu n b p l).2.1<=abr l
 |0,b,p,l,_,_=>⟨rfl,(λe c=>by cases c),abC _⟩
 | n + 1, b, p, l, g, h => by
  rw [q6] at h⊢
  split at h
  ·rename_i d;exact absurd h d
  ·rename_i d
   split at h
   ·cases h
   ·rename_i j
    split at h
    ·rename_i f;exact absurd h f
    ·rename_i f
     rw [if_neg d,if_neg j,if_neg f]
     have k:bF b cpu l=((bF b cpu l).1,(bF b cpu l).2.1,0):=by rw [<-ady.1 d]
     obtain ⟨g1,m,o⟩:=ZM a n (bF b cpu l).1.at (some (bF b cpu l).1) (l.drop (bF b cpu l).2.1) (λx q=>g x (abQ q)) (ady.1 f)
     have i:=zdx a g k
     rw [abE] at o
     refine ⟨by show _+1=_;rw [g1],λe c=>?_,by have:=i.2;show _+_<=_;omega⟩
     rcases abX.1 c with rfl|c
     ·exact i.1
     ·exact m e c
def Ru {b:Bs} (a:cpu<256) {m:Int} {l:List Nat} {es:List Ev} {u:Nat} (d:∀x∈l,x<256) (h:gZ b cpu m l=(es,u,0)):(abr es:Int)=m/\(∀e∈es,e.Ok)/\u<=abr l:=by
 unfold gZ at h
 split at h
 ·simp at h
 ·split at h
  ·simp at h
  ·have c:=ZM a m.toNat b none l d (by rw [h])
   rw [h] at c
   exact ⟨by have:=c.1;dsimp only at this;omega,c.2⟩
def zdy (m:∀x∈l,x<256) {b:Bk} (h:vG k l=some b):b.Ok/\abr b.evs<=4096:=by
 have a:aX 0:=o8
 unfold vG at h
 split at h
 ·unfold uK at h
  split at h
  ·injection h with h
   subst h
   exact ⟨⟨by show 2<256;decide,by show 0<256;decide,a,Ni (rT _ _),λe c=>by cases c⟩,abC _⟩
  ·cases h
 ·have d:=wC m
  have f:=wC d
  have g:=wC (wC (wC f))
  have hc:aA 63 l<256:=Nat.lt_of_le_of_lt (rT _ _) de
  have hs:aX ((aA 281474976710656 (qd l):Nat):Int):=Ni (adg (rT _ _) de)
  unfold zg at h
  split at h
  ·unfold uL at h
   split at h
   ·rename_i j
    injection h with h
    subst h
    generalize n:gZ _ _ _ _=q at j⊢
    obtain ⟨es,u,o⟩:=q
    obtain ⟨i,_⟩:=j
    have i:o=0:=i
    subst i
    obtain ⟨r1,p,_⟩:=Ru hc g n
    refine ⟨⟨by show 1<256;decide,hc,hs,a,p⟩,?_⟩
    have:=rT 4096 (qd (qd l))
    show abr es<=4096
    omega
   ·cases h
  ·split at h
   ·injection h with h
    subst h
    exact ⟨⟨by show 1<256;decide,hc,hs,a,λe c=>by cases c⟩,abC _⟩
   ·cases h
def zkq (d : ∀ x ∈ l, x < 256) (h : (dK l).2.2 = 0) : (dK l).1.Ok /\ (dK l).1.evs.length <= 4096 := by
 unfold dK at h⊢
 split at h
 ·rename_i c;exact absurd h c
 ·rename_i c
  rw [if_neg c]
  split at h
  ·rename_i b a
   show b.Ok/\abr b.evs<=4096
   unfold gB at a
   split at a
   ·cases a
   ·split at a
    ·cases a
    ·split at a
     ·cases a
     ·split at a
      ·cases a
      ·split at a
       ·cases a
       ·rename_i g e
        injection a with a
        subst a
        exact zdy (λx f=>d x (aco (aco (abQ f)))) e
  ·rename_i a
   exact absurd h (ZJ a)
def Bw {x:aF} (h:ShAt x):∀i,i<abr x.ts->(i:Int)+1<=(x.ts.getD i Tk.zero).id
 |0,hi=>(qW (h.tk 0 hi)).1
 |i+1,hi=>by
  have b:=Bw h i om
  have a:=(Fp (h.tk (i+1) hi)).1
  rw [Nat.add_sub_cancel] at a
  omega
def zpk (h:ShAt x):abr x.ts<=65535:=by
 rcases ab0 65535 (abr x.ts) with a|a
 ·have b:=Bw h 65535 a
  have c:=(qW (h.tk 65535 a)).2
  omega
 ·exact a
def zlj (g:Nat) (z:Sp):abr (nS g z)<=3:=by unfold nS;split<;>simp
def zlk (g:Nat) (l:List Sp):abr (lu g l)<=3*abr l:=Iz (λc=>zlj g (l.getD c Sp.zero)) _
theorem qy5 (h:ShAt s.st):abr (aJ s 0)=1/\abr (aJ s 1)=3/\abr (aJ s 2)<=512/\abr (aJ s 3)<=64/\abr (aJ s 4)<=64/\abr (aJ s 5)<=524281/\abr (aJ s 6)<=49152:=by
 obtain ⟨b,c,_,a⟩:=mX h.cfg
 obtain ⟨d,e,_,_⟩:=qt a
 have j:=h.cl
 have k:=h.cu
 have n:=h.rs
 have ht:=zpk h
 refine ⟨rfl,rfl,?_,?_,?_,?_,?_⟩
 ·have:=Iz (f:=vH s.st.gs) (m:=2) (λi=>abx 2) (abr s.st.gs-1)
  show abr (dV (abr s.st.gs-1) (vH s.st.gs))<=512
  omega
 ·show abr (s.st.cl.map aK)<=64
  rw [abz];omega
 ·show abr (s.st.cu.map aK)<=64
  rw [abz];omega
 ·have:=Iz (f:=λi=>lq (qq s.st.ts i) (s.st.ts.getD i Tk.zero)) (m:=8) (λi=>abx 8) (abr s.st.ts)
  show abr (dV (abr s.st.ts) λi=>lq (qq s.st.ts i) (s.st.ts.getD i Tk.zero))+1<=524281
  omega
 ·have:=q7k (f:=λg=>lu g (s.st.rs.getD g Rw.zero).l) (m:=192) (abr s.st.rs) (λg a=>by
   have o:=zlk g (s.st.rs.getD g Rw.zero).l
   have p:=(Dn a (h.row g a)).1
   omega)
  show abr (dV (abr s.st.rs) λg=>lu g (s.st.rs.getD g Rw.zero).l)<=49152
  omega
theorem Dz (s:dG):eY s=aJ s 0++aJ s 1++aJ s 2++aJ s 3++aJ s 4++aJ s 5++aJ s 6:=by simp_all [eY,qy,Dq]
theorem Sz {α:Type} {f:Nat->List α} (h:i<=k):abr (dV i f)<=abr (dV k f):=by induction k<;>grind [qy]
theorem SA (h:ShAt s.st):abr (eY s)<=600000:=by grind [Dz,qy5]
def qop (h:ShAt s.st) {i:Nat} (hi:i<=7):abr (dV i (aJ s))<=600000:=adg (Sz hi) (SA h)
def zek (h:ShAt s.st) {i:Nat} (hi:i<7):abr (aJ s i)<=600000:=by
 have:=qop h (show i+1<=7 by omega)
 rw [qy,abu] at this
 omega
theorem zpl {p:Int} (ht:t.Ok):∀x∈lq p t,x<18446744073709551616:=by
 intro x a
 have b:=ht.mask
 have c:=ht.v
 have d:=ht.r
 simp only [lq,abX,acA,or_false] at a
 grind [Dr]
theorem zpm {g:Nat} (hz:z.Ok):∀x∈nS g z,x<18446744073709551616:=by
 intro x a
 have b:=hz.v
 have c:=hz.r
 have d:=hz.floor
 grind [nS]
theorem q7o (b:s.st.ay.Ok) (e:cZ s.st):∀i,∀x∈aJ s i,x<18446744073709551616:=by
 have h:=e.g
 have j:=e.t
 have d:=b.aj
 intro i
 match i with
 |0=>intro x a;simp only [aJ,abX,acA,or_false] at a;subst a;exact Dr _
 |1=>
  intro x a
  simp only [aJ,abX,acA,or_false] at a
  rcases a with rfl|rfl|rfl
  ·exact Dr _
  ·exact d
  ·omega
 |2=>
  refine Fq _ λi _ x a=>?_
  grind [vH,Dr]
 |3=>intro x a;obtain ⟨y,_,rfl⟩:=ab7.1 a;exact Dr _
 |4=>intro x a;obtain ⟨y,_,rfl⟩:=ab7.1 a;exact Dr _
 |5=>
  intro x a
  rcases abX.1 a with rfl|a
  ·omega
  ·exact Fq (p:=λx=>x<18446744073709551616) _ (λi hi=>zpl (b.ts _ (qf Tk.zero hi))) x a
 |6=>
  refine Fq _ λg f=>Fq _ λc hc=>zpm ?_
  refine b.sp _ (qf [] (show g<abr s.st.ay.sp from by rw [lX];exact f)) _ ?_
  rw [kH f]
  exact qf Sp.zero hc
 |k+7=>intro x a;cases a
def qy6 (a:s.st.ay.Ok) (b:cZ s.st):∀x∈eY s,x<18446744073709551616:=Fq 7 λi _=>q7o a b i
def q7p {l:List Nat}:∀b∈l.flatMap ak,b<256:=by
 intro b a
 obtain ⟨x,_,c⟩:=acT.1 a
 exact zD x b c
theorem NT (s:dG):∀b∈bS s,b<256:=by
 intro b a
 rcases acg.1 a with a|a
 ·grind
 ·exact q7p b a
theorem IX (s:dG):abr (bS s)=3+abr ((eY s).flatMap ak):=by unfold bS;rw [abu];rfl
def qy7 (h:s.next<1\/281474976710657<s.next):dP s=330:=if_pos h
def q7q (h:¬(s.next<1\/281474976710657<s.next)) (hr:lM s.st.ay=false):dP s=331:=by unfold dP;rw [if_neg h,if_pos hr]
def qtk (h:¬(s.next<1\/281474976710657<s.next)) (hr:lM s.st.ay=true):dP s=0:=by unfold dP;rw [if_neg h,if_neg (by rw [hr];decide)]
theorem Bz (h:dP s=0):(1<=s.next/\s.next<=281474976710657)/\lM s.st.ay=true:=by grind [dP,lM]
theorem Fu (h:dP s=0):ShAt s.st:=by
 have:=(Bz h).2
 unfold lM at this
 rw [abH] at this
 exact wM this.1
def kJ (s:dG):List Nat:=if dP s=0 then eY s else []
def Fv (h:dP s=0):kJ s=eY s:=if_pos h
def zel (h:dP s≠0):kJ s=[]:=if_neg h
theorem yR (h:dP s=0):dD s=aY (bS s):=if_pos h
theorem q7r (h:dP s≠0):dD s=[]:=if_neg h
theorem SB (h:ShAt s.st):abr (aY (bS s))<=6000007:=by grind [IX,vg,eY,SA,qI]
def SC (w:ajg) (er:Nat) (R:List Nat) (r:ajk) (a:ajg):Prop:=
 (∃A c,r= .returned (.tuple #[.slice A (abr R) c,.int .i64 (er:Int)])/\a.ownsRow w.heap.size 41 1 (.slice A (abr R) c) (abr R) (R.map bG)/\abr R<=c)/\Below w.heap.size w a
def q2h {q:List Nat} (a:uI=er) (h:q=R) (b:W.ownsRow w.heap.size 41 1 (.slice A (abr q) c) (abr q) (q.map bG)) (hc:abr q<=c) (hb:Below w.heap.size w W):SC w er R (.returned (.tuple #[.slice A (abr q) c,.int .i64 (uI:Int)])) W:=by
 subst h;subst a
 exact ⟨⟨A,c,rfl,b,hc⟩,hb⟩
def q2i (e:Int) (a:e=er) (h:R=[]) (hb:Below w.heap.size w W):SC w er R (.returned (.tuple #[.slice none 0 0,.int .i64 e])) W:=by
 subst h;subst a
 exact ⟨⟨none,0,rfl,acK _ _ _ _,abx _⟩,hb⟩
def q2j (e:Int) (a:e=er) (h:R=[]) (hb:Below w.heap.size w W):mI w er R (.returned (.tuple #[.slice none 0 0,.int .i64 e])) W:=by
 subst h;subst a
 exact ⟨⟨none,0,rfl,acK _ _ _ _,abx _⟩,hb⟩
theorem zem (s:dG):0<abr ((eY s).flatMap ak):=by grind [Dz,aJ,aK,HV]
def q2k (h:dP s=0):([113,115,1]:List Nat).map B8++((kJ s).flatMap ak).map B8=(bS s).map B8:=by
 rw [Fv h];exact List.map_append.symm
def zpn (h:dP s=0):3+abr ((kJ s).flatMap ak)=abr (bS s):=by rw [IX,Fv h]
def zen (h:ShAt s.st):abr (bS s)<=6000003:=by
 have a:=SB h
 rw [qI] at a
 omega
def q2l {q:List Nat} (a:uI=er) (h:q=R) (b:W.ownsRow w.heap.size 5 1 (.slice A (abr q) c) (abr q) (q.map B8)) (hc:abr q<=c) (hb:Below w.heap.size w W):mI w er R (.returned (.tuple #[.slice A (abr q) c,.int .i64 (uI:Int)])) W:=by
 subst h;subst a
 exact ⟨⟨A,c,rfl,b,hc⟩,hb⟩
def q7s (l:List j4):∀u∈l.flatMap iA,u.oneCell'=true:=by
 intro u b
 obtain ⟨x,_,a⟩:=acT.1 b
 simp only [iA,abX,acA,or_false] at a
 rcases a with rfl|rfl|rfl<;>rfl
def qh:j4:=⟨⟨#[104,101,97,100]⟩,0,3⟩
def uT {α:Type} {f:Nat->List α} {m:Nat} (h:∀i,abr (f i)=m):∀k,abr (dV k f)=m*k
 |0=>rfl
 |k+1=>by rw [qy,abu,Nat.mul_succ,uT h k,h k]
structure Hb where
 b:Bk
 A:ajq
 c:Nat
def Hb.zero:Hb:=⟨Bk.zero,none,0⟩
def hbL (h:Hb):List ajh:=(h.b.cells h.A h.c).toList
def Hw (h:Hb):abr (hbL h)=5:=rfl
def Hb.own (h:Hb):Own:=⟨h.A,abr h.b.evs,h.c,h.b.evs.flatMap fD⟩
def gH (t:ajj) (q:List Hb):List ajr:=jC t 11 (q.map Hb.own)
def pF (w:ajg) (q:List Hb):Prop:=∀h∈q,Rd w w.heap.size 11 h.A (abr h.b.evs) (h.b.evs.flatMap fD)
section
variable {W w w':ajg} {fs gs a b:List ajr} {t bt:ajj} {q:List Hb}
def zdq (h:Hb):gH t (q++[h])=gH t q++[.row (.slice h.A (abr h.b.evs) h.c) (abr h.b.evs) (h.b.evs.flatMap fD) t 11]:=by
 unfold gH jC
 rw [abW,abW]
 rfl
def zko {h:Hb} (d:h∈q):agz (.slice h.A (abr h.b.evs) h.c) (abr h.b.evs) (h.b.evs.flatMap fD) t 11∈gH t q:=ac1 (ac1 d)
theorem Mem.Ro (h:Mem W w fs) (hs:∀f∈gH t q,f∈fs):pF w q:=λ_ c=>h.kE (hs _ (zko c))
theorem pF.old (h:pF W q) (c:Mem W w fs):pF w q:=λx d=>c.old (h x d)
theorem pF.at (h:pF w q) (hk:k<abr q):Rd w w.heap.size 11 (q.getD k Hb.zero).A (q.getD k Hb.zero).b.evs.length ((q.getD k Hb.zero).b.evs.flatMap fD):=by
 refine h _ ?_
 rw [abw,abv hk]
 exact ada hk
def aaP {x:Bk} (h:Mem W w (.row (.slice A (abr x.evs) c) (abr x.evs) (x.evs.flatMap fD) t 11::(a++(gH t q++b)))):Mem W w (a++(gH t (q++[⟨x,A,c⟩])++b)):=by
 refine h.perm ?_
 rw [zdq]
 have d:(agz (.slice A (abr x.evs) c) (abr x.evs) (x.evs.flatMap fD) t 11::(a++(gH t q++b))).Perm (a++agz (.slice A (abr x.evs) c) (abr x.evs) (x.evs.flatMap fD) t 11::(gH t q++b)):=(ade).symm
 refine d.trans (List.Perm.append_left a ?_)
 rw [aby]
 exact (ade (l₁:=gH t q) (l₂:=b)).symm
def aaL {f:ajr} (h:Mem W w (a++b)) (k:Mem w w' (f::gH t q)):Mem W w' (f::(a++(gH t q++b))):=by
 refine (h.join k).perm (List.Perm.cons f ?_)
 show (gH t q++(a++b)).Perm _
 rw [<-aby,<-aby]
 exact List.Perm.append_right b acG
end
def Hz {q c:List Hb} (h:q.map Hb.b=c.map Hb.b) (hk:k<abr q):(q.getD k Hb.zero).b=(c.getD k Hb.zero).b:=by
 have e:abr q=abr c:=by have h:=congrArg acY h;rwa [abz,abz] at h
 have d:=congrArg (·[k]?) h
 simp only [acQ] at d
 rw [abv hk,abv om] at d
 rw [abw,abw,abv hk,abv om]
 injection d
def Df (t bt:ajj) (w:ajg) (er:Nat) (bs:List Bk):ajk->ajg->Prop:=λr w'=>∃A c q,r= .returned (.tuple #[.slice A (abr bs) c,.int .i64 (er:Int)])/\q.map Hb.b=bs/\abr bs<=c/\Mem w w' (.row (.slice A (abr bs) c) (abr bs) (q.flatMap hbL) bt 5::gH t q)
section
variable {W w:ajg} {fs a:List ajr} {t bt:ajj} {q:List Hb}
def zdr {n:Int} (h:Mem W w fs) (c:n=er):Df t bt W er [] (.returned (.tuple #[.slice none 0 0,.int .i64 n])) w:=by
 subst c
 exact ⟨none,0,[],rfl,rfl,abx _,Mem.nil ⟨h.below,λf d=>absurd d acA,.nil⟩ _ _⟩
def zkp (h:Mem W w (.row (.slice A (abr q) c) (abr q) (q.flatMap hbL) bt 5::gH t q)) (hc:abr q<=c):Df t bt W 0 (q.map Hb.b) (.returned (.tuple #[.slice A (abr q) c,.int .i64 0])) w:=
 ⟨A,c,q,by rw [abz];rfl,rfl,by rwa [abz],by rwa [abz]⟩
end
def IY {α:Type} (d:α) {l m:List α} (b:abr l=abr m) (c:∀i,i<abr l->l.getD i d=m.getD i d):l=m:=by
 apply aeh b
 intro i a e
 have:=c i a
 rwa [abw,abw,abv a,abv e] at this
def IZ {α:Type} {f g:Nat->α}:∀i,i<0->f i=g i:=λi h=>by omega
def I4 {α:Type} {f g:Nat->α} (h:∀i,i<k->f i=g i) (hk:f k=g k):∀i,i<k+1->f i=g i:=λi hi=>by
 rcases ab0 i k with a|a
 ·exact h i a
 ·obtain rfl:i=k:=by omega
  exact hk
def zeo (x y:Tk):nY abt 4 232 (.agg x.cells) (.agg y.cells)=some (decide (x=y)):=by
 have h:nY abt 4 232 (.agg x.cells) (.agg y.cells)=some ((x.id==y.id)&& ((x.group==y.group)&& ((x.weight==y.weight)&& ((x.cpu==y.cpu)&& (((x.mask:Int)==(y.mask:Int))&& ((x.ready==y.ready)&& (((x.v:Int)==(y.v:Int))&& (((x.r:Int)==(y.r:Int))&&true)))))))):=by kernel_rfl
 refine h.trans (congrArg some ?_)
 obtain ⟨a,b,c,d,e,f,g,i⟩:=x
 obtain ⟨j,k,l,m,n,o,p,q⟩:=y
 rw [ab3]
 simp only [abH,beq_iff_eq,decide_eq_true_eq,Tk.mk.injEq,and_true,ahA]
def zep (x y:Sp):nY abt 4 200 (.agg x.cells) (.agg y.cells)=some (decide (x=y)):=by
 have h:nY abt 4 200 (.agg x.cells) (.agg y.cells)=some (((x.v:Int)==(y.v:Int))&& (((x.r:Int)==(y.r:Int))&& (((x.floor:Int)==(y.floor:Int))&&true))):=by kernel_rfl
 refine h.trans (congrArg some ?_)
 obtain ⟨a,b,c⟩:=x
 obtain ⟨d,e,f⟩:=y
 rw [ab3]
 simp only [abH,beq_iff_eq,decide_eq_true_eq,Sp.mk.injEq,and_true,ahA]
def jF (x:aF):List (List Sp):=x.rs.map ael
def BA (h:g<abr x.rs):(jF x).getD g []=(x.rs.getD g Rw.zero).l:=kH h
def wT (x:aF):abr (jF x)=abr x.rs:=abz ..
def wU (a b:aF):Prop:=a.au=b.au/\a.aj=b.aj/\a.gs=b.gs
instance I5 (a b:aF):Decidable (wU a b):=by unfold wU;infer_instance
def jl (a b:aF):Prop:=wU a b/\a.cl=b.cl/\a.cu=b.cu/\a.ts=b.ts/\jF a=jF b
instance I6 (a b:aF):Decidable (jl a b):=by unfold jl;infer_instance
def dI (a b:dG):Prop:=a.next=b.next/\a.st.au=b.st.au/\a.st.aj=b.st.aj/\a.st.gs=b.st.gs/\a.st.cl=b.st.cl/\a.st.cu=b.st.cu/\a.st.ts=b.st.ts/\jF a.st=jF b.st
instance NU (a b:dG):Decidable (dI a b):=by unfold dI;infer_instance
def Fw {l:List Rw} (h:i<abr l):(l.map ael).getD i []=(l.getD i Rw.zero).l:=by
 rw [abw,abw,acQ,abv h]
 rfl
def q7t {l m:List Rw} (a:abr l=abr m) (b:∀i,i<abr l->(l.getD i Rw.zero).l=(m.getD i Rw.zero).l):l.map ael=m.map ael:=
 IY [] (by simpa using a) λi hi=>by
  rw [abz] at hi
  rw [Fw hi,Fw om]
  exact b i hi
def q7u {l m:List Rw} (h1:k<abr l) (a:k<abr m) (h:(l.getD k Rw.zero).l≠(m.getD k Rw.zero).l):l.map ael≠m.map ael:=λe=>h (by rw [<-Fw h1,<-Fw a,e])
def q7v {l m:List Rw} (h:abr l≠abr m):l.map ael≠m.map ael:=λe=>h (by have:=congrArg acY e;simpa using this)
section
variable {P:aji} {Q:ajp->Act->ajg->Prop} {a:Act} {W w:ajg} {n d:Nat} {D:List ajo} {σ:List (Nat×ajh)} {o:ajm} {K:Act->ajg->Prop} {fs:List ajr}
end
def lQ (t:ajj) (q:List Rw):List ajr:=jC t 3 (q.map Rw.own)
section
variable {W w w':ajg} {fs gs a T:List ajr} {t:ajj} {q:List Rw}
def q7w {x:Rw} (b:x∈q):agz (.slice x.A (abr x.l) x.c) (abr x.l) (x.l.flatMap ji) t 3∈lQ t q:=ac1 (ac1 b)
def aaF {l:List Sp} (h:Mem W w (.row (.slice A (abr l) c) (abr l) (l.flatMap ji) t 3::(fs++lQ t q))):Mem W w (fs++lQ t (q++[⟨A,c,l⟩])):=by
 have b:=Mem.zq2 h
 unfold lQ
 rw [abW]
 exact b
theorem Mem.qX (h:Mem W w fs) (k:Mem w w' gs):Mem W w' (fs++gs):=(h.join k).perm acG
end
def jV (x:aF):List ajr:=[.row (.slice x.gA (abr x.gs) x.gc) (abr x.gs) (x.gs.flatMap fU) 198 2,.row (.slice x.lA (abr x.cl) x.lc) (abr x.cl) (x.cl.map aZ) 3 1,.row (.slice x.uA (abr x.cu) x.uc) (abr x.cu) (x.cu.map aZ) 3 1,.row (.slice x.tA (abr x.ts) x.tc) (abr x.ts) (x.ts.flatMap bZ) 232 8,.row (.slice x.sA (abr x.rs) x.sc) (abr x.rs) (x.rs.map aac) 176 1]++lQ 200 x.rs
section
variable {W w w':ajg} {fs T:List ajr} {x:aF}
theorem Mem.DF (h:Mem W w fs) (hs:∀f∈jV x,f∈fs):fC w x:=
 ⟨h.kE (hs _ (abK (i:=0) (l:=jV x) rfl)),h.kE (hs _ (abK (i:=1) (l:=jV x) rfl)),h.kE (hs _ (abK (i:=2) (l:=jV x) rfl)),h.kE (hs _ (abK (i:=3) (l:=jV x) rfl)),h.kE (hs _ (abK (i:=4) (l:=jV x) rfl)),λy b=>h.kE (hs _ (adi _ (q7w b)))⟩
theorem Mem.stL (n:Nat) (h:Mem W w fs) (b:fs.drop n=jV x++T):fC w x:=h.DF λf c=>abQ (b▸List.mem_append_left _ c)
theorem Mem.stX (n:Nat) (h:Mem W w fs) (b:fs.drop n=jV x):fC w x:=h.DF λf c=>abQ (b▸c)
end
def zij (w:ajg) (x:aF) (r:ajk) (w':ajg):Prop:=∃y:aF,r= .returned (.agg y.cells)/\jl x y/\gD y/\Mem w w' (jV y)
def I7 (l:List Gr):∀u∈l.flatMap fU,u.oneCell'=true:=by
 intro u c
 obtain ⟨x,_,b⟩:=acT.1 c
 simp only [fU,abX,acA,or_false] at b
 rcases b with rfl|rfl<;>rfl
def SE (l:List Sp):∀u∈l.flatMap ji,u.oneCell'=true:=by
 intro u c
 obtain ⟨x,_,b⟩:=acT.1 c
 simp only [ji,abX,acA,or_false] at b
 rcases b with rfl|rfl|rfl<;>rfl
def I8 (l:List Tk):∀u∈l.flatMap bZ,u.oneCell'=true:=by
 intro u c
 obtain ⟨x,_,b⟩:=acT.1 c
 simp only [bZ,abX,acA,or_false] at b
 rcases b with rfl|rfl|rfl|rfl|rfl|rfl|rfl|rfl<;>rfl
def SF (l:List Int):∀u∈l.map aZ,u.oneCell'=true:=by
 intro u b
 obtain ⟨x,_,rfl⟩:=ab7.1 b
 rfl
def zik (l:List Rw):∀u∈l.map aac,u.oneCell'=true:=by
 intro u b
 obtain ⟨x,_,rfl⟩:=ab7.1 b
 rfl
def zeq {l:List Rw} (h:k<abr l):(l.take (k+1)).map ael=(l.take k).map ael++[(l.getD k Rw.zero).l]:=by rw [yM Rw.zero h,abW];rfl
theorem NV {a b:aF} (h:jl a b):b.ay=a.ay:=by
 obtain ⟨⟨c,e,f⟩,g,i,j,k⟩:=h
 unfold aF.ay
 rw [c,e,f,g,i,j,show a.rs.map ael=b.rs.map ael from k]
theorem DI {b:dG} (h:dI a b):jl a.st b.st:=⟨⟨h.2.1,h.2.2.1,h.2.2.2.1⟩,h.2.2.2.2.1,h.2.2.2.2.2.1,h.2.2.2.2.2.2.1,h.2.2.2.2.2.2.2⟩
def qY {b:dG} (c:a.next=b.next) (h:jl a.st b.st):dI a b:=⟨c,h.1.1,h.1.2.1,h.1.2.2,h.2.1,h.2.2.1,h.2.2.2.1,h.2.2.2.2⟩
def qor {a b:aF} (h:jF a=jF b):abr a.rs=abr b.rs:=by rw [<-wT a,h,wT]
def NW {α:Type} {f g:Nat->List α}:∀k,(∀i,i<k->f i=g i)->dV k f=dV k g
 |0,_=>rfl
 |k+1,h=>by rw [qy,qy,NW k (λi hi=>h i om),h k om]
def zpo {b:dG} (h:dI a b):∀i,aJ b i=aJ a i:=by
 obtain ⟨f,j,m,c,p,r,s,e⟩:=h
 intro i
 match i with
 |0=>show [aK b.next]=[aK a.next];rw [f]
 |1=>show [aK b.st.au,b.st.aj,abr b.st.gs]=[aK a.st.au,a.st.aj,abr a.st.gs];rw [j,m,c]
 |2=>show dV (abr b.st.gs-1) (vH b.st.gs)=dV (abr a.st.gs-1) (vH a.st.gs);rw [c]
 |3=>show b.st.cl.map aK=a.st.cl.map aK;rw [p]
 |4=>show b.st.cu.map aK=a.st.cu.map aK;rw [r]
 |5=>show (abr b.st.ts::dV (abr b.st.ts) λi=>lq (qq b.st.ts i) (b.st.ts.getD i Tk.zero))=abr a.st.ts::dV (abr a.st.ts) λi=>lq (qq a.st.ts i) (a.st.ts.getD i Tk.zero);rw [s]
 |6=>
  have u:=qor e
  show (dV (abr b.st.rs) λg=>lu g (b.st.rs.getD g Rw.zero).l)=dV (abr a.st.rs) λg=>lu g (a.st.rs.getD g Rw.zero).l
  rw [u]
  exact NW _ λg v=>by rw [<-BA v,<-e,BA om]
 |k+7=>rfl
theorem I9 {b:dG} (h:dI a b):dP b=dP a:=by unfold dP;rw [NV (DI h),h.1]
theorem zll {b:dG} (h:dI a b):eY b=eY a:=NW 7 λi _=>zpo h i
theorem zlm {b:dG} (h:dI a b):bS b=bS a:=by unfold bS;rw [zll h]
def SG {b:dG} (h:dI a b):dD b=dD a:=by unfold dD;rw [I9 h,zlm h]
def q2m (a:aF):jl a a:=⟨⟨rfl,rfl,rfl⟩,rfl,rfl,rfl,rfl⟩
def q2n {a b:aF} (h:jl a b):jl b a:=⟨⟨h.1.1.symm,h.1.2.1.symm,h.1.2.2.symm⟩,h.2.1.symm,h.2.2.1.symm,h.2.2.2.1.symm,h.2.2.2.2.symm⟩
def qwm {a b c:aF} (h:jl a b) (k:jl b c):jl a c:=⟨⟨h.1.1.trans k.1.1,h.1.2.1.trans k.1.2.1,h.1.2.2.trans k.1.2.2⟩,h.2.1.trans k.2.1,h.2.2.1.trans k.2.2.1,h.2.2.2.1.trans k.2.2.2.1,h.2.2.2.2.trans k.2.2.2.2⟩
def qto {b:dG} (h:dI a b):dI b a:=qY h.1.symm (q2n (DI h))
def q2o {b c:dG} (h:dI a b) (k:dI b c):dI a c:=qY (h.1.trans k.1) (qwm (DI h) (DI k))
def zil {a b:aF} (h:jl a b) (c:cZ a):cZ b:=by
 obtain ⟨⟨A,B,i⟩,j,k,m,f⟩:=h
 refine ⟨i▸c.g,j▸c.l,k▸c.u,m▸c.t,by rw [<-qor f];exact c.s,λy p=>?_⟩
 have v:y.l∈jF a:=by rw [f];exact ac1 p
 obtain ⟨z,hz,e⟩:=ab7.1 v
 rw [<-e]
 exact c.r z hz
def Jd (x:aF):Prop:=abr x.ts<=60/\abr x.gs<=12/\abr x.rs<=12/\abr x.cl<=8/\abr x.cu<=8/\∀k,k<abr x.rs->(x.rs.getD k Rw.zero).l.length<=8
instance SH (x:aF):Decidable (Jd x):=by unfold Jd;infer_instance
def j4.zero:j4:=⟨⟨#[]⟩,0,0⟩
def PU (a b c d e:Nat):dG:=⟨1,⟨1,0,some ⟨a,0,none⟩,1,[⟨0,1⟩],some ⟨b,0,none⟩,1,[0],some ⟨c,0,none⟩,1,[0],none,0,[],some ⟨e,0,none⟩,1,[⟨some ⟨d,0,none⟩,1,[⟨0,0,0⟩]⟩]⟩⟩
section
variable {w:ajg} {a b c d e f:Nat}
theorem y5 {α:Type} {p:α->Prop} {x:α} (h:p x):∀y∈[x],p y:=λy g=>by rw [List.mem_singleton] at g;subst g;exact h
theorem znv {α:Type} {p:α->Prop}:∀y∈([]:List α),p y:=λy g=>by cases g
theorem znw:Gr.Ok ⟨0,1⟩:=⟨by unfold aX;decide,by unfold aX;decide⟩
def zqs:(PU a b c d e).st.ay.Ok:=⟨show aX 1 by unfold aX;decide,show 0<18446744073709551616 by decide,y5 znw,y5 (by unfold aX;decide),y5 (by unfold aX;decide),znv,y5 (y5 ⟨by decide,by decide,by decide⟩)⟩
def znx:cZ (PU a b c d e).st:=⟨by show 1<=1000000;decide,by show 1<=1000000;decide,by show 1<=1000000;decide,by show 0<=1000000;decide,by show 1<=1000000;decide,y5 (by show 1<=1000000;decide)⟩
def zny:gD (PU a b c d e).st:=⟨abx 1,abx 1,abx 1,abx 0,abx 1,y5 (abx 1)⟩
end
def fG (A:ajq) (n c:Nat) (l:List Gr):ajr:= .row (.slice A n c) n (l.flatMap fU) 198 2
def fI (A:ajq) (n c:Nat) (l:List Int):ajr:= .row (.slice A n c) n (l.map aZ) 3 1
def fT (A:ajq) (n c:Nat) (l:List Tk):ajr:= .row (.slice A n c) n (l.flatMap bZ) 232 8
def fS (A:ajq) (n c:Nat) (l:List Rw):ajr:= .row (.slice A n c) n (l.map aac) 176 1
def fR (q:List Rw):List ajr:=lQ 200 q
def fM (gm:Nat) (cp:Int) (cr:Nat) (gA:ajq) (ng gc:Nat) (lA:ajq) (nl lc:Nat) (uA:ajq) (nu uc:Nat) (tA:ajq) (nt tc:Nat) (sA:ajq) (ns sc:Nat):ajr:=
 .blk gm #[.int .i64 cp,.int .u64 (cr:Int),.slice gA ng gc,.slice lA nl lc,.slice uA nu uc,.slice tA nt tc,.slice sA ns sc,.bool true] 273
def jS (gm:Nat) (x:aF) (ng nl nu nt ns:Nat):List ajr:=fM gm x.au x.aj x.gA ng x.gc x.lA nl x.lc x.uA nu x.uc x.tA nt x.tc x.sA ns x.sc::fG x.gA ng x.gc x.gs::fI x.lA nl x.lc x.cl::fI x.uA nu x.uc x.cu::fT x.tA nt x.tc x.ts::fS x.sA ns x.sc x.rs::fR x.rs
structure tJ (x:aF) (ng nl nu nt ns:Nat):Prop where
 g:abr x.gs=ng
 l:abr x.cl=nl
 u:abr x.cu=nu
 t:abr x.ts=nt
 s:abr x.rs=ns
structure dY (x:aF) (ng nl nu nt ns:Nat):Prop where
 ok:x.ay.Ok
 few:cZ x
 sh:ShAt x
 ln:tJ x ng nl nu nt ns
section
variable {W w w':ajg} {F A T fs:List ajr} {x:aF} {ng nl nu nt ns gm g c n:Nat}
def zim:jS gm x (abr x.gs) (abr x.cl) (abr x.cu) (abr x.ts) (abr x.rs)=fM gm x.au x.aj x.gA (abr x.gs) x.gc x.lA (abr x.cl) x.lc x.uA (abr x.cu) x.uc x.tA (abr x.ts) x.tc x.sA (abr x.rs) x.sc::jV x:=rfl
theorem Mem.uU (n:Nat) (h:Mem W w F) (b:F.drop n=jS gm x ng nl nu nt ns++T) (e:tJ x ng nl nu nt ns):fC w x:=by
 obtain ⟨rfl,rfl,rfl,rfl,rfl⟩:=e
 exact h.stL (T:=T) (n+1) (by rw [<-acH,b,zim];rfl)
theorem Mem.oQ (n:Nat) (h:Mem W w F) (b:F.drop n=jS gm x ng nl nu nt ns++T) (e:tJ x ng nl nu nt ns):w.heap[gm]?=some (.cells #[.int .i64 x.au,.int .u64 (x.aj:Int),.slice x.gA (abr x.gs) x.gc,.slice x.lA (abr x.cl) x.lc,.slice x.uA (abr x.cu) x.uc,.slice x.tA (abr x.ts) x.tc,.slice x.sA (abr x.rs) x.sc,.bool true] 273 (0,0)):=by
 obtain ⟨rfl,rfl,rfl,rfl,rfl⟩:=e
 have i:fM gm x.au x.aj x.gA (abr x.gs) x.gc x.lA (abr x.cl) x.lc x.uA (abr x.cu) x.uc x.tA (abr x.ts) x.tc x.sA (abr x.rs) x.sc∈F:=abQ (by rw [b,zim];exact aci ..)
 exact (h.holds _ i).2
theorem Mem.front (n:Nat) (h:Mem W w F) (b:F.drop n=A++T):Mem W w (A++(F.take n++T)):=by
 have e:Mem W w (F.take n++(A++T)):=by rw [<-b,ab1];exact h
 exact e.perm (afU ..)
theorem Mem.back (h:Mem W w (A++(F++T))):Mem W w (F++(A++T)):=h.perm (afU ..)
end
def aT (rs:List Rw) (g c:Nat) (z:Sp):List Rw:=rs.set g {rs.getD g Rw.zero with l:=(rs.getD g Rw.zero).l.set c z}
def zu (rs:List Rw) (g c:Nat) (z:Sp):abr (aT rs g c z)=abr rs:=abL ..
theorem zf {α:Type} {l:List α} (d x:α) (h:k<abr l):(l.set k x).getD k d=x:=by
 rw [abw,adk h];rfl
theorem getD_set_ne {α:Type} {l:List α} {j:Nat} (d x:α) (h:k≠j):(l.set k x).getD j d=l.getD j d:=by grind
theorem qmh {α:Type} {l:List α} (d:α) (h:k<abr l):l.set k (l.getD k d)=l:=by simp_all
theorem q70 {g c:Nat} {z:Sp} (b:g<abr rs):(aT rs g c z).map aac=rs.map aac:=by grind [aac,Rw.zero,aT,qmh,abv,abz,abL,afo]
theorem zln {g c:Nat} {z:Sp} (b:g<abr rs):(aT rs g c z).map ael=(rs.map ael).set g (((rs.map ael).getD g []).set c z):=by simp_all [Rw.zero,Fw,aT]
theorem Fy {g c:Nat} {z:Sp} (b:g<abr rs):(aT rs g c z).getD g Rw.zero={rs.getD g Rw.zero with l:=(rs.getD g Rw.zero).l.set c z}:=zf _ _ b
theorem Jm {rs:List Rw} {g h c:Nat} {z:Sp} (b:g≠h):(aT rs g c z).getD h Rw.zero=rs.getD h Rw.zero:=getD_set_ne _ _ b
theorem SN {g c:Nat} {z y:Sp} (b:g<abr rs):aT (aT rs g c z) g c y=aT rs g c y:=by simp_all [zf,aT]
section
variable {W w w':ajg} {F A T fs:List ajr} {rs:List Rw} {n g c:Nat}
def aaK (n:Nat) (e:F.drop n=fR rs++T) (b:g<abr rs):F[n+g]?=some (.row (.slice (rs.getD g Rw.zero).A (rs.getD g Rw.zero).l.length (rs.getD g Rw.zero).c) (rs.getD g Rw.zero).l.length ((rs.getD g Rw.zero).l.flatMap ji) 200 3):=by
 have h:F[n+g]?=(F.drop n)[g]?:=by rw [List.getElem?_drop]
 have i:abr (fR rs)=abr rs:=by unfold fR lQ jC;rw [abz,abz]
 rw [h,e,adU om]
 unfold fR lQ jC
 rw [acQ,acQ,abv b,abw,abv b]
 rfl
theorem Mem.jW (n:Nat) (h:Mem W w F) (e:F.drop n=fR rs++T) (i:g<abr rs) (hy:rs.getD g Rw.zero=⟨E,m,yl⟩) (j:0<abr yl):∃k,E=some ⟨k,0,none⟩:=by
 have b:=aaK n e i
 rw [hy] at b
 exact zo (h.own b) j
theorem Mem.vJ {m k c j:Nat} {v:ajh} (n:Nat) (h:Mem W w F) (e:F.drop n=fR rs++T) (i:g<abr rs) (hy:rs.getD g Rw.zero=⟨some ⟨k,0,none⟩,m,yl⟩) (hz:yl[c]?=some z) (l:(ji z)[j]?=some v):w.cell? ⟨k,c*3+j,none⟩=some v:=by
 have b:=aaK n e i
 rw [hy] at b
 exact h.qv zP b hz l
theorem Mem.rdT {A:ajq} {size:Nat} {xs:List ajh} {e:ajj} (n:Nat) (h:Mem W w F) (b:F.drop n=fR rs++T) (j: .row (.slice A m k) m xs e size∈T):Rd w w.heap.size size A m xs:=
 h.kE (abQ (i:=n) (by rw [b];exact adi _ j))
def zpp {r:Rw}:(fR rs).set g (.row (.slice r.A (abr r.l) r.c) (abr r.l) (r.l.flatMap ji) 200 3)=fR (rs.set g r):=by
 unfold fR lQ jC
 rw [afo,afo]
 rfl
variable {P:aji} {Q:ajp->Act->ajg->Prop} {a:Act} {N d:Nat} {D:List ajo} {σ:List (Nat×ajh)} {o:ajm} {v:ajh} {K:Act->ajg->Prop}
theorem DJ (Z:Fr a N D σ) (h:Mem W w F) (n:Nat) {sA:ajq} {ns sc m e off:Nat} {yl:List Sp} {t:ajj} {x y:ajl} (j:Nat) {z:Sp} (b:Sp) (i:o.op= .store t x y) (u:o.dst=none) (B:look σ x=some (.pointer (some ⟨e,off,none⟩))) (C:look σ y=some v) (hs:(P.info? t).map (·.size)=some 1) (h1:v.oneCell'=true)
  (p:F.drop n=fS sA ns sc rs::(fR rs++T)) (q:g<abr rs) (hy:rs.getD g Rw.zero=⟨some ⟨e,0,none⟩,m,yl⟩) (hz:yl[c]?=some z) (E:off=c*3+j) (G:j<3) (l:ji b=(ji z).set j v)
  (k:∀w',Mem W w' (F.take n++(fS sA ns sc (aT rs g c b)::(fR (aT rs g c b)++T)))->K a w'):o.wp P a w K Q:=by
 subst E
 have hi:=aaK (F:=F) (T:=T) (g:=g) (n+1) (by rw [<-acH,p];rfl) q
 rw [hy] at hi
 have H:c<abr yl:=(abF.1 hz).1
 refine zj Z h i u B C hs h1 hi (by rw [rZ ji 3 zP];show c*3+j<abr yl*3;omega) λw' h=>k w' ?_
 rw [vV ji 3 zP yl c z b hz j G v l] at h
 have I:F=F.take n++(fS sA ns sc rs::(fR rs++T)):=by rw [<-p,ab1]
 have s:abr (F.take n)=n:=by
  grind
 have J:F.set (n+1+g) (.row (.slice (some ⟨e,0,none⟩) (abr yl) m) (abr yl) ((yl.set c b).flatMap ji) 200 3)=F.take n++(fS sA ns sc rs::((fR rs).set g (.row (.slice (some ⟨e,0,none⟩) (abr yl) m) (abr yl) ((yl.set c b).flatMap ji) 200 3)++T)):=by
  conv=>lhs;rw [I]
  rw [aeY,if_neg (by rw [s];omega),s,show n+1+g-n=g+1 by omega,afK,aeY,if_pos (by unfold fR lQ jC;rw [abz,abz];exact q)]
 have L:aT rs g c b=rs.set g ⟨some ⟨e,0,none⟩,m,yl.set c b⟩:=by unfold aT;rw [hy]
 have M:=zpp (rs:=rs) (g:=g) (r:=⟨some ⟨e,0,none⟩,m,yl.set c b⟩)
 grind [fS,q70]
end
section
variable {P:aji} {W w:ajg} {fs:List ajr} {f:Nat} {fn:Func} {c:Code} {R:ajk->ajg->Prop} {u1 u2 u3 u4:ajh}
def SS (b:Mem W w fs) (e:P.funcs[f]?=some fn) (N:Nat) (h:fn.ntmps=N:=by exact rfl) (hb:fn.body=some c:=by exact rfl) (i:decide (1<=N)=true:=by kernel_rfl) (k:JJ W w N [] [(0,u1)] fs (Code.wp P c (bodyPost P fn R))):Calls P f #[u1] w R:=
 yC (vs:=[u1]) e hb h i rfl λa Z=>k a Z b
def mM (b:Mem W w fs) (e:P.funcs[f]?=some fn) (N:Nat) (h:fn.ntmps=N:=by exact rfl) (hb:fn.body=some c:=by exact rfl) (i:decide (2<=N)=true:=by kernel_rfl) (k:JJ W w N [] [(0,u1),(1,u2)] fs (Code.wp P c (bodyPost P fn R))):Calls P f #[u1,u2] w R:=
 yC (vs:=[u1,u2]) e hb h i rfl λa Z=>k a Z b
def zY (b:Mem W w fs) (e:P.funcs[f]?=some fn) (N:Nat) (h:fn.ntmps=N:=by exact rfl) (hb:fn.body=some c:=by exact rfl) (i:decide (3<=N)=true:=by kernel_rfl) (k:JJ W w N [] [(0,u1),(1,u2),(2,u3)] fs (Code.wp P c (bodyPost P fn R))):Calls P f #[u1,u2,u3] w R:=
 yC (vs:=[u1,u2,u3]) e hb h i rfl λa Z=>k a Z b
end
def En.cells (x:En):Array ajh:= #[.int .u64 (x.v:Int),.int .u32 (x.r:Int),.int .u32 (x.w:Int)]
def mO (x:En):∀v∈x.cells.toList,v.oneCell'=true:=by simp [En.cells,abV]
def En.Ok (x:En):Prop:=cO x.v x.r x.w=true/\x.v<18446744073709551616
def bQ.cells (x:bQ):Array ajh:= #[.int .u8 (x.kind:Int),.int .i64 x.cpu,.int .i64 x.task,.int .i64 x.group,.int .i64 x.weight,.int .i64 x.to,.int .i64 x.ticks,.int .u64 (x.mask:Int)]
def zin (x:bQ):∀v∈x.cells.toList,v.oneCell'=true:=by simp [bQ.cells,abV]
def nC:SI abt 214 8:=⟨by kernel_rfl,by kernel_rfl⟩
theorem tK:EI abt 211 214 (.agg #[.int .u8 0,.int .i64 0,.int .i64 0,.int .i64 0,.int .i64 0,.int .i64 0,.int .i64 0,.int .u64 0]) 8 64:=⟨by kernel_rfl,by kernel_rfl,rfl,by omega⟩
section
variable {W w:ajg} {F T:List ajr} {x:aF} {ng nl nu nt ns gm g c n:Nat}
def dY.sort (h:dY x ng nl nu nt ns):fO x.ts:=q7g h.sh
def Jt (n:Nat) (e:Mem W w F) (h:F.drop n=jS gm x ng nl nu nt ns++T) (b:dY x ng nl nu nt ns) (id:Int):Calls abt 161 #[.pointer (some ⟨gm,0,none⟩),.int .i64 id] w (Is w (.int .i64 (fidx x.ts id))):=
 qti x gm id b.sort w (e.oQ n h b.ln) (e.uU n h b.ln).t b.few.t
def zer (n:Nat) (e:Mem W w F) (h:F.drop n=jS gm x ng nl nu nt ns++T) (b:dY x ng nl nu nt ns) (hc:(c:Int)<x.au) (i:g<ns):Calls abt 162 #[.pointer (some ⟨gm,0,none⟩),.int .i64 (g:Int),.int .i64 (c:Int)] w (Is w (.tuple #[.agg (aO bP (aU x.ay g c)).cells,.bool (!(aU x.ay g c).isEmpty)])):=
 NS x b.ok b.few b.sh gm c hc _ g (abx _) (by rw [b.ln.s];exact i) w (e.uU n h b.ln) (e.oQ n h b.ln)
end
def SV {α:Type} {a b:List α} {n:Nat} (h:abr b=n):abr a+n=abr (a++b):=by rw [abu,h]
section
variable {s:bI} {c g:Nat}
theorem qwo {f:Nat} (b:∀i,0<i->i<=g->fA s.gs i) (h:g<=f):sJ s c f g=sJ s c g g:=by
 have key:∀(g f a:Nat),(∀i,0<i->i<=g->fA s.gs i)->g<=f->g<=a->sJ s c f g=sJ s c a g:=by
  intro g
  induction g using ae8 with
  | _ g l =>
   intro f a b m n
   by_cases d:g=0
   ·subst d
    cases f<;>cases a<;>simp [sJ]
   ·obtain ⟨f,rfl⟩:∃k,f=k+1:=⟨f-1,by omega⟩
    obtain ⟨a,rfl⟩:∃k,a=k+1:=⟨a-1,by omega⟩
    have j:=b g om (abx _)
    unfold fA at j
    simp only [sJ,if_neg d]
    have e:(s.par g).toNat<g:=by show (s.gs.getD g Gr.zero).parent.toNat<g;omega
    grind
 exact key g f g b h (abx _)
def qmj (a:∀i,0<i->i<=g->fA s.gs i) (b:0<g) (hm:aU s g c=[]):lN s g c=g::lN s (s.gs.getD g Gr.zero).parent.toNat c:=by
 obtain ⟨k,rfl⟩:∃k,g=k+1:=⟨g-1,by omega⟩
 have d:=a (k+1) b (abx _)
 unfold fA at d
 show sJ s c (k+1) (k+1)=_
 rw [sJ,if_neg om,if_pos (by rw [hm];rfl)]
 show (k+1)::sJ s c k (s.gs.getD (k+1) Gr.zero).parent.toNat=_
 rw [qwo (λi hi e=>a i hi om) om]
 rfl
def qwp:lN s 0 c=[]:=rfl
theorem qmk (hm:aU s g c≠[]):lN s g c=[]:=by
 cases g with
 |zero=>rfl
 |succ k=>
  show sJ s c (k+1) (k+1)=_
  grind [sJ]
def qos (d:∀i,0<i->i<=g->fA s.gs i):∀h∈lN s g c,0<h/\h<=g/\aU s h c=[]:=by
 induction g using ae8 with
 | _ g e =>
  intro h a
  rcases ach g with b|b
  ·subst b;cases a
  ·by_cases hm:aU s g c=[]
   ·rw [qmj d b hm] at a
    have f:=d g b (abx _)
    unfold fA at f
    rcases abX.1 a with rfl|a
    ·exact ⟨b,abx _,hm⟩
    ·have:=e (s.gs.getD g Gr.zero).parent.toNat om (λi hi j=>d i hi om) h a
     exact ⟨this.1,by omega,this.2.2⟩
   ·rw [qmk hm] at a;cases a
theorem qza:∀(l:List Mb) (b:Mb),aO b l=b\/aO b l∈l
 |[],b=> .inl rfl
 |m::r,b=>by
  show aO (if m.lt b then m else b) r=b\/aO (if m.lt b then m else b) r∈m::r
  rcases qza r (if m.lt b then m else b) with h|h
  ·grind
  ·exact .inr (ab5 _ h)
theorem zes {l:List Mb} (a:l≠[]) (ht:∀m∈l,m.lt bP=true):aO bP l∈l:=by
 cases l with
 |nil=>exact absurd rfl a
 |cons m r=>
  show aO (if m.lt bP then m else bP) r∈m::r
  grind [qza]
theorem NY {m:Mb} (hm:m∈aU s g c):(∃t∈s.ts,t.here g c=true/\m=⟨t.v,0,t.id.toNat⟩)\/(∃h,g<h/\h<abr s.sp/\s.par h=g/\aU s h c≠[]/\m=⟨(s.spot h c).v,1,h⟩):=by grind [lV,NH,wK,acn]
def zZ (a:s.Ok) (g c:Nat):(s.spot g c).Ok:=by
 unfold bI.spot
 rcases ab0 g (abr s.sp) with h|h
 ·rcases ab0 c (abr (s.sp.getD g [])) with b|b
  ·exact a.sp _ (qf [] h) _ (qf Sp.zero b)
  ·rw [abw (l:=s.sp.getD g []),adp b]
   exact ⟨by decide,by decide,by decide⟩
 ·rw [abw (l:=s.sp),adp h]
  have e:(Option.none.getD ([]:List Sp)).getD c Sp.zero=Sp.zero:=rfl
  rw [e]
  exact ⟨by decide,by decide,by decide⟩
theorem zet (a:s.Ok):∀m∈aU s g c,m.lt bP=true:=by
 intro m hm
 unfold Mb.lt
 rw [decide_eq_true_eq]
 show m.v<18446744073709551615\/m.v=18446744073709551615/\(m.k<18446744073709551615\/_)
 rcases NY hm with ⟨t,ht,_,rfl⟩|⟨h,_,_,_,_,rfl⟩
 ·have:=(a.ts t ht).v
  show t.v<_\/t.v=_/\(0<_\/_)
  omega
 ·have:=(zZ a h c).v
  grind
theorem SX (a:s.Ok) (b:aU s g c≠[]):aO bP (aU s g c)∈aU s g c:=zes b (zet a)
theorem NZ (a:s.Ok) (b:aU s g c≠[]):((aO bP (aU s g c)).k=0/\∃t∈s.ts,t.here g c=true/\aO bP (aU s g c)=⟨t.v,0,t.id.toNat⟩)\/((aO bP (aU s g c)).k=1/\∃h,(aO bP (aU s g c)).id=h/\g<h/\h<abr s.sp/\s.par h=g/\aU s h c≠[]/\(aO bP (aU s g c)).v=(s.spot h c).v):=by grind [SX,NY]
theorem qwr (b:s.Ok):∀(n f a g:Nat),g<abr s.sp->abr s.sp-g<=n->n<=f->n<=a->yP s c f g=yP s c a g:=by
 intro n
 induction n with
 |zero=>intro f a g d e;omega
 |succ n h=>
  intro f a g d e i j
  obtain ⟨f,rfl⟩:∃k,f=k+1:=⟨f-1,by omega⟩
  obtain ⟨a,rfl⟩:∃k,a=k+1:=⟨a-1,by omega⟩
  rw [yP,yP]
  by_cases hm:aU s g c=[]
  ·grind
  ·grind [NZ,aU]
def wV (s:bI) (c g:Nat):Nat:=yP s c (abr s.sp-g) g
def q71:qD s c=wV s c 0:=rfl
theorem qml (b:g<abr s.sp) (hm:aU s g c=[]):wV s c g=0:=by
 unfold wV
 obtain ⟨k,a⟩:∃k,abr s.sp-g=k+1:=⟨abr s.sp-g-1,by omega⟩
 rw [a,yP,if_pos (by rw [hm];rfl)]
theorem qmm (a:g<abr s.sp) (hm:aU s g c≠[]) (b:(aO bP (aU s g c)).k=0):wV s c g=(aO bP (aU s g c)).id:=by
 unfold wV
 obtain ⟨k,d⟩:∃k,abr s.sp-g=k+1:=⟨abr s.sp-g-1,by omega⟩
 grind [yP]
theorem qmn (a:s.Ok) (l:g<abr s.sp) (hm:aU s g c≠[]) (b:(aO bP (aU s g c)).k≠0):wV s c g=wV s c (aO bP (aU s g c)).id/\g<(aO bP (aU s g c)).id/\(aO bP (aU s g c)).id<abr s.sp:=by
 rcases NZ a hm with ⟨h,_⟩|⟨h,j,d,f,e,_⟩
 ·exact absurd h b
 ·rw [d]
  refine ⟨?_,f,e⟩
  unfold wV
  obtain ⟨k,i⟩:∃k,abr s.sp-g=k+1:=⟨abr s.sp-g-1,by omega⟩
  rw [i,yP,if_neg (by simpa using hm),if_neg b,d]
  exact qwr a (abr s.sp-j) _ _ j e (abx _) om (abx _)
def iH (l:List Tk) (c:Nat):Int:=(l.map λt=>if t.ready&&decide (t.cpu=(c:Int)) then t.weight else (0:Int)).sum
theorem q2p {l:List Tk} (h:k<abr l):iH (l.take (k+1)) c=iH (l.take k) c+(if (l.getD k Tk.zero).ready&&decide ((l.getD k Tk.zero).cpu=(c:Int)) then (l.getD k Tk.zero).weight else (0:Int)):=by grind [Tk.zero,iH,yM]
theorem qmo {l:List Tk} (a:∀t∈l,1<=t.weight/\t.weight<=65536):0<=iH l c/\iH l c<=65536*abr l:=by
 induction l with
 |nil=>exact ⟨agl _,agl _⟩
 |cons t r b=>
  have e:=b λx d=>a x (ab5 _ d)
  grind [iH]
theorem qot {l:List Tk} (a:∀t∈l,1<=t.weight/\t.weight<=65536) (k:Nat):0<=iH (l.take k) c/\iH (l.take k) c<=65536*abr l:=by
 have b:=qmo (c:=c) (l:=l.take k) λt ht=>a t (aco ht)
 grind
def q2q (h:k<abr l):iw s (l.take (k+1)) c=mq c (iw s (l.take k) c) (l.getD k 0):=by
 unfold iw
 rw [yM 0 h,afS]
 rfl
end
def fJ (gs:List Gr) (cp:Int) (rs:List Rw):Prop:=∀g,g<abr rs->((rs.getD g Rw.zero).l.length:Int)=cp/\∀z∈(rs.getD g Rw.zero).l,z.Ok/\cO z.v z.r (gs.getD g Gr.zero).weight=true
section
variable {x:aF} {ng nl nu nt ns g c:Nat}
def dY.spots (h:dY x ng nl nu nt ns):fJ x.gs x.au x.rs:=λg a=>by
 have d:=Dn a (h.sh.row g a)
 refine ⟨d.1,λz hz=>?_⟩
 obtain ⟨c,hc,rfl⟩:=acn hz
 have e:(x.rs.getD g Rw.zero).l.getD c Sp.zero=(x.rs.getD g Rw.zero).l[c]:=by rw [abw,abv hc];rfl
 refine ⟨h.ok.sp _ (by rw [<-kH a];exact qf [] (by rw [lX];exact a)) _ (ada hc),?_⟩
 have b:=d.2 c hc
 rw [e] at b
 unfold fq at b
 rw [abH] at b
 exact b.1
theorem fJ.put {gs:List Gr} {cp:Int} (h:fJ gs cp rs) (z:Sp) (hz:z.Ok) (d:cO z.v z.r (gs.getD g Gr.zero).weight=true):fJ gs cp (aT rs g c z):=λk a=>by
 rw [zu] at a
 by_cases b:g=k
 ·subst b
  rw [Fy a]
  refine ⟨by show (abr ((rs.getD g Rw.zero).l.set c z):Int)=cp;rw [abL];exact (h g a).1,λy e=>?_⟩
  rcases ab4 e with f|rfl
  ·exact (h g a).2 y f
  ·exact ⟨hz,d⟩
 ·rw [Jm b];exact h k a
def SY {z:Sp} (a:g<abr x.rs):({x with rs:=aT x.rs g c z}:aF).ay=x.ay.yO g c z:=by
 unfold aF.ay bI.yO
 simp only [zln a]
def yS (a:g<abr x.rs) (hy:x.rs.getD g Rw.zero=⟨A,m,yl⟩) (hz:yl[c]?=some z):x.ay.spot g c=z:=by
 rw [Sg a,hy,abw,hz]
 rfl
def N7 {z:Sp} (a:g<abr rs) (hy:rs.getD g Rw.zero=⟨A,m,yl⟩):(aT rs g c z).getD g Rw.zero=⟨A,m,yl.set c z⟩:=by rw [Fy a,hy]
def q72 {p:Nat} {h:Sp} {pc:Nat} {pl:List Sp} {e:En} (a:g<abr x.rs) (hy:x.rs.getD g Rw.zero=⟨A,k,yl⟩) (hz:yl[c]?=some z) (i:(x.gs.getD g Gr.zero).parent=(p:Int)) (b:p<abr x.rs) (d:x.rs.getD p Rw.zero=⟨E,pc,pl⟩) (f:pl[c]?=some h) (j:(x.gs.getD g Gr.zero).weight=(m:Int)) (l:(⟨z.v,z.r,m⟩:En).woken h.floor x.aj=e):
  ({x with rs:=aT x.rs g c {z with v:=e.v,r:=e.r}}:aF).ay=mq c x.ay g:=by
 rw [SY a]
 unfold mq bI.wO
 have e1:x.ay.kQ g c=⟨z.v,z.r,m⟩:=by
  unfold bI.kQ
  rw [yS a hy hz,show (x.ay.gs.getD g Gr.zero).weight=(m:Int) from j]
  rfl
 have e2:(x.ay.par g).toNat=p:=by rw [show x.ay.par g=(p:Int) from i];rfl
 rw [e1,e2,yS a hy hz,yS b d f,show x.ay.aj=x.aj from rfl,l]
def qwt {e:En} (a:g<abr x.rs) (hy:x.rs.getD g Rw.zero=⟨A,k,yl⟩) (hz:yl[c]?=some z) (b:(x.gs.getD g Gr.zero).weight=(m:Int)) (f:(⟨z.v,z.r,m⟩:En).add d=e):
  ({x with rs:=aT x.rs g c {z with v:=e.v,r:=e.r}}:aF).ay=x.ay.wO g c ((x.ay.kQ g c).add d):=by
 rw [SY a]
 unfold bI.wO
 have e1:x.ay.kQ g c=⟨z.v,z.r,m⟩:=by
  unfold bI.kQ
  rw [yS a hy hz,show (x.ay.gs.getD g Gr.zero).weight=(m:Int) from b]
  rfl
 rw [e1,yS a hy hz,f]
theorem aaA {e:En} (h:e.Ok) (d:Nat):(e.add d).Ok/\(e.add d).w=e.w:=by
 have a:1<=e.w/\e.w<=65536/\e.r<e.w/\(e.v<18446744073709551615\/e.r=0):=by
  have:=h.1
  grind [cO]
 have b:=h.2
 have hm:=adJ (d*1048576+e.r) (show e.w>0 by omega)
 unfold En.add
 have f:oh=18446744073709551615:=rfl
 split
 ·refine ⟨⟨?_,by show oh<_;omega⟩,rfl⟩
  grind [cO]
 ·refine ⟨⟨?_,by show e.v+_<_;omega⟩,rfl⟩
  grind [cO]
theorem aaB {e:En} (h:e.Ok) (a cr:Nat) (b:a<18446744073709551616):(e.woken a cr).Ok/\(e.woken a cr).w=e.w:=by
 unfold En.woken
 split
 ·refine ⟨⟨?_,by show a-cr<_;omega⟩,rfl⟩
  have d:=h.1
  grind [cO]
 ·exact ⟨h,rfl⟩
theorem aaW {e:En} (h:e.Ok) (fr to:Nat) (b:to<18446744073709551616):(e.moved fr to).Ok/\(e.moved fr to).w=e.w:=by
 have a:=h.1
 unfold cO at a
 rw [decide_eq_true_eq] at a
 have d:=h.2
 have f:oh=18446744073709551615:=rfl
 have hm:uQ e.v fr to<18446744073709551616:=by
  grind [uQ]
 refine ⟨⟨?_,hm⟩,rfl⟩
 unfold cO
 rw [decide_eq_true_eq]
 show (1:Int)<=(e.w:Int)/\(e.w:Int)<=65536/\(((if uQ e.v fr to=oh then 0 else e.r:Nat):Int))<(e.w:Int)/\(uQ e.v fr to<18446744073709551615\/(if uQ e.v fr to=oh then 0 else e.r)=0)
 grind
def Oa {l:List Gr} (h:dO l=true) (a:g<abr l):∃w:Nat,(l.getD g Gr.zero).weight=(w:Int)/\1<=w/\w<=65536:=by
 have:=qR h a
 exact ⟨(l.getD g Gr.zero).weight.toNat,by omega,by omega,by omega⟩
end
theorem qou {s s':bI} (ht:s.ts=s'.ts) (b:s.gs=s'.gs) (a:abr s.sp=abr s'.sp) (e:∀h,(s.spot h c).v=(s'.spot h c).v) (g:Nat):aU s g c=aU s' g c:=by
 have key:∀f g,lW s c f g=lW s' c f g:=by
  intro f
  induction f with
  |zero=>intro g;show s.ts.filterMap _=s'.ts.filterMap _;rw [ht]
  |succ f i=>
   grind [bI.par,RX,lV,lW]
 unfold aU
 rw [a]
 exact key _ g
section
variable {x:aF} {ng nl nu nt ns g c h d:Nat} {j5:List Rw}
def jL (x:aF) (j5:List Rw) (g c:Nat):Prop:=abr j5=abr x.rs/\(∀h,(j5.getD h Rw.zero).l.length=(x.rs.getD h Rw.zero).l.length)/\∀h d,h<abr x.rs->d<(x.rs.getD h Rw.zero).l.length->(j5.getD h Rw.zero).l.getD d Sp.zero=if h<g\/h=g/\d<c then iW x.ay h d ((x.rs.getD h Rw.zero).l.getD d Sp.zero) else (x.rs.getD h Rw.zero).l.getD d Sp.zero
def q2r:jL x x.rs 0 0:=⟨rfl,λ_=>rfl,λh d _ _=>by rw [if_neg om]⟩
theorem q73 (s:bI) (g c:Nat) (z:Sp):(iW s g c z).v=z.v/\(iW s g c z).r=z.r:=by
 unfold iW
 split<;>exact ⟨rfl,rfl⟩
theorem qzc (y:aF) (h d:Nat):y.ay.spot h d=(y.rs.getD h Rw.zero).l.getD d Sp.zero:=by grind [Rw.zero,bI.spot,lX,Sg]
theorem zlo (a:jL x j5 g c) (h d:Nat):(({x with rs:=j5}:aF).ay.spot h d).v=(x.ay.spot h d).v:=by
 rw [qzc,qzc]
 show ((j5.getD h Rw.zero).l.getD d Sp.zero).v=_
 rcases ab0 h (abr x.rs) with b|b
 ·rcases ab0 d (x.rs.getD h Rw.zero).l.length with e|e
  ·rw [a.2.2 h d b e]
   split
   ·exact (q73 ..).1
   ·rfl
  ·have f:=a.2.1 h
   grind
 ·have e1:j5.getD h Rw.zero=Rw.zero:=by rw [abw,adp (by rw [a.1];exact b)];rfl
  grind
def q74 (a:jL x j5 g c) (h d:Nat):aU ({x with rs:=j5}:aF).ay h d=aU x.ay h d:=
 qou (s:=({x with rs:=j5}:aF).ay) (s':=x.ay) rfl rfl (by rw [lX,lX];exact a.1) (λk=>zlo a k d) h
def qbv {α:Type} {l:List α} {u:α} (d:α) (h:l[k]?=some u):l.getD k d=u:=by rw [abw,h];rfl
theorem q2s (a:jL x j5 g c) (f:g<abr x.rs) (hc:c<(x.rs.getD g Rw.zero).l.length) {z b:Sp} (hz:(j5.getD g Rw.zero).l[c]?=some z) (k:iW x.ay g c z=b):jL x (aT j5 g c b) g (c+1):=by
 have m:=a.2.2 g c f hc
 rw [if_neg om,qbv Sp.zero hz] at m
 refine ⟨by rw [zu];exact a.1,λh=>?_,λh d i j=>?_⟩
 ·by_cases e:g=h
  ·subst e
   rw [Fy (by rw [a.1];exact f)]
   show abr ((j5.getD g Rw.zero).l.set c b)=_
   rw [abL];exact a.2.1 g
  ·rw [Jm e];exact a.2.1 h
 ·by_cases e:g=h
  ·subst e
   rw [Fy (by rw [a.1];exact f)]
   show ((j5.getD g Rw.zero).l.set c b).getD d Sp.zero=_
   by_cases e2:c=d
   ·grind
   ·rw [getD_set_ne _ _ e2,a.2.2 g d i j]
    grind
  ·rw [Jm e,a.2.2 h d i j]
   grind
theorem q2t (a:jL x j5 g c) (hm:aU x.ay g c=[]):jL x j5 g (c+1):=by
 refine ⟨a.1,a.2.1,λh d b e=>?_⟩
 rw [a.2.2 h d b e]
 grind [iW]
theorem q75 (a:jL x j5 g c) (hc:(x.rs.getD g Rw.zero).l.length<=c):jL x j5 (g+1) 0:=by
 refine ⟨a.1,a.2.1,λh d b e=>?_⟩
 rw [a.2.2 h d b e]
 grind
theorem q76 (a:jL x j5 g 0) (m:abr x.rs<=g):({x with rs:=j5}:aF).ay=gF x.ay:=by
 have i:j5.map ael=(x.rs.map ael).mapIdx λg l=>l.mapIdx λc z=>iW x.ay g c z:=by
  apply aeh
  ·rw [abz,afa,abz,a.1]
  ·intro h b n
   rw [abz] at b
   have f:h<abr x.rs:=by rw [<-a.1];exact b
   rw [ag2,aeZ,ag2]
   have e1:j5.getD h Rw.zero=j5[h]:=by rw [abw,abv b];rfl
   have e2:x.rs.getD h Rw.zero=x.rs[h]:=by rw [abw,abv f];rfl
   have e:=a.2.1 h
   rw [e1,e2] at e
   apply aeh
   ·rw [afa,e]
   ·intro d j o
    have k:d<x.rs[h].l.length:=by rw [<-e];exact j
    rw [aeZ]
    have p:=a.2.2 h d f (by rw [e2];exact k)
    grind
 show (⟨x.au,x.aj,x.gs,x.cl,x.cu,x.ts,j5.map ael⟩:bI)=_
 rw [i]
 rfl
def zlp (a:cZ x) (z:Sp):cZ ({x with rs:=aT x.rs g c z}:aF):=by
 refine ⟨a.g,a.l,a.u,a.t,by show abr (aT x.rs g c z)<=_;rw [zu];exact a.s,λy i=>?_⟩
 rcases ab0 g (abr x.rs) with f|f
 ·rcases ab4 i with j|rfl
  ·exact a.r y j
  ·show abr ((x.rs.getD g Rw.zero).l.set c z)<=_
   rw [abL]
   exact a.r _ (qf Rw.zero f)
 ·have e:aT x.rs g c z=x.rs:=by unfold aT;exact List.set_eq_of_length_le f
  have b:y∈aT x.rs g c z:=i
  rw [e] at b
  exact a.r y b
theorem dY.put (h:dY x ng nl nu nt ns) (j:g<abr x.rs) (z:Sp) (hz:z.Ok) (hs:fq x.ay g z=true):dY ({x with rs:=aT x.rs g c z}:aF) ng nl nu nt ns:=by
 have f:=SY (x:=x) (c:=c) (z:=z) j
 have b:({x with rs:=aT x.rs g c z}:aF).ay.sp.length=abr x.ay.sp:=by rw [lX,lX];exact zu ..
 refine ⟨⟨h.ok.au,h.ok.aj,h.ok.gs,h.ok.cl,h.ok.cu,h.ok.ts,λl m y n=>?_⟩,zlp h.few z,⟨h.sh.cfg,h.sh.cl,h.sh.cu,by show abr (aT x.rs g c z)=_;rw [zu];exact h.sh.rs,h.sh.cls,λk o=>?_,λi hi=>?_⟩,⟨h.ln.g,h.ln.l,h.ln.u,h.ln.t,by show abr (aT x.rs g c z)=_;rw [zu];exact h.ln.s⟩⟩
 ·rw [f] at m
  rcases ab4 (show l∈x.ay.sp.set g ((x.ay.sp.getD g []).set c z) from m) with a|rfl
  ·exact h.ok.sp l a y n
  ·rcases ab4 n with p|rfl
   ·exact h.ok.sp _ (qf [] (by rw [lX];exact j)) y p
   ·exact hz
 ·have e:k<abr x.rs:=by have a:k<abr (aT x.rs g c z):=o;rwa [zu] at a
  have a:=Dn e (h.sh.row k e)
  refine q7c o ?_ λd q=>?_
  ·grind [Rw.zero,aT,Fy,Jm]
  ·have r:d<((aT x.rs g c z).getD k Rw.zero).l.length:=q
   show fq x.ay k (((aT x.rs g c z).getD k Rw.zero).l.getD d Sp.zero)=true
   grind [Rw.zero,Sp.zero,getD_set_ne,zf,Fy,Jm,fq]
 ·have a:=h.sh.tk i hi
  unfold jD eG at a⊢
  rw [b]
  exact a
end
def ZH (b:Bk) (l:b.Ok) (A:ajq) (c B:Nat) (w:ajg) (p:aR B w) (g:B<=w.heap.size) (hr:Rd w w.heap.size 11 A (abr b.evs) (b.evs.flatMap fD)) (u:abr b.evs<=1000000):
    Calls abt 106 #[.agg (b.cells A c)] w (mI w b.err b.out):=by
 refine (fE Tryz.func106 36) ?_
 refine (JP∘JE) λP g1=>(bO 2∘JQ∘JP∘eF aG O0∘JI (h:=by exact λd=>Hq b l A c B _ (p.mem d g) (d.le g) (d.old hr) u)) λQ C=>(Jp 1∘bU∘Jj) (Ju (λo=>?_) λo=>?_)
 ·
  have e:b.fits=false:=by simpa using o
  exact (JT∘bB 2∘bW) λd=>Zx (by unfold Bk.err;rw [if_pos e]) de d.below
 have e:b.fits=true:=by simpa using o
 have D:=Rh b
 refine (aP∘JP∘eF aG O0∘JK (h:=by exact λd=>zdo b l A c B _ (p.mem d g) (d.le g) (d.old hr) u e)) λE F G x=>(Jp 1∘bU∘bg 1∘Jl∘Jp 1∘Jo (vI (8+(abr (b.body)):Nat)) (by exact q7 om om)∘dx 4∘Jp 1∘fK∘Jj∘bM 2∘aL∘Jj) (Ji (λr=>?_) λr=>?_)
 ·
  exact (JT∘bB 2∘bW) λd=>Zx (by unfold Bk.err;rw [if_neg (by simp [e]),if_pos om]) de d.below
 refine (aP∘aM 1∘Jv 1 [(19,vB (IntKind.u8.wrap ((8+(abr (b.body))+4:Nat):Int)))]∘Jo (vB ((8+(abr (b.body))+4)%256:Nat)) (by exact EM (8+(abr (b.body))+4))∘Jp 2∘Jo (vI ((8+(abr (b.body))+4)/256:Nat)) (by exact vo .i64 (8+(abr (b.body))+4) (j:=8) (q:=256) rfl rfl)∘Jv 1 [(22,vB (IntKind.u8.wrap (((8+(abr (b.body))+4)/256:Nat):Int)))]∘Jo (vB (((8+(abr (b.body))+4)/256)%256:Nat)) (by exact EM ((8+(abr (b.body))+4)/256))∘Jy (v:=vP 0 0) (h:=by exact Yl.uy (ad:=⟨0,0,none⟩) (m:=2) (y:=0) (sz:=1) rfl rfl rfl kr de)∘Jy (v:=vB 113) (h:=by exact Pd rfl rfl kr (λ_ h=>(p.mem h g).sF))∘Jy (v:=vP 0 1) (h:=by exact Yl.uy (ad:=⟨0,0,none⟩) (m:=2) (y:=1) (sz:=1) rfl rfl rfl kr de)∘Jy (v:=vB 116) (h:=by exact Pd rfl rfl kr (λ_ h=>(p.mem h g).sG))∘Jg 0 O1∘JU bD #[vB ((8+(abr (b.body))+4)%256:Nat),vB (((8+(abr (b.body))+4)/256)%256:Nat),vB 0,vB 0,vB 113,vB 116,vB 1,vB b.kind]) λH I=>(Jp 1∘aI∘bg 2∘JC (h:=by exact λd=>d.fV (i:=0) (n:=8) (size:=1) rfl rfl de)∘JD (b.body.map B8) 0 (λ_ _=>aN) bD (hr:=by exact λd=>d.rd (i:=1) rfl) (h1:=by exact uw _)) λJ K L z=>λa Z d=>?_
 rw [show ((#[vB ((8+(abr (b.body))+4)%256:Nat),vB (((8+(abr (b.body))+4)/256)%256:Nat),vB 0,vB 0,vB 113,vB 116,vB 1,vB b.kind]).toList)++(b.body.map B8)=b.raw.map B8 from q6g om] at d
 refine Jb Z d ((JK (h:=by exact λd=>Q8 _ _ _ b.raw B _ (p.mem d g) (d.le g) (d.rd (i:=0) rfl) (Nj b) om (Zw l))) λM N O s=>(Jx∘Jx∘bO 2∘JZ∘JM (.t (.f .n))) ?_)
 have k:b.err=0:=by unfold Bk.err;rw [if_neg (by simp [e]),if_neg om]
 exact (bW) λd=>by exact (by rw [k,Hr k];exact ⟨⟨_,_,rfl,d.own (i:=0) rfl,s⟩,d.below⟩)
def q1w (b:Bk) (a:b.Ok) (A:ajq) (c B:Nat) (w:ajg) (f:aR B w) (e:B<=w.heap.size) (hr:Rd w w.heap.size 11 A (abr b.evs) (b.evs.flatMap fD)) (g:abr b.evs<=1000000):
    Calls abt 45 #[.agg (b.cells A c)] w (Is w (vI (b.err:Int))):=by
 refine (fE Tryz.func45 11) ?_
 exact (JP∘JE) λj g1=>(Jp 1∘Jr∘eF aG O0∘JK (h:=by exact λd=>ZH b a A c B _ (f.mem d e) (d.le e) (d.old hr) g)) λk l m i=>(Jp 1∘Jx∘Jx∘Jp 2∘aI∘bg 2∘bU∘aQ) sW
def E9 (W w:ajg) (i k:Nat) (A:ajq) (n c:Nat) (l:List Nat) (o:Bool) (most:Nat) (fr:List ajr) (x:∀b∈l,b<256) (e:n=abr l) (D:n<=1000000000) (r:Rd W W.heap.size 1 A n (l.map B8)) (s:n<=c) (t:most<=281474976710657)
    (d:Mem W w (.blk i #[.slice A n c] 30:: .blk k #[.bool o] 4::fr)):
    Calls abt 249 #[vI most,vP i 0,vP k 0] w (Zz W i k l o most fr):=by
 have q:Rd W W.heap.size 1 A (abr l) (l.map B8):=e▸r
 have hc:abr l<=c:=e▸s
 refine nZ Tryz.func249 [vI most,vP i 0,vP k 0] [(0,vI most),(1,vP i 0),(2,vP k 0)] λa Z=>?_
 refine Jb Z d ((aM 1∘Jq) ?_)
 have y:=yu l
 have z:=Ga l x
 have B:=rT most l
 refine (JG∘JP∘Jc O0∘JL (h:=by exact λd=>Mx A n c l _ (e▸d.old q) x om)) ?_
 rintro d _ C ⟨rfl,u⟩
 refine ⟨_,rfl,_,d.call u,?_⟩
 refine (Jp 1∘Jx∘Jx∘Jx∘Jp 3∘Jr∘Jc O1∘Jp 1) (Ju (λf=>?_) λf=>?_)
 ·
  refine (Jp 4) (Je (λp=>?_) λp=>?_)
  ·
   exact (Jp 2∘Jw .u64∘Jp 2∘JW gu aN) λg=>(jh∘Jr∘Jc O0∘Jp 1∘Jy (h:=by exact aaf bD (j:=((aD l).2.1)) rfl rfl rfl om)∘JW aN aN) λm=>(jh∘bg 2∘Jw .u64∘Jy (v:=vQ (if (most:Int)<((aD l).1:Int) then (most:Int) else ((aD l).1:Int))) (h:=by exact Yl.min rfl rfl rfl)∘Jo (vQ (aA most l)) (by rw [E5])∘Jw .i64∘Jp 1∘aI∘aQ∘JC (h:=by exact λd=>d.pt (fs':=(ah7 i (if c=((aD l).2.1) then A else A.map (·.add (((aD l).2.1)*1))) (n- ((aD l).2.1)) (c- ((aD l).2.1))::aiY k (decide (((aD l).1:Int)<=(most:Int)))::fr)) 2 [0,1])∘aW) λd=>Rj q hc (by rw [f,acj];unfold bA;rw [ab3];simp only [decide_eq_true_eq];omega) e d
  exact (Jp 5∘JW gu aN) λg=>(jh∘Jr∘Jc O0∘Jp 1∘Jy (h:=by exact aaf bD (j:=((aD l).2.1)) rfl rfl rfl om)∘JW aN aN) λm=>(jh∘bg 2∘Jw .u64∘Jy (v:=vQ (if (most:Int)<((aD l).1:Int) then (most:Int) else ((aD l).1:Int))) (h:=by exact Yl.min rfl rfl rfl)∘Jo (vQ (aA most l)) (by rw [E5])∘Jw .i64∘Jp 1∘aI∘aQ∘JC (h:=by exact λd=>d.pt (fs':=(ah7 i (if c=((aD l).2.1) then A else A.map (·.add (((aD l).2.1)*1))) (n- ((aD l).2.1)) (c- ((aD l).2.1))::.blk k #[.bool false] 4::fr)) 2 [0,1])∘aW) λd=>Rj q hc (by rw [Zy om,adA]) e d
 exact (Jv 9 [(24,.bool false)]∘JW gu aN) λg=>(wu∘Jr∘Jc O0∘Jp 1∘Jy (h:=by exact aaf bD (j:=((aD l).2.1)) rfl rfl rfl om)∘JW aN aN) λm=>(wu∘bg 2∘Jw .u64∘Jy (v:=vQ (if (most:Int)<((aD l).1:Int) then (most:Int) else ((aD l).1:Int))) (h:=by exact Yl.min rfl rfl rfl)∘Jo (vQ (aA most l)) (by rw [E5])∘Jw .i64∘Jp 1∘kV∘aQ∘JC (h:=by exact λd=>d.pt (fs':=(ah7 i (if c=((aD l).2.1) then A else A.map (·.add (((aD l).2.1)*1))) (n- ((aD l).2.1)) (c- ((aD l).2.1))::.blk k #[.bool false] 4::fr)) 2 [0,1])∘aW) λd=>Rj q hc (by rw [f,adz]) e d
def Nq {es:List Ev} {L:Nat} (b:vF l=true) (c:0<aA 4096 (qd (qd l)))
  (d:gZ ⟨(aA 281474976710656 (qd (qd (qd l))):Int),(aA 281474976710656 (qd (qd (qd (qd l)))):Int)⟩ (aA 63 l) (aA 4096 (qd (qd l)):Int) (qd (qd (qd (qd (qd l)))))=(es,L,er)) (a:er=0):
  zg l=uL (aA 63 l) (aA 281474976710656 (qd l)) (qd (qd (qd l))) (es,L,0):=by
 rw [ZB b c d,a]
abbrev aia:=λa=>(.blk a #[vB 0,vB 0,vI 0,vI 0,vN] 85:ajr)
abbrev aiI:=λa b c=>(.blk a #[vB (1:Nat),vB b,vI c,vI 0,vN] 85:ajr)
abbrev aiR:=λa b c d e=>((9,vI a)::(18,.bool false)::(8,vP b 0)::(7,.func (.func 249) #[] #[vP c 0,vP d 0])::(6,vP d 0)::e:List (Nat×ajh))
abbrev ai8:Array ajh:=#[vB 0,vB 0,vI 0,vI 0,vN]
abbrev ajf:Array ajh:=#[vB (1:Nat),vB 0,vI 0,vI 0,vN]
def qc1 (k:Nat) (hk:k=1\/k=2) (A:ajq) (n c:Nat) (l:List Nat) (B:Nat) (w:ajg) (hL:aR B w) (T:B<=w.heap.size) (hr:Rd w w.heap.size 1 A n (l.map B8)) (hc:n<=c) (hln:n=abr l) (hn:n<=100000000) (hl:∀b∈l,b<256):
    Calls abt 182 #[vB k,.slice A n c] w (Da w (vG k l)):=by
 refine (iQ Tryz.func182 99) ?_
 refine (JP∘uH) λw3 q=>(JA ai8) λw4 E=>(Jp 1∘Jr∘JA #[.bool false]) λw6 r=>(JW aN aN) λajU=>(Jr∘Jy (h:=by exact Yl.makeFunc (fst:=[]) (caps:=[vP q 0,vP r 0]) rfl rfl rfl)∘Jp 1∘aL∘bg 1∘fu #[vB k,vB 0,vI 0,vI 0,vN]∘JA ai8) λw8 F=>(JV aG aN) λRv=>(bU∘Jj∘bM 2∘aL∘Jj) (Je (λDg=>?_) λDg=>?_)
 ·
  obtain rfl:k=2:=by omega
  refine (JT∘aM 1) λa Z d=>?_
  refine fo Z 1 rfl rfl ?_
  replace d:=d.pk (fs':=[ah7 q A n c,.blk r #[.bool true] 4,.blk F #[vB (2:Nat),vB 0,vI 0,vI 0,vN] 85,aia E]) [3,1,0,2]
  have hl1:=wC hl
  refine zl Z (f:=249) (vs:=[vI 281474976710657]) (fst:=[]) (caps:=[vP q 0,vP r 0]) rfl rfl rfl kr rfl de (E9 w _ q r A n c l true 281474976710657 [.blk F #[vB (2:Nat),vB 0,vI 0,vI 0,vN] 85,aia E] hl hln om hr hc om d) ?_
  rintro _ EY ⟨rfl,U,V,hr1,hc1,hm⟩
  refine ⟨_,rfl,?_⟩
  replace d:=hm
  clear Z;intro a Z
  have ht0:=rT 281474976710657 l
  have hs0:=E8 l
  refine Jb Z d ((Jf 3∘JW iE oI) λDh=>(oK∘Jj) λa Z d=>?_)
  refine qz (λW X=>Fr W 99 [] [(5,.bool ((uK l).isSome)),(18,.bool true),(8,vP F 0),(7,.func (.func 249) #[] #[vP q 0,vP r 0]),(6,vP r 0),(4,vP E 0),(3,vP q 0),(0,vB (2:Nat))]/\Mem w X [.blk q #[abo U (qd l) V] 30,aiY r (true&&bA 281474976710657 l),.blk F #[vB (2:Nat),vB 0,vI 0,vI (aA 281474976710657 l),vN] 85,.blk E #[vB (2:Nat),vB 0,vI 0,vI (aA 281474976710657 l),vN] 85]) ?_ ?_
  ·
   refine Jb Z d ((Vs (.t (.t (.t (.f .n)))) []) λHY=>(nR 0 aG O2∘Vc 1 O1∘Vp [2]) λa Z d e=>?_)
   rcases Z.tf 24 rfl with ⟨N,Z⟩|⟨N,Z⟩
   ·
    refine Vb Z d e ((Vc 3 O0∘Vl 4∘Vp [5,6,7]) λa Z d e=>?_)
    rcases Z.tf 29 rfl with ⟨O,Z⟩|⟨O,Z⟩
    ·
     have hd29:=eq_of_beq O
     refine Vb Z d e ((nR 8 aG O2∘VI 9 (.t (.t (.t (.f .n)))) (h:=by exact λd=>Hq ⟨2,0,0,(aA 281474976710657 l:Int),[]⟩ (Hu ht0) none 0 B _ (hL.mem d T) (d.le T) Rd.nil (by show 0<=_;omega))) λFa hbw=>(Vp [10]) λa Z d e=>?_)
     refine s_on Z 11 rfl (bV Z d 3 rfl rfl rfl rfl rfl aG rfl rfl (by simp [abV]) λP d=>?_)
     refine av (d.pk [0,1,2]) (λe=>?_)
     refine Vb Z d e ((Vp [12]∘Vd∘aI) λa Z d=>?_)
     have Z:=Z.sp 5 (.bool ((uK l).isSome)) rfl (congrArg abP (by rw [Rk,show bA 281474976710657 l=true by simpa using N,decide_eq_true om,acj,acj]))
     exact ⟨Z.sub kr,d.pk [0,1,2,3]⟩
    have hd29:=ne_of_beq_false O
    refine ap Z (λ_=>e) [8,9,10] (bt 13 [11,12]) [(32,.bool false)] λa Z=>?_
    refine s_on Z 11 rfl (bV Z d 3 rfl rfl rfl rfl rfl aG rfl rfl (by simp [abV]) λP d=>?_)
    refine av (d.pk [0,1,2]) (λe=>?_)
    refine ap Z (λ_=>e) [12] (bt 13 []) [(5,.bool false)] λa Z=>?_
    refine qe kr ?_
    have Z:=Z.sp 5 (.bool ((uK l).isSome)) rfl (congrArg abP (by rw [Rk,decide_eq_false om,adz,adA]))
    exact ⟨Z.sub kr,d.pk [0,1,2,3]⟩
   refine ap Z (λ_=>e) [3,4,5,6,7,8,9,10] (bt 13 [11,12]) [(32,.bool false)] λa Z=>?_
   refine s_on Z 11 rfl (bV Z d 3 rfl rfl rfl rfl rfl aG rfl rfl (by simp [abV]) λP d=>?_)
   refine av (d.pk [0,1,2]) (λe=>?_)
   refine ap Z (λ_=>e) [12] (bt 13 []) [(5,.bool false)] λa Z=>?_
   refine qe kr ?_
   have Z:=Z.sp 5 (.bool ((uK l).isSome)) rfl (congrArg abP (by rw [Rk,show bA 281474976710657 l=false by simpa using N];rfl))
   exact ⟨Z.sub kr,d.pk [0,1,2,3]⟩
  clear Z d;rintro a w6 ⟨Z,d⟩
  refine Jb Z d ((JZ) (Ju (λs=>?_) λs=>?_))
  ·
   have g:=s
   intro a Z d
   exact dS rfl Z (.cellS (i:=3) Z d rfl rfl aG rfl) (.tmp Z rfl) (Nl (b:=⟨2,0,0,(aA 281474976710657 l:Int),[]⟩) (A:=none) (c:=0) (by rw [ZA];exact qsw g) (acK _ _ _ _) (abx _) d.below)
  have g:=s
  intro a Z d
  exact dS rfl Z (.cellS (i:=3) Z d rfl rfl aG rfl) (.tmp Z rfl) (Ht (by rw [ZA];exact adu.1 (by rw [g];decide)) rfl (by simp [abV]) d.below)
 obtain rfl:k=1:=by omega
 refine (aP∘aM 1) λa Z d=>?_
 refine fo Z 1 rfl rfl ?_
 replace d:=d.pk (fs':=[ah7 q A n c,.blk r #[.bool true] 4,.blk F ajf 85,aia E]) [3,1,0,2]
 have hl1:=wC hl
 refine zl Z (f:=249) (vs:=[vI 63]) (fst:=[]) (caps:=[vP q 0,vP r 0]) rfl rfl rfl kr rfl de (E9 w _ q r A n c l true 63 [.blk F ajf 85,aia E] hl hln om hr hc om d) ?_
 rintro _ Rx ⟨rfl,U,V,hr1,hc1,hm⟩
 refine ⟨_,rfl,?_⟩
 replace d:=hm
 clear Z;intro a Z
 have ht0:=rT 63 l
 have hs0:=E8 l
 refine Jb Z d ((Jv 1 [(35,vB (IntKind.u8.wrap (aA 63 l:Int)))]∘Jo (vB (aA 63 l)) (by exact XY rfl om)∘Jp 1) λa Z d=>?_)
 refine fo Z 4 rfl rfl ?_
 replace d:=d.pk (fs':=[.blk q #[abo U (qd l) V] 30,aiY r (true&&bA 63 l),.blk F ajf 85,aia E]) [0,1,2,3]
 have hl2:=wC hl1
 refine zl Z (f:=249) (vs:=[vI 281474976710656]) (fst:=[]) (caps:=[vP q 0,vP r 0]) rfl rfl rfl kr rfl de (E9 w _ q r U (abr (qd l)) V (qd l) (true&&bA 63 l) 281474976710656 [.blk F ajf 85,aia E] hl1 rfl om hr1 hc1 om d) ?_
 rintro _ Di ⟨rfl,ZN,ZO,hr2,hc2,hm⟩
 refine ⟨_,rfl,?_⟩
 replace d:=hm
 clear Z;intro a Z
 have ht1:=rT 281474976710656 (qd l)
 have hs1:=E8 (qd l)
 refine Jb Z d ((Jf 1∘JW iE gu) λRy=>(Jf 2∘JW iE iE) λajV=>(jh∘bg 1) λa Z d=>?_)
 refine fo Z 1 rfl rfl ?_
 replace d:=d.pk (fs':=[.blk q #[abo ZN (qd (qd l)) ZO] 30,aiY r ((true&&bA 63 l)&&bA 281474976710656 (qd l)),aiI F (aA 63 l) (aA 281474976710656 (qd l)),aia E]) [0,1,2,3]
 have hl3:=wC hl2
 refine zl Z (f:=249) (vs:=[vI 4096]) (fst:=[]) (caps:=[vP q 0,vP r 0]) rfl rfl rfl kr rfl de (E9 w _ q r ZN (abr (qd (qd l))) ZO (qd (qd l)) ((true&&bA 63 l)&&bA 281474976710656 (qd l)) 4096 [aiI F (aA 63 l) (aA 281474976710656 (qd l)),aia E] hl2 rfl om hr2 hc2 om d) ?_
 rintro _ w41 ⟨rfl,Y,Nr,hr3,hc3,hm⟩
 refine ⟨_,rfl,?_⟩
 replace d:=hm
 clear Z;intro a Z
 have ht2:=rT 4096 (qd (qd l))
 have hs2:=E8 (qd (qd l))
 refine Jb Z d ((Jp 1∘eO∘Jj∘JQ∘JP∘Jc O1∘Jp 1) (Ju (λQ=>?_) λQ=>?_))
 ·
  have K:vF l=true:=by rw [<-tk3];exact Q
  refine (Jp 3∘fK∘Jj) (Ji (λCY=>?_) λCY=>?_)
  ·
   refine (JT∘aM 1) λa Z d=>?_
   refine fo Z 1 rfl rfl ?_
   replace d:=d.pk (fs':=[ah7 q Y (abr (qd (qd (qd l)))) Nr,aiY r (((true&&bA 63 l)&&bA 281474976710656 (qd l))&&bA 4096 (qd (qd l))),aiI F (aA 63 l) (aA 281474976710656 (qd l)),aia E]) [0,1,2,3]
   have hl4:=wC hl3
   refine zl Z (f:=249) (vs:=[vI 281474976710656]) (fst:=[]) (caps:=[vP q 0,vP r 0]) rfl rfl rfl kr rfl de (E9 w _ q r Y (abr (qd (qd (qd l)))) Nr (qd (qd (qd l))) (((true&&bA 63 l)&&bA 281474976710656 (qd l))&&bA 4096 (qd (qd l))) 281474976710656 [aiI F (aA 63 l) (aA 281474976710656 (qd l)),aia E] hl3 rfl om hr3 hc3 om d) ?_
   rintro _ C9 ⟨rfl,ZP,ZQ,hr4,hc4,hm⟩
   refine ⟨_,rfl,?_⟩
   replace d:=hm
   clear Z;intro a Z
   have ht3:=rT 281474976710656 (qd (qd (qd l)))
   have hs3:=E8 (qd (qd (qd l)))
   refine Jb Z d ((Jp 1) λa Z d=>?_)
   refine fo Z 3 rfl rfl ?_
   replace d:=d.pk (fs':=[ah7 q ZP (abr (qd (qd (qd (qd l))))) ZQ,aiY r ((((true&&bA 63 l)&&bA 281474976710656 (qd l))&&bA 4096 (qd (qd l)))&&bA 281474976710656 (qd (qd (qd l)))),aiI F (aA 63 l) (aA 281474976710656 (qd l)),aia E]) [0,1,2,3]
   have hl5:=wC hl4
   refine zl Z (f:=249) (vs:=[vI 281474976710656]) (fst:=[]) (caps:=[vP q 0,vP r 0]) rfl rfl rfl kr rfl de (E9 w _ q r ZP (abr (qd (qd (qd (qd l))))) ZQ (qd (qd (qd (qd l)))) ((((true&&bA 63 l)&&bA 281474976710656 (qd l))&&bA 4096 (qd (qd l)))&&bA 281474976710656 (qd (qd (qd l)))) 281474976710656 [aiI F (aA 63 l) (aA 281474976710656 (qd l)),aia E] hl4 rfl om hr4 hc4 om d) ?_
   rintro _ GX ⟨rfl,Ns,Nt,hr5,hc5,hm⟩
   refine ⟨_,rfl,?_⟩
   replace d:=hm
   clear Z;intro a Z
   have ht4:=rT 281474976710656 (qd (qd (qd (qd l))))
   have hs4:=E8 (qd (qd (qd (qd l))))
   refine Jb Z d ((fu #[vI (aA 281474976710656 (qd (qd (qd l)))),vI (aA 281474976710656 (qd (qd (qd (qd l)))))]∘JA #[vI 0,vI 0]) λsD M=>(JV ⟨kr,kr⟩ aN) λZR=>(kV∘Jq) ?_)
   obtain ⟨es,L,er,hq⟩:∃es L er,gZ ⟨(aA 281474976710656 (qd (qd (qd l))):Int),(aA 281474976710656 (qd (qd (qd (qd l)))):Int)⟩ (aA 63 l) (aA 4096 (qd (qd l)):Int) (qd (qd (qd (qd (qd l)))))=(es,L,er):=⟨_,_,_,rfl⟩
   refine (JG∘JP∘eF ⟨kr,kr⟩ O0∘Jg 1 O3∘Jp 1∘Jc O1∘JK (h:=by exact λd=>zkj ⟨(aA 281474976710656 (qd (qd (qd l))):Int),(aA 281474976710656 (qd (qd (qd (qd l)))):Int)⟩ (aA 63 l) om Ns (abr (qd (qd (qd (qd (qd l)))))) Nt (aA 4096 (qd (qd l)):Int) (by unfold aX;omega) (qd (qd (qd (qd (qd l))))) B _ (hL.mem d T).laid (d.le T) (d.old hr5) hc5 hl5 om (.inl om) hq)) λz u HZ Rz=>(Jp 1∘Jx∘Jx∘Jx∘bO 3∘JQ) λa Z d=>?_
   refine qz (λW X=>Fr W 99 [] ((81,.bool (!(decide (er=0/\(es.getD 0 Ev.zero).seq=(aA 281474976710656 (qd (qd (qd l))):Int)/\(es.getD 0 Ev.zero).time=(aA 281474976710656 (qd (qd (qd (qd l)))):Int)))))::(12,vI L)::(11,abo z es u)::(10,vP M 0)::(46,.bool true)::aiR (aA 4096 (qd (qd l))) F q r [(5,.bool false),(4,vP E 0),(3,vP q 0),(0,vB (1:Nat))])/\Mem w X [abq z es u fD 73 11,.blk M #[vI (aA 281474976710656 (qd (qd (qd l)))),vI (aA 281474976710656 (qd (qd (qd (qd l)))))] 110,ah7 q Ns (abr (qd (qd (qd (qd (qd l)))))) Nt,aiY r (((((true&&bA 63 l)&&bA 281474976710656 (qd l))&&bA 4096 (qd (qd l)))&&bA 281474976710656 (qd (qd (qd l))))&&bA 281474976710656 (qd (qd (qd (qd l))))),aiI F (aA 63 l) (aA 281474976710656 (qd l)),aia E]) ?_ ?_
   ·
    refine Jb Z d ((Vs .n []) λH6=>(Vp [0,1,2]) λa Z d e=>?_)
    rcases Z.tf 64 rfl with ⟨R,Z⟩|⟨R,Z⟩
    ·
     have RA:=bne_iff_ne.1 R
     refine Vb Z d e ((Vq [3,4,5,6,7,8,9,10,11,12,13,14,15,16,17,18,19] [(81,.bool true)]∘Vd∘kV) λa Z d=>?_)
     have Z:=Z.sp 81 (.bool (!(decide (er=0/\(es.getD 0 Ev.zero).seq=(aA 281474976710656 (qd (qd (qd l))):Int)/\(es.getD 0 Ev.zero).time=(aA 281474976710656 (qd (qd (qd (qd l)))):Int))))) rfl (congrArg abP (by rw [decide_eq_false om];rfl))
     exact ⟨Z.sub kr,d.pk [0,1,2,3,4,5]⟩
    have RA:=bne_eq_false_iff_eq.1 R
    have J:er=0:=by omega
    have S:=hq;rw [J] at S;obtain ⟨rw1,ZT,rw4⟩:=Ru (cpu:=aA 63 l) om hl5 S
    refine ap Z (λ_=>e) [3,7] (bf 20 [0,1,2,3,7]) [(69,vP M 0),(65,abo z es u)] λa Z=>?_
    revert d;revert a;repeat (first|clear Z|clear d)
    intro a Z d
    obtain ⟨C,rfl⟩:=d.rat 0 0
    refine iN Z e 4 rfl (v:=vP C 0) (Yl.indexAddr (ad:=⟨C,0,none⟩) (y:=0) (sz:=11) rfl rfl rfl om kr) λa Z=>?_
    refine ap Z (λ_=>e) [5] (bf 20 [0,1,2,3,4,5,7]) [(67,vP C 0)] λa Z=>?_
    refine iN Z e 6 rfl (v:=vI ((es.getD 0 Ev.zero).seq)) (Pd rfl rfl kr (λ_ h=>(by have:=h.qv sj (i:=0) rfl (k:=0) (off:=0) (x:=(es.getD 0 Ev.zero)) ((getD_at Ev.zero (k:=0) (by first|omega|(simp;omega)))) rfl;simpa using this))) λa Z=>?_
    refine dJ Z e 8 1 λa Z=>?_
    refine ap Z (λ_=>e) [9,10,11] (bt 20 [12,13,14,15,16,17,18,19]) [(73,.bool (((es.getD 0 Ev.zero).seq:Int) !=(aA 281474976710656 (qd (qd (qd l))):Int)))] λa Z=>?_
    refine Jb Z d (Jh (λRB=>?_) λRB=>?_)
    ·
     intro a Z d
     refine ap Z (λ_=>e) [12,13,14,15,16,17,18,19] (bt 20 []) [(81,.bool true)] λa Z=>?_
     refine qe kr ?_
     have Z:=Z.sp 81 (.bool (!(decide (er=0/\(es.getD 0 Ev.zero).seq=(aA 281474976710656 (qd (qd (qd l))):Int)/\(es.getD 0 Ev.zero).time=(aA 281474976710656 (qd (qd (qd (qd l)))):Int))))) rfl (congrArg abP (by rw [decide_eq_false om];rfl))
     exact ⟨Z.sub kr,d.pk [0,1,2,3,4,5]⟩
    intro a Z d
    refine ap Z (λ_=>e) [12,16] (bt 20 [13,14,15,17,18,19]) [(78,vP M 1),(74,vS C (abr es) u)] λa Z=>?_
    refine iN Z e 13 rfl (v:=vP C 0) (Yl.indexAddr (ad:=⟨C,0,none⟩) (y:=0) (sz:=11) rfl rfl rfl om kr) λa Z=>?_
    refine ap Z (λ_=>e) [14] (bt 20 [15,17,18,19]) [(76,vP C 1)] λa Z=>?_
    refine iN Z e 15 rfl (v:=vI ((es.getD 0 Ev.zero).time)) (Pd rfl rfl kr (λ_ h=>h.qv sj (i:=0) rfl (k:=0) (off:=1) (x:=(es.getD 0 Ev.zero)) ((getD_at Ev.zero (k:=0) (by first|omega|(simp;omega)))) rfl)) λa Z=>?_
    refine dJ Z e 17 1 λa Z=>?_
    refine ap Z (λ_=>e) [18,19] (bt 20 []) [(81,.bool (((es.getD 0 Ev.zero).time:Int) !=(aA 281474976710656 (qd (qd (qd (qd l)))):Int)))] λa Z=>?_
    refine qe kr ?_
    have Z:=Z.sp 81 (.bool (!(decide (er=0/\(es.getD 0 Ev.zero).seq=(aA 281474976710656 (qd (qd (qd l))):Int)/\(es.getD 0 Ev.zero).time=(aA 281474976710656 (qd (qd (qd (qd l)))):Int))))) rfl (congrArg abP (by rw [ab3,bne_iff_ne,acP,decide_eq_false_iff_not];omega))
    exact ⟨Z.sub kr,d.pk [0,1,2,3,4,5]⟩
   clear Z d;rintro a yL ⟨Z,d⟩
   refine Jb Z d (Ju (λD=>?_) λD=>?_)
   ·
    have Dj:=of_decide_eq_false ((acP _).mp D)
    have hz:¬(er=0/\(es.getD 0 Ev.zero).seq=(aA 281474976710656 (qd (qd (qd l))):Int)/\(es.getD 0 Ev.zero).time=(aA 281474976710656 (qd (qd (qd (qd l)))):Int)):=λG=>by rw [decide_eq_true G] at D;cases D
    refine (JT∘JP∘fu ai8∘JV aG rR) λG8=>(Jp 1∘aL∘aQ) λa Z d=>?_
    exact dS rfl Z (.cellS (i:=5) Z d rfl rfl aG rfl) (.tmp Z rfl) (Ht (by rw [Db,ZB K om hq];exact ZC (λG=>hz ⟨G.1,G.2.1,G.2.2.1⟩)) rfl (by simp [abV]) d.below)
   have Dj:=of_decide_eq_true ((aem _).mp D)
   have hz:er=0/\(es.getD 0 Ev.zero).seq=(aA 281474976710656 (qd (qd (qd l))):Int)/\(es.getD 0 Ev.zero).time=(aA 281474976710656 (qd (qd (qd (qd l)))):Int):=Decidable.byContradiction λG=>by rw [decide_eq_false G] at D;cases D
   have J:=hz.1
   have S:=hq;rw [J] at S;obtain ⟨rw1,ZT,rw4⟩:=Ru (cpu:=aA 63 l) om hl5 S
   refine (aP∘Vs (.t (.t (.t (.t (.f .n))))) [6]) λzK=>(Vp [0,2]∘Vf 4 4∘Vc 1 O2∘Vy 3 (h:=by exact aaf bD (j:=L) rfl rfl rfl om)) λa Z d e=>?_
   refine s_on Z 5 rfl (eU Z d 4 λH7 d=>?_)
   refine av (d.pk [0,1,2,3,5]) (λe=>?_)
   refine s_on Z 6 rfl (eU Z d 2 λH8 d=>?_)
   refine dR kr ?_
   refine qe kr ?_
   refine qz (λW X=>Fr W 99 [] ((5,.bool ((zg l).isSome))::(81,.bool false)::(11,abo z es u)::(10,vP M 0)::(46,.bool true)::aiR (aA 4096 (qd (qd l))) F q r [(4,vP E 0),(3,vP q 0),(0,vB (1:Nat))])/\Mem w X [abq z es u fD 73 11,.blk M #[vI (aA 281474976710656 (qd (qd (qd l)))),vI (aA 281474976710656 (qd (qd (qd (qd l)))))] 110,ah7 q (if Nt=L then Ns else Ns.map (·.add (L*1))) ((abr (qd (qd (qd (qd (qd l))))))-L) (Nt-L),aiY r (((((true&&bA 63 l)&&bA 281474976710656 (qd l))&&bA 4096 (qd (qd l)))&&bA 281474976710656 (qd (qd (qd l))))&&bA 281474976710656 (qd (qd (qd (qd l))))),.blk F #[vB (1:Nat),vB (aA 63 l),vI (aA 281474976710656 (qd l)),vI 0,abo z es u] 85,.blk E #[vB (1:Nat),vB (aA 63 l),vI (aA 281474976710656 (qd l)),vI 0,abo z es u] 85]) ?_ ?_
   ·
    refine Jb Z d ((Vs (.t (.t (.t (.t (.t (.f .n)))))) []) λzL=>(Vy 0 (v:= .agg #[vB (1:Nat),vB (aA 63 l),vI (aA 281474976710656 (qd l)),vI 0,abo z es u]) (h:=by exact Pe rfl rfl aG rfl (λ_ h=>qj (h.blk (i:=4) rfl)))∘Vc 1 O3∘Vp [2]) λa Z d e=>?_)
    rcases Z.tf 90 rfl with ⟨o,Z⟩|⟨o,Z⟩
    ·
     refine Vb Z d e ((Vc 3 O2∘Vl 4∘Vp [5,6,7]) λa Z d e=>?_)
     rcases Z.tf 95 rfl with ⟨p,Z⟩|⟨p,Z⟩
     ·
      have H:=eq_of_beq p
      refine Vb Z d e ((Vy 8 (v:= .agg #[vB (1:Nat),vB (aA 63 l),vI (aA 281474976710656 (qd l)),vI 0,abo z es u]) (h:=by exact Pe rfl rfl aG rfl (λ_ h=>qj (h.blk (i:=4) rfl)))∘VI 9 (.t (.t (.t (.t (.t (.f .n)))))) (h:=by exact λd=>Hq ⟨1,aA 63 l,(aA 281474976710656 (qd l):Int),0,es⟩ (wD om om ZT) z u B _ (hL.mem d T) (d.le T) (d.rd (i:=0) rfl) (by show abr es<=_;omega))) λRD hbw=>(Vp [10]) λa Z d e=>?_)
      refine s_on Z 11 rfl (bV Z d 5 rfl rfl rfl rfl rfl aG rfl rfl (by simp [abV]) λm d=>?_)
      refine av (d.pk [0,1,2,3,4]) (λe=>?_)
      refine Vb Z d e ((Vp [12]∘Vd∘aI) λa Z d=>?_)
      have Z:=Z.sp 5 (.bool ((zg l).isSome)) rfl (congrArg abP (by rw [Nq K om hq J,Rl ⟨hz.2.1,hz.2.2⟩,show (bA 281474976710656 (qd (qd (qd l)))&&bA 281474976710656 (qd (qd (qd (qd l)))))=true by have I:=o;rw [ZG (l:=l),tk3,K,acj] at I;exact I,decide_eq_true om,acj,acj]))
      exact ⟨Z.sub kr,d.pk [0,1,2,3,4,5]⟩
     have H:=ne_of_beq_false p
     refine ap Z (λ_=>e) [8,9,10] (bt 13 [11,12]) [(98,.bool false)] λa Z=>?_
     refine s_on Z 11 rfl (bV Z d 5 rfl rfl rfl rfl rfl aG rfl rfl (by simp [abV]) λm d=>?_)
     refine av (d.pk [0,1,2,3,4]) (λe=>?_)
     refine ap Z (λ_=>e) [12] (bt 13 []) [(5,.bool false)] λa Z=>?_
     refine qe kr ?_
     have Z:=Z.sp 5 (.bool ((zg l).isSome)) rfl (congrArg abP (by rw [Nq K om hq J,Rl ⟨hz.2.1,hz.2.2⟩,decide_eq_false om,adz,adA]))
     exact ⟨Z.sub kr,d.pk [0,1,2,3,4,5]⟩
    refine ap Z (λ_=>e) [3,4,5,6,7,8,9,10] (bt 13 [11,12]) [(98,.bool false)] λa Z=>?_
    refine s_on Z 11 rfl (bV Z d 5 rfl rfl rfl rfl rfl aG rfl rfl (by simp [abV]) λm d=>?_)
    refine av (d.pk [0,1,2,3,4]) (λe=>?_)
    refine ap Z (λ_=>e) [12] (bt 13 []) [(5,.bool false)] λa Z=>?_
    refine qe kr ?_
    have Z:=Z.sp 5 (.bool ((zg l).isSome)) rfl (congrArg abP (by rw [Nq K om hq J,Rl ⟨hz.2.1,hz.2.2⟩,show (bA 281474976710656 (qd (qd (qd l)))&&bA 281474976710656 (qd (qd (qd (qd l)))))=false by have I:=o;rw [ZG (l:=l),tk3,K,acj] at I;exact I,adz]))
    exact ⟨Z.sub kr,d.pk [0,1,2,3,4,5]⟩
   clear Z d;rintro a CO ⟨Z,d⟩
   refine Jb Z d ((JZ) (Ju (λs=>?_) λs=>?_))
   ·
    have g:=s
    intro a Z d
    exact dS rfl Z (.cellS (i:=5) Z d rfl rfl aG rfl) (.tmp Z rfl) (Nl (b:=⟨1,aA 63 l,(aA 281474976710656 (qd l):Int),0,es⟩) (A:=z) (c:=u) (by rw [Db];rw [Nq K om hq J] at g⊢;exact zdp g) (d.own (i:=0) rfl) Rz d.below)
   have g:=s
   intro a Z d
   exact dS rfl Z (.cellS (i:=5) Z d rfl rfl aG rfl) (.tmp Z rfl) (Ht (by rw [Db];exact adu.1 (by rw [g];decide)) rfl (by simp [abV]) d.below)
  refine (aP) λa Z d=>?_
  refine qz (λW X=>Fr W 99 [] ((5,.bool ((zg l).isSome))::(46,.bool false)::aiR (aA 4096 (qd (qd l))) F q r [(4,vP E 0),(3,vP q 0),(0,vB (1:Nat))])/\Mem w X [ah7 q Y (abr (qd (qd (qd l)))) Nr,aiY r (((true&&bA 63 l)&&bA 281474976710656 (qd l))&&bA 4096 (qd (qd l))),aiI F (aA 63 l) (aA 281474976710656 (qd l)),aiI E (aA 63 l) (aA 281474976710656 (qd l))]) ?_ ?_
  ·
   refine Jb Z d ((Vs (.t (.t (.t (.f .n)))) []) λzL=>(nR 0 aG O2∘Vc 1 O1∘Vp [2]) λa Z d e=>?_)
   rcases Z.tf 90 rfl with ⟨o,Z⟩|⟨o,Z⟩
   ·
    refine Vb Z d e ((Vc 3 O0∘Vl 4∘Vp [5,6,7]) λa Z d e=>?_)
    rcases Z.tf 95 rfl with ⟨p,Z⟩|⟨p,Z⟩
    ·
     have H:=eq_of_beq p
     refine Vb Z d e ((nR 8 aG O2∘VI 9 (.t (.t (.t (.f .n)))) (h:=by exact λd=>Hq ⟨1,aA 63 l,(aA 281474976710656 (qd l):Int),0,[]⟩ (wD om om (by simp)) none 0 B _ (hL.mem d T) (d.le T) Rd.nil (by show 0<=_;omega))) λRD hbw=>(Vp [10]) λa Z d e=>?_)
     refine s_on Z 11 rfl (bV Z d 3 rfl rfl rfl rfl rfl aG rfl rfl (by simp [abV]) λm d=>?_)
     refine av (d.pk [0,1,2]) (λe=>?_)
     refine Vb Z d e ((Vp [12]∘Vd∘aI) λa Z d=>?_)
     have Z:=Z.sp 5 (.bool ((zg l).isSome)) rfl (congrArg abP (by rw [Nn (l:=l) (λG=>by have h0:=G.2;omega),K,decide_eq_true om,acj,acj]))
     exact ⟨Z.sub kr,d.pk [0,1,2,3]⟩
    have H:=ne_of_beq_false p
    refine ap Z (λ_=>e) [8,9,10] (bt 13 [11,12]) [(98,.bool false)] λa Z=>?_
    refine s_on Z 11 rfl (bV Z d 3 rfl rfl rfl rfl rfl aG rfl rfl (by simp [abV]) λm d=>?_)
    refine av (d.pk [0,1,2]) (λe=>?_)
    refine ap Z (λ_=>e) [12] (bt 13 []) [(5,.bool false)] λa Z=>?_
    refine qe kr ?_
    have Z:=Z.sp 5 (.bool ((zg l).isSome)) rfl (congrArg abP (by rw [Nn (l:=l) (λG=>by have h0:=G.2;omega),decide_eq_false om,adz,adA]))
    exact ⟨Z.sub kr,d.pk [0,1,2,3]⟩
   refine ap Z (λ_=>e) [3,4,5,6,7,8,9,10] (bt 13 [11,12]) [(98,.bool false)] λa Z=>?_
   refine s_on Z 11 rfl (bV Z d 3 rfl rfl rfl rfl rfl aG rfl rfl (by simp [abV]) λm d=>?_)
   refine av (d.pk [0,1,2]) (λe=>?_)
   refine ap Z (λ_=>e) [12] (bt 13 []) [(5,.bool false)] λa Z=>?_
   refine qe kr ?_
   have Z:=Z.sp 5 (.bool ((zg l).isSome)) rfl (congrArg abP (by have I:=o;rw [tk3] at I;rw [Nn (l:=l) (λG=>by have h0:=G.2;omega),I,adz]))
   exact ⟨Z.sub kr,d.pk [0,1,2,3]⟩
  clear Z d;rintro a CO ⟨Z,d⟩
  refine Jb Z d ((JZ) (Ju (λs=>?_) λs=>?_))
  ·
   have g:=s
   intro a Z d
   exact dS rfl Z (.cellS (i:=3) Z d rfl rfl aG rfl) (.tmp Z rfl) (Nl (b:=⟨1,aA 63 l,(aA 281474976710656 (qd l):Int),0,[]⟩) (A:=none) (c:=0) (by rw [Db];exact ZE (λG=>by have h0:=G.2;omega) g) (acK _ _ _ _) (abx _) d.below)
  have g:=s
  intro a Z d
  exact dS rfl Z (.cellS (i:=3) Z d rfl rfl aG rfl) (.tmp Z rfl) (Ht (by rw [Db];exact adu.1 (by rw [g];decide)) rfl (by simp [abV]) d.below)
 have K:vF l=false:=by rw [<-tk3];exact Q
 refine (Jp 3∘fK∘Jj∘aP) λa Z d=>?_
 refine qz (λW X=>Fr W 99 [] ((5,.bool ((zg l).isSome))::(46,.bool false)::aiR (aA 4096 (qd (qd l))) F q r [(4,vP E 0),(3,vP q 0),(0,vB (1:Nat))])/\Mem w X [ah7 q Y (abr (qd (qd (qd l)))) Nr,aiY r (((true&&bA 63 l)&&bA 281474976710656 (qd l))&&bA 4096 (qd (qd l))),aiI F (aA 63 l) (aA 281474976710656 (qd l)),aiI E (aA 63 l) (aA 281474976710656 (qd l))]) ?_ ?_
 ·
  refine Jb Z d ((Vs (.t (.t (.t (.f .n)))) []) λzL=>(nR 0 aG O2∘Vc 1 O1∘Vp [2]) λa Z d e=>?_)
  rcases Z.tf 90 rfl with ⟨o,Z⟩|⟨o,Z⟩
  ·
   refine Vb Z d e ((Vc 3 O0∘Vl 4∘Vp [5,6,7]) λa Z d e=>?_)
   rcases Z.tf 95 rfl with ⟨p,Z⟩|⟨p,Z⟩
   ·
    have H:=eq_of_beq p
    refine Vb Z d e ((nR 8 aG O2∘VI 9 (.t (.t (.t (.f .n)))) (h:=by exact λd=>Hq ⟨1,aA 63 l,(aA 281474976710656 (qd l):Int),0,[]⟩ (wD om om (by simp)) none 0 B _ (hL.mem d T) (d.le T) Rd.nil (by show 0<=_;omega))) λRD hbw=>(Vp [10]) λa Z d e=>?_)
    refine s_on Z 11 rfl (bV Z d 3 rfl rfl rfl rfl rfl aG rfl rfl (by simp [abV]) λm d=>?_)
    refine av (d.pk [0,1,2]) (λe=>?_)
    refine Vb Z d e ((Vp [12]∘Vd∘aI) λa Z d=>?_)
    have Z:=Z.sp 5 (.bool ((zg l).isSome)) rfl (congrArg abP (by have I:=o;rw [tk3,K] at I;cases I))
    exact ⟨Z.sub kr,d.pk [0,1,2,3]⟩
   have H:=ne_of_beq_false p
   refine ap Z (λ_=>e) [8,9,10] (bt 13 [11,12]) [(98,.bool false)] λa Z=>?_
   refine s_on Z 11 rfl (bV Z d 3 rfl rfl rfl rfl rfl aG rfl rfl (by simp [abV]) λm d=>?_)
   refine av (d.pk [0,1,2]) (λe=>?_)
   refine ap Z (λ_=>e) [12] (bt 13 []) [(5,.bool false)] λa Z=>?_
   refine qe kr ?_
   have Z:=Z.sp 5 (.bool ((zg l).isSome)) rfl (congrArg abP (by have I:=o;rw [tk3,K] at I;cases I))
   exact ⟨Z.sub kr,d.pk [0,1,2,3]⟩
  refine ap Z (λ_=>e) [3,4,5,6,7,8,9,10] (bt 13 [11,12]) [(98,.bool false)] λa Z=>?_
  refine s_on Z 11 rfl (bV Z d 3 rfl rfl rfl rfl rfl aG rfl rfl (by simp [abV]) λm d=>?_)
  refine av (d.pk [0,1,2]) (λe=>?_)
  refine ap Z (λ_=>e) [12] (bt 13 []) [(5,.bool false)] λa Z=>?_
  refine qe kr ?_
  have Z:=Z.sp 5 (.bool ((zg l).isSome)) rfl (congrArg abP (by have I:=o;rw [tk3] at I;rw [Nn (l:=l) (λG=>by rw [K] at G;cases G.1),I,adz]))
  exact ⟨Z.sub kr,d.pk [0,1,2,3]⟩
 clear Z d;rintro a CO ⟨Z,d⟩
 refine Jb Z d ((JZ) (Ju (λs=>?_) λs=>?_))
 ·
  have g:=s
  intro a Z d
  exact dS rfl Z (.cellS (i:=3) Z d rfl rfl aG rfl) (.tmp Z rfl) (Nl (b:=⟨1,aA 63 l,(aA 281474976710656 (qd l):Int),0,[]⟩) (A:=none) (c:=0) (by rw [Db];exact ZE (λG=>by rw [K] at G;cases G.1) g) (acK _ _ _ _) (abx _) d.below)
 have g:=s
 intro a Z d
 exact dS rfl Z (.cellS (i:=3) Z d rfl rfl aG rfl) (.tmp Z rfl) (Ht (by rw [Db];exact adu.1 (by rw [g];decide)) rfl (by simp [abV]) d.below)
abbrev aiD:=λa b c d e f=>((7,vP a 0)::(40,.bool false)::(34,.bool false)::(26,.bool false)::(21,.bool false)::(0,.slice (some ⟨b,c,none⟩) d e)::(15,.bool false)::f:List (Nat×ajh))
def q6n (A:ajq) (n cp:Nat) (l:List Nat) (B:Nat) (w:ajg) (R:aR B w) (D:B<=w.heap.size) (hr:Rd w w.heap.size 1 A n (l.map B8)) (hc:n<=cp) (hln:abr l=n) (hn:n<=9223372036854775807) (hl:∀b∈l,b<256):
    Calls abt 134 #[.slice A n cp] w (Rm 73 w (dK l)):=by
 refine (fE Tryz.func134 68) ?_
 refine (JP∘JA ai8) λw2 S=>(Jp 2∘bg 1∘JI (h:=by exact λc=>q1v A n cp l _ (c.old hr) hln hn hl)) λvD E=>(Jp 1∘Jx∘Jx∘bO 2∘bM 2∘aL∘Jj) (Jh (λDk=>?_) λDk=>?_)
 ·
  refine (JT∘JP∘fu ai8∘Jp 1∘JV aG aN) λRF=>(bO 2∘JZ) λa Z c=>?_
  exact iy rfl Z (.cellS (i:=0) Z c rfl rfl aG rfl) (.tmp Z rfl) (.tmp Z rfl) (Bd (q6j om) c.below)
 have C:(bC l).2=0:=by omega
 obtain ⟨v1,v2,v3,v4⟩:=ZI C
 obtain ⟨d,u⟩:∃x,x=l.take (bC l).1:=⟨_,rfl⟩
 have o:Rd w w.heap.size 1 A (bC l).1 (d.map B8):=by rw [u];exact hr.Cu om
 have p:∀b∈d,b<256:=by rw [u];exact wm hl _
 have F:abr d=(bC l).1:=by rw [u,abA];omega
 refine (aP∘aM 2∘Jy (h:=by exact aah bD (j:=(bC l).1) rfl rfl rfl om)∘Jp 1∘eO∘Jq) ?_
 obtain ⟨gA,g,rfl,_⟩:=o.sat 0
 refine (JG∘JQ∘JB∘aM 1∘JI (h:=by exact λc=>Q9 _ (bC l).1 cp d B _ (R.mem c D) (c.le D) (c.old o) om F om p)) λQG E=>(Jp 2∘eO∘Jj) (Ju (λN=>?_) λN=>?_)
 ·
  have hs:q5 d=false:=by simpa using N
  refine (JT∘JP∘fu ai8∘JV aG aN) λG6=>(bO 2∘JZ) λa Z c=>?_
  exact iy rfl Z (.cellS (i:=0) Z c rfl rfl aG rfl) (.tmp Z rfl) (.tmp Z rfl) (Bd (Dc C u (by unfold gB;rw [if_pos hs])) c.below)
 have hs:q5 d=true:=by simpa using N
 refine (JF) λa Z c=>?_
 refine wp_seq ?_
 refine Jb Z c ((Vs .n []) λYM=>(Vp [0]∘Vy 1 (v:= .slice (if cp=4 then some ⟨gA,g,none⟩ else (some ⟨gA,g,none⟩:ajq).map (·.add (4*1))) (6-4) (cp-4)) (h:=by exact aan bD (i:=4) (j:=6) rfl rfl rfl rfl om om)∘Vo (.slice (some ⟨gA,g+4,none⟩) (6-4) (cp-4)) (by simp only [if_neg (show ¬cp=4 by omega),Option.map_some,acL,ac5])∘Vy 2 (v:=vP gA (g+4)) (h:=by exact Yl.arrayAt (k:=2) rfl rfl kr om)∘Vy 3 (v:= .agg #[vB (d.getD 4 0),vB (d.getD 5 0)]) (h:=by exact Pe rfl rfl Bc rfl (λ_ h=>zo3 (k:=4) (l:=d) (h.old o) om))∘Vy 4 (v:= .agg #[vB 113,vB 116]) (h:=by exact Pe rfl rfl Bc rfl (λ_ h=>zdj R h D))∘Vy 5 (v:= .bool (!(((d.getD 4 0:Int)==(113:Int))&& ((d.getD 5 0:Int)==(116:Int))))) (h:=by exact abl rfl rfl rfl kr kr)∘Vp [6]∘Vd∘aI) (Ju (λO=>?_) λO=>?_))
 ·
  simp only [acP,Bool.and_eq_false_iff,beq_eq_false_iff_ne] at O
  have G:¬(d.getD 4 0=113/\d.getD 5 0=116):=by omega
  refine (JT∘JP∘fu ai8∘JV aG aN) λCV=>(bO 2∘JZ) λa Z c=>?_
  exact iy rfl Z (.cellS (i:=0) Z c rfl rfl aG rfl) (.tmp Z rfl) (.tmp Z rfl) (Bd (Dc C u (by unfold gB;rw [if_neg (by rw [hs];decide),if_pos G])) c.below)
 simp only [aem,abH,beq_iff_eq] at O
 have G:d.getD 4 0=113/\d.getD 5 0=116:=by omega
 refine (JF∘aM 1∘Jy (v:=vP gA (g+6)) (h:=by exact Yl.indexAddr (ad:=⟨gA,g,none⟩) (y:=6) (sz:=1) rfl rfl rfl om kr)∘JH (getD_lt p (k:=6) (by first|omega|(simp;omega)))) λhx1=>(Jy (h:=by exact aad o 6 0 (by first|omega|(simp;omega)) rfl rfl)∘Jp 2∘fK∘Jj) (Jh (λhd34=>?_) λhd34=>?_)
 ·
  refine (JT∘JP∘fu ai8∘JV aG aN) λBb=>(bO 2∘JZ) λa Z c=>?_
  exact iy rfl Z (.cellS (i:=0) Z c rfl rfl aG rfl) (.tmp Z rfl) (.tmp Z rfl) (Bd (Dc C u (by unfold gB;rw [if_neg (by rw [hs];decide),if_neg (λL=>L G),if_pos om])) c.below)
 refine (JF∘aM 1∘Jy (v:=vP gA (g+7)) (h:=by exact Yl.indexAddr (ad:=⟨gA,g,none⟩) (y:=7) (sz:=1) rfl rfl rfl om kr)∘JH (getD_lt p (k:=7) (by first|omega|(simp;omega)))) λhx2=>(Jy (h:=by exact aad o 7 0 (by first|omega|(simp;omega)) rfl rfl)∘Jp 2) (Jh (λwE=>?_) λwE=>?_)
 ·
  refine (Jp 1∘Jy (v:=vP gA (g+7)) (h:=by exact Yl.indexAddr (ad:=⟨gA,g,none⟩) (y:=7) (sz:=1) rfl rfl rfl om kr)∘JH (getD_lt p (k:=7) (by first|omega|(simp;omega)))) λhx3=>(Jy (h:=by exact aad o 7 0 (by first|omega|(simp;omega)) rfl rfl)∘Jp 3∘aI∘Jq) λa Z c=>?_
  rcases hp:vG (d.getD 7 0) ((d.take (abr d-4)).drop 8) with _|b
  ·
   refine Jb Z c (Jh (λP=>?_) λP=>?_)
   ·
    have r:d.getD 7 0≠1/\d.getD 7 0≠2:=by omega
    refine (JT∘JP∘fu ai8∘JV aG aN) λT=>(bO 2∘JZ) λa Z c=>?_
    exact iy rfl Z (.cellS (i:=0) Z c rfl rfl aG rfl) (.tmp Z rfl) (.tmp Z rfl) (Bd (Dc C u (by unfold gB;rw [if_neg (by rw [hs];decide),if_neg (λL=>L G),if_neg om,if_pos r])) c.below)
   have r:d.getD 7 0=1\/d.getD 7 0=2:=by omega
   refine (aP) λa Z c=>?_
   refine qz (λU V=>∃(H:Array ajh) (q:Nat),Fr U 68 [] ((8,.bool false)::aiD q gA g ((bC l).1) cp (ah8 6 ((bC l).2) 5 ((bC l).1) [(4,vI 0),(3,vI 0),(2,vP S 0)]))/\Mem w V [.blk q H 85,aia S]/\(H.size=5)/\(∀v∈H.toList,v.oneCell'=true)) ?_ ?_
   ·
    refine Jb Z c ((Vs .n [12]) λQ=>(Vp [0,3,4]∘Vy 1 (v:=vP gA (g+7)) (h:=by exact Yl.indexAddr (ad:=⟨gA,g,none⟩) (y:=7) (sz:=1) rfl rfl rfl om kr)∘VH (getD_lt p (k:=7) (by first|omega|(simp;omega)))) λhx8=>(Vy 2 (h:=by exact aad o 7 0 (by first|omega|(simp;omega)) rfl rfl)∘GI 5 4∘Vy 6 (v:= .slice (if cp=8 then some ⟨gA,g,none⟩ else (some ⟨gA,g,none⟩:ajq).map (·.add (8*1))) (((bC l).1-4)-8) (cp-8)) (h:=by exact aan bD (i:=8) (j:=(bC l).1-4) rfl rfl rfl rfl om om)) λa Z c s=>?_)
    refine zh [7,11] kr rfl ?_
    refine all_cons ?_ ?_
    ·refine qu Z (i:=7) rfl rfl ?_
     refine lT Z [vB (d.getD 7 0),.slice (if cp=8 then some ⟨gA,g,none⟩ else (some ⟨gA,g,none⟩:ajq).map (·.add (8*1))) (((bC l).1-4)-8) (cp-8)] rfl rfl ((qc1 (d.getD 7 0) r _ (((bC l).1-4)-8) (cp-8) ((d.take (abr d-4)).drop 8) B _ (R.mem c D) (c.le D) (c.old (by rw [F];exact o.yG (i:=8) (j:=(bC l).1-4) om om om)) om (by rw [abE,abA];omega) om (yI (wm p _) _)).mono (λ_ _ h=>h.none hp)) ?_
     rintro _ J ⟨⟨H,rfl,t,M⟩,E⟩
     refine ⟨_,rfl,?_⟩
     replace c:=c.call E
     clear Z;intro a Z
     refine av (c.pk [0]) (λs=>?_)
     refine Vb Z c s ((Vp [8]∘Vx 9∘Vx 10∘VA 11 .n ai8) λW q=>λa Z c s=>?_)
     refine s_on Z 12 rfl (bV Z c 0 rfl rfl rfl rfl rfl aG rfl t (M) λm c=>?_)
     refine dR kr ?_
     refine ap Z (cK kr) [13] (bt 14 []) [(8,.bool false)] λa Z=>?_
     refine qe kr ?_
     exact ⟨H,q,Z.sub kr,c.pk [0,1],t,M⟩
    refine all_cons ?_ all_nil
    refine qu Z (i:=11) rfl rfl ?_
    refine iq Z c ai8 ?_
    clear Z c;intro a W q Z c
    refine av (c.pk [1]) (λs=>?_)
    refine s_on Z 7 rfl ?_
    refine lT Z [vB (d.getD 7 0),.slice (if cp=8 then some ⟨gA,g,none⟩ else (some ⟨gA,g,none⟩:ajq).map (·.add (8*1))) (((bC l).1-4)-8) (cp-8)] rfl rfl ((qc1 (d.getD 7 0) r _ (((bC l).1-4)-8) (cp-8) ((d.take (abr d-4)).drop 8) B _ (R.mem c D) (c.le D) (c.old (by rw [F];exact o.yG (i:=8) (j:=(bC l).1-4) om om om)) om (by rw [abE,abA];omega) om (yI (wm p _) _)).mono (λ_ _ h=>h.none hp)) ?_
    rintro _ J ⟨⟨H,rfl,t,M⟩,E⟩
    refine ⟨_,rfl,?_⟩
    replace c:=c.call E
    clear Z;intro a Z
    refine av (c.pk [1]) (λs=>?_)
    refine Vb Z c s ((Vp [8]∘Vx 9∘Vx 10) λa Z c s=>?_)
    refine s_on Z 12 rfl (bV Z c 0 rfl rfl rfl rfl rfl aG rfl t (M) λm c=>?_)
    refine dR kr ?_
    refine ap Z (cK kr) [13] (bt 14 []) [(8,.bool false)] λa Z=>?_
    refine qe kr ?_
    exact ⟨H,q,Z.sub kr,c.pk [0,1],t,M⟩
   clear Z c;rintro a X ⟨H,q,Z,c,t,M⟩
   refine Jb Z c ((bM 2∘bU∘Jj∘JT∘JP∘fu ai8∘JV aG gu) λY=>(bO 2∘JZ) λa Z c=>?_)
   exact iy rfl Z (.cellS (i:=1) Z c rfl rfl aG rfl) (.tmp Z rfl) (.tmp Z rfl) (Bd (Dc C u (by unfold gB;rw [if_neg (by rw [hs];decide),if_neg (λL=>L G),if_neg om,if_neg om,hp])) c.below)
  ·
   refine Jb Z c (Jh (λP=>?_) λP=>?_)
   ·
    have r:d.getD 7 0≠1/\d.getD 7 0≠2:=by omega
    refine (JT∘JP∘fu ai8∘JV aG aN) λT=>(bO 2∘JZ) λa Z c=>?_
    exact iy rfl Z (.cellS (i:=0) Z c rfl rfl aG rfl) (.tmp Z rfl) (.tmp Z rfl) (Bd (Dc C u (by unfold gB;rw [if_neg (by rw [hs];decide),if_neg (λL=>L G),if_neg om,if_pos r])) c.below)
   have r:d.getD 7 0=1\/d.getD 7 0=2:=by omega
   refine (aP) λa Z c=>?_
   refine qz (λU V=>∃(K:ajq) (I:Nat) (q:Nat),Fr U 68 [] ((8,.bool true)::aiD q gA g ((bC l).1) cp (ah8 6 ((bC l).2) 5 ((bC l).1) [(4,vI 0),(3,vI 0),(2,vP S 0)]))/\Mem w V [.blk q (b.cells K I) 85,abq K b.evs I fD 73 11,aia S]/\(abr b.evs<=I)) ?_ ?_
   ·
    refine Jb Z c ((Vs .n [12]) λQ=>(Vp [0,3,4]∘Vy 1 (v:=vP gA (g+7)) (h:=by exact Yl.indexAddr (ad:=⟨gA,g,none⟩) (y:=7) (sz:=1) rfl rfl rfl om kr)∘VH (getD_lt p (k:=7) (by first|omega|(simp;omega)))) λaj2=>(Vy 2 (h:=by exact aad o 7 0 (by first|omega|(simp;omega)) rfl rfl)∘GI 5 4∘Vy 6 (v:= .slice (if cp=8 then some ⟨gA,g,none⟩ else (some ⟨gA,g,none⟩:ajq).map (·.add (8*1))) (((bC l).1-4)-8) (cp-8)) (h:=by exact aan bD (i:=8) (j:=(bC l).1-4) rfl rfl rfl rfl om om)) λa Z c s=>?_)
    refine zh [7,11] kr rfl ?_
    refine all_cons ?_ ?_
    ·refine qu Z (i:=7) rfl rfl ?_
     refine CJ Z c [vB (d.getD 7 0),.slice (if cp=8 then some ⟨gA,g,none⟩ else (some ⟨gA,g,none⟩:ajq).map (·.add (8*1))) (((bC l).1-4)-8) (cp-8)] ((qc1 (d.getD 7 0) r _ (((bC l).1-4)-8) (cp-8) ((d.take (abr d-4)).drop 8) B _ (R.mem c D) (c.le D) (c.old (by rw [F];exact o.yG (i:=8) (j:=(bC l).1-4) om om om)) om (by rw [abE,abA];omega) om (yI (wm p _) _)).mono (λ_ _ h=>h.some hp)) λK I J z c a Z=>?_
     refine av (c.pk [1]) (λs=>?_)
     refine Vb Z c s ((Vp [8]∘Vx 9∘Vx 10∘VA 11 (.f .n) ai8) λW q=>λa Z c s=>?_)
     refine s_on Z 12 rfl (bV Z c 0 rfl rfl rfl rfl rfl aG rfl rfl (uM _ _ _) λm c=>?_)
     refine dR kr ?_
     refine ap Z (cK kr) [13] (bt 14 []) [(8,.bool true)] λa Z=>?_
     refine qe kr ?_
     exact ⟨K,I,q,Z.sub kr,c.pk [0,1,2],z⟩
    refine all_cons ?_ all_nil
    refine qu Z (i:=11) rfl rfl ?_
    refine iq Z c ai8 ?_
    clear Z c;intro a W q Z c
    refine av (c.pk [1]) (λs=>?_)
    refine Vb Z c s ((VK 7 (.f .n) (h:=by exact λc=>(qc1 (d.getD 7 0) r _ (((bC l).1-4)-8) (cp-8) ((d.take (abr d-4)).drop 8) B _ (R.mem c D) (c.le D) (c.old (by rw [F];exact o.yG (i:=8) (j:=(bC l).1-4) om om om)) om (by rw [abE,abA];omega) om (yI (wm p _) _)).mono (λ_ _ h=>h.some hp))) λK I J z=>(Vp [8]∘Vx 9∘Vx 10) λa Z c s=>?_)
    refine s_on Z 12 rfl (bV Z c 1 rfl rfl rfl rfl rfl aG rfl rfl (uM _ _ _) λm c=>?_)
    refine dR kr ?_
    refine ap Z (cK kr) [13] (bt 14 []) [(8,.bool true)] λa Z=>?_
    refine qe kr ?_
    exact ⟨K,I,q,Z.sub kr,c.pk [1,0,2],z⟩
   clear Z c;rintro a X ⟨K,I,q,Z,c,z⟩
   refine Jb Z c ((bM 2∘bU∘Jj∘aP∘JP∘eF aG O0∘Jp 1∘JV aG iE (h1:=by exact uM _ _ _)) λBf=>(bO 2∘JZ) λa Z c=>?_)
   exact iy rfl Z (.cellS (i:=2) Z c rfl rfl aG rfl) (.tmp Z rfl) (.tmp Z rfl) (ZF (Rn (e:=0) C u (by unfold gB;rw [if_neg (by rw [hs];decide),if_neg (λL=>L G),if_neg om,if_neg om,hp])) (c.own (i:=1) rfl) z c.below)
 have r:d.getD 7 0=1\/d.getD 7 0=2:=by omega
 refine (Jp 6∘aI∘Jq) λa Z c=>?_
 rcases hp:vG (d.getD 7 0) ((d.take (abr d-4)).drop 8) with _|b
 ·
  refine Jb Z c ((JG∘aP) λa Z c=>?_)
  refine qz (λU V=>∃(H:Array ajh) (q:Nat),Fr U 68 [] ((8,.bool false)::aiD q gA g ((bC l).1) cp (ah8 6 ((bC l).2) 5 ((bC l).1) [(4,vI 0),(3,vI 0),(2,vP S 0)]))/\Mem w V [.blk q H 85,aia S]/\(H.size=5)/\(∀v∈H.toList,v.oneCell'=true)) ?_ ?_
  ·
   refine Jb Z c ((Vs .n [12]) λQ=>(Vp [0,3,4]∘Vy 1 (v:=vP gA (g+7)) (h:=by exact Yl.indexAddr (ad:=⟨gA,g,none⟩) (y:=7) (sz:=1) rfl rfl rfl om kr)∘VH (getD_lt p (k:=7) (by first|omega|(simp;omega)))) λhx16=>(Vy 2 (h:=by exact aad o 7 0 (by first|omega|(simp;omega)) rfl rfl)∘GI 5 4∘Vy 6 (v:= .slice (if cp=8 then some ⟨gA,g,none⟩ else (some ⟨gA,g,none⟩:ajq).map (·.add (8*1))) (((bC l).1-4)-8) (cp-8)) (h:=by exact aan bD (i:=8) (j:=(bC l).1-4) rfl rfl rfl rfl om om)) λa Z c s=>?_)
   refine zh [7,11] kr rfl ?_
   refine all_cons ?_ ?_
   ·refine qu Z (i:=7) rfl rfl ?_
    refine lT Z [vB (d.getD 7 0),.slice (if cp=8 then some ⟨gA,g,none⟩ else (some ⟨gA,g,none⟩:ajq).map (·.add (8*1))) (((bC l).1-4)-8) (cp-8)] rfl rfl ((qc1 (d.getD 7 0) r _ (((bC l).1-4)-8) (cp-8) ((d.take (abr d-4)).drop 8) B _ (R.mem c D) (c.le D) (c.old (by rw [F];exact o.yG (i:=8) (j:=(bC l).1-4) om om om)) om (by rw [abE,abA];omega) om (yI (wm p _) _)).mono (λ_ _ h=>h.none hp)) ?_
    rintro _ J ⟨⟨H,rfl,t,M⟩,E⟩
    refine ⟨_,rfl,?_⟩
    replace c:=c.call E
    clear Z;intro a Z
    refine av (c.pk [0]) (λs=>?_)
    refine Vb Z c s ((Vp [8]∘Vx 9∘Vx 10∘VA 11 .n ai8) λW q=>λa Z c s=>?_)
    refine s_on Z 12 rfl (bV Z c 0 rfl rfl rfl rfl rfl aG rfl t (M) λm c=>?_)
    refine dR kr ?_
    refine ap Z (cK kr) [13] (bt 14 []) [(8,.bool false)] λa Z=>?_
    refine qe kr ?_
    exact ⟨H,q,Z.sub kr,c.pk [0,1],t,M⟩
   refine all_cons ?_ all_nil
   refine qu Z (i:=11) rfl rfl ?_
   refine iq Z c ai8 ?_
   clear Z c;intro a W q Z c
   refine av (c.pk [1]) (λs=>?_)
   refine s_on Z 7 rfl ?_
   refine lT Z [vB (d.getD 7 0),.slice (if cp=8 then some ⟨gA,g,none⟩ else (some ⟨gA,g,none⟩:ajq).map (·.add (8*1))) (((bC l).1-4)-8) (cp-8)] rfl rfl ((qc1 (d.getD 7 0) r _ (((bC l).1-4)-8) (cp-8) ((d.take (abr d-4)).drop 8) B _ (R.mem c D) (c.le D) (c.old (by rw [F];exact o.yG (i:=8) (j:=(bC l).1-4) om om om)) om (by rw [abE,abA];omega) om (yI (wm p _) _)).mono (λ_ _ h=>h.none hp)) ?_
   rintro _ J ⟨⟨H,rfl,t,M⟩,E⟩
   refine ⟨_,rfl,?_⟩
   replace c:=c.call E
   clear Z;intro a Z
   refine av (c.pk [1]) (λs=>?_)
   refine Vb Z c s ((Vp [8]∘Vx 9∘Vx 10) λa Z c s=>?_)
   refine s_on Z 12 rfl (bV Z c 0 rfl rfl rfl rfl rfl aG rfl t (M) λm c=>?_)
   refine dR kr ?_
   refine ap Z (cK kr) [13] (bt 14 []) [(8,.bool false)] λa Z=>?_
   refine qe kr ?_
   exact ⟨H,q,Z.sub kr,c.pk [0,1],t,M⟩
  clear Z c;rintro a X ⟨H,q,Z,c,t,M⟩
  refine Jb Z c ((bM 2∘bU∘Jj∘JT∘JP∘fu ai8∘JV aG gu) λY=>(bO 2∘JZ) λa Z c=>?_)
  exact iy rfl Z (.cellS (i:=1) Z c rfl rfl aG rfl) (.tmp Z rfl) (.tmp Z rfl) (Bd (Dc C u (by unfold gB;rw [if_neg (by rw [hs];decide),if_neg (λL=>L G),if_neg om,if_neg om,hp])) c.below)
 ·
  refine Jb Z c ((JG∘aP) λa Z c=>?_)
  refine qz (λU V=>∃(K:ajq) (I:Nat) (q:Nat),Fr U 68 [] ((8,.bool true)::aiD q gA g ((bC l).1) cp (ah8 6 ((bC l).2) 5 ((bC l).1) [(4,vI 0),(3,vI 0),(2,vP S 0)]))/\Mem w V [.blk q (b.cells K I) 85,abq K b.evs I fD 73 11,aia S]/\(abr b.evs<=I)) ?_ ?_
  ·
   refine Jb Z c ((Vs .n [12]) λQ=>(Vp [0,3,4]∘Vy 1 (v:=vP gA (g+7)) (h:=by exact Yl.indexAddr (ad:=⟨gA,g,none⟩) (y:=7) (sz:=1) rfl rfl rfl om kr)∘VH (getD_lt p (k:=7) (by first|omega|(simp;omega)))) λaj3=>(Vy 2 (h:=by exact aad o 7 0 (by first|omega|(simp;omega)) rfl rfl)∘GI 5 4∘Vy 6 (v:= .slice (if cp=8 then some ⟨gA,g,none⟩ else (some ⟨gA,g,none⟩:ajq).map (·.add (8*1))) (((bC l).1-4)-8) (cp-8)) (h:=by exact aan bD (i:=8) (j:=(bC l).1-4) rfl rfl rfl rfl om om)) λa Z c s=>?_)
   refine zh [7,11] kr rfl ?_
   refine all_cons ?_ ?_
   ·refine qu Z (i:=7) rfl rfl ?_
    refine CJ Z c [vB (d.getD 7 0),.slice (if cp=8 then some ⟨gA,g,none⟩ else (some ⟨gA,g,none⟩:ajq).map (·.add (8*1))) (((bC l).1-4)-8) (cp-8)] ((qc1 (d.getD 7 0) r _ (((bC l).1-4)-8) (cp-8) ((d.take (abr d-4)).drop 8) B _ (R.mem c D) (c.le D) (c.old (by rw [F];exact o.yG (i:=8) (j:=(bC l).1-4) om om om)) om (by rw [abE,abA];omega) om (yI (wm p _) _)).mono (λ_ _ h=>h.some hp)) λK I J z c a Z=>?_
    refine av (c.pk [1]) (λs=>?_)
    refine Vb Z c s ((Vp [8]∘Vx 9∘Vx 10∘VA 11 (.f .n) ai8) λW q=>λa Z c s=>?_)
    refine s_on Z 12 rfl (bV Z c 0 rfl rfl rfl rfl rfl aG rfl rfl (uM _ _ _) λm c=>?_)
    refine dR kr ?_
    refine ap Z (cK kr) [13] (bt 14 []) [(8,.bool true)] λa Z=>?_
    refine qe kr ?_
    exact ⟨K,I,q,Z.sub kr,c.pk [0,1,2],z⟩
   refine all_cons ?_ all_nil
   refine qu Z (i:=11) rfl rfl ?_
   refine iq Z c ai8 ?_
   clear Z c;intro a W q Z c
   refine av (c.pk [1]) (λs=>?_)
   refine Vb Z c s ((VK 7 (.f .n) (h:=by exact λc=>(qc1 (d.getD 7 0) r _ (((bC l).1-4)-8) (cp-8) ((d.take (abr d-4)).drop 8) B _ (R.mem c D) (c.le D) (c.old (by rw [F];exact o.yG (i:=8) (j:=(bC l).1-4) om om om)) om (by rw [abE,abA];omega) om (yI (wm p _) _)).mono (λ_ _ h=>h.some hp))) λK I J z=>(Vp [8]∘Vx 9∘Vx 10) λa Z c s=>?_)
   refine s_on Z 12 rfl (bV Z c 1 rfl rfl rfl rfl rfl aG rfl rfl (uM _ _ _) λm c=>?_)
   refine dR kr ?_
   refine ap Z (cK kr) [13] (bt 14 []) [(8,.bool true)] λa Z=>?_
   refine qe kr ?_
   exact ⟨K,I,q,Z.sub kr,c.pk [1,0,2],z⟩
  clear Z c;rintro a X ⟨K,I,q,Z,c,z⟩
  refine Jb Z c ((bM 2∘bU∘Jj∘aP∘JP∘eF aG O0∘Jp 1∘JV aG iE (h1:=by exact uM _ _ _)) λBf=>(bO 2∘JZ) λa Z c=>?_)
  exact iy rfl Z (.cellS (i:=2) Z c rfl rfl aG rfl) (.tmp Z rfl) (.tmp Z rfl) (ZF (Rn (e:=0) C u (by unfold gB;rw [if_neg (by rw [hs];decide),if_neg (λL=>L G),if_neg om,if_neg om,hp])) (c.own (i:=1) rfl) z c.below)
def Nu {d:Bk} (h:(b.kind:Int)≠d.kind\/(b.cpu:Int)≠d.cpu\/b.lost≠d.lost\/b.next≠d.next):decide (b=d)=false:=by
 rw [decide_eq_false]
 rintro rfl
 omega
def zdz {d:Bk} (h1:b.kind=d.kind) (a:b.cpu=d.cpu) (c:b.lost=d.lost) (e:b.next=d.next):decide (b.evs=d.evs)=decide (b=d):=by
 rw [ab3,decide_eq_true_eq,decide_eq_true_eq]
 cases b;cases d
 simp only at h1 a c e
 subst h1;subst a;subst c;subst e
 simp
def zd0 (b d:Bk) (A k:ajq) (c l:Nat) (w:ajg) (hr:Rd w w.heap.size 11 A (abr b.evs) (b.evs.flatMap fD)) (j:Rd w w.heap.size 11 k (abr d.evs) (d.evs.flatMap fD)) (o:abr b.evs<=1000000):
    Calls abt 41 #[.agg (b.cells A c),.agg (d.cells k l)] w (Is w (.bool (decide (b=d)))):=by
 refine (iQ Tryz.func41 38) ?_
 refine (JP∘JE) λp q=>(JE) λr s=>(Jp 1∘Jr∘Jg 0 O1∘Jg 0 O0∘Jp 2) (Je (λe=>?_) λe=>?_)
 ·
  refine (Jg 1 O1∘Jg 1 O0∘Jp 3) (Je (λf=>?_) λf=>?_)
  ·
   refine (Jg 2 O1∘Jg 2 O0∘Jp 3) (Je (λg=>?_) λg=>?_)
   ·
    refine (Jg 3 O1∘Jg 3 O0∘Jp 3) (Je (λi=>?_) λi=>?_)
    ·
     exact (Jg 4 O1∘Jg 4 O0∘JI (h:=by exact λa=>q6d _ _ _ _ _ _ b.evs d.evs _ (a.old hr) (a.old j) rfl rfl om)) λm n=>(Jp 2∘aI∘aQ∘aW) λa=>by exact ⟨by rw [zdz om om om om],a.below⟩
    exact (Jp 7∘aI∘aQ∘aW) λa=>by exact ⟨by rw [Nu om],a.below⟩
   exact (Jv 14 [aiH]∘aI∘aQ∘aW) λa=>by exact ⟨by rw [Nu om],a.below⟩
  exact (Jv 21 [aiH]∘aI∘aQ∘aW) λa=>by exact ⟨by rw [Nu om],a.below⟩
 exact (Jv 28 [aiH]∘fK∘aQ∘aW) λa=>by exact ⟨by rw [Nu om],a.below⟩
def mI.as {R':List Nat} (h:mI w er R r W) (h1:er=uI) (a:R=R'):mI w uI R' r W:=by subst h1;subst a;exact h
def q6o (b:Bk) (a:b.Ok) (A:ajq) (c B:Nat) (w:ajg) (d:aR B w) (e:B<=w.heap.size) (hr:Rd w w.heap.size 11 A (abr b.evs) (b.evs.flatMap fD)) (f:abr b.evs<=1000000) {er:Nat} {R:List Nat} (h1:b.err=er) (g:b.out=R):Calls abt 106 #[.agg (b.cells A c)] w (mI w er R):=
 (ZH b a A c B w d e hr f).mono λ_ _ h=>h.as h1 g
def zd1 (A:ajq) (n cp:Nat) (l:List Nat) (B:Nat) (w:ajg) (f:aR B w) (g:B<=w.heap.size) (hr:Rd w w.heap.size 1 A n (l.map B8)) (hc:n<=cp) (a:abr l=n) (i:n<=9223372036854775807) (j:∀b∈l,b<256) {b:Bk} {m er:Nat} (h:dK l=(b,m,er)):
  Calls abt 134 #[.slice A n cp] w λr d=>(∃A c,r= .returned (.tuple #[.agg (b.cells A c),.int .i64 (m:Int),.int .i64 (er:Int)])/\d.ownsRow w.heap.size 73 11 (.slice A (abr b.evs) c) (abr b.evs) (b.evs.flatMap fD)/\abr b.evs<=c)/\Below w.heap.size w d:=
 (q6n A n cp l B w f g hr hc a i j).mono λ_ _ e=>by rw [h] at e;exact e
structure Sb where
 e:Bool
 cpu:Nat
 lost:Nat
 b:Bs
 l:List Sm
structure Sb.Ok (x:Sb):Prop where
 cpu:x.cpu<256
 lost:x.lost<4294967296
 b:x.b.Ok
 l:∀y∈x.l,y.Ok
def Sb.cells (x:Sb) (A:ajq) (c:Nat):Array ajh:= #[.bool x.e,vB (x.cpu:Int),vW (x.lost:Int),vI x.b.seq,vI x.b.time,.slice A (abr x.l) c]
def zo6 (x:Sb) (A:ajq) (c:Nat):∀v∈(x.cells A c).toList,v.oneCell'=true:=by intro v a;simp [Sb.cells] at a;rcases a with rfl|rfl|rfl|rfl|rfl|rfl<;>rfl
def wH:SI abt 113 6:=⟨by kernel_rfl,by kernel_rfl⟩
def Sb.es (x:Sb):List Ev:=mg x.cpu x.b (x.l.take 60)
def Sb.made (x:Sb):Bk:=if x.e=true then ⟨2,0,0,1+gI x.b.seq 281474976710657,[]⟩ else ⟨1,x.cpu%64,if abr x.es=0/\x.lost=0 then 1 else (x.lost:Int),0,x.es⟩
def q62 (w:ajg) (b:Bk) (r:ajk) (a:ajg):Prop:=
 (∃A c,r= .returned (.agg (b.cells A c))/\a.ownsRow w.heap.size 73 11 (.slice A (abr b.evs) c) (abr b.evs) (b.evs.flatMap fD)/\abr b.evs<=c)/\Below w.heap.size w a
def Nz {d:Bk} (h:b=d) (a:W.ownsRow w.heap.size 73 11 (.slice A (abr d.evs) c) (abr d.evs) (d.evs.flatMap fD)) (hc:abr d.evs<=c) (hb:Below w.heap.size w W):q62 w b (.returned (.agg (d.cells A c))) W:=by
 subst h;exact ⟨⟨A,c,rfl,a,hc⟩,hb⟩
def qs7 (x:Int):0<=gI x 281474976710657/\gI x 281474976710657<=281474976710656:=by unfold gI;rw [if_neg om];omega
def RV {x:Sb} (h:x.Ok):∀y∈x.l.take 60,y.Ok:=λy a=>h.l y (aco a)
def zd6 {x:Sb} (h:x.Ok):Chain (x.cpu%64) none x.b.based x.es:=qv5 h.cpu x.b (RV h)
theorem zo7 (x:Sb):abr x.es<=60:=by grind [Sb.es,q1x,mg]
def qys:∀(es:List Ev) (cpu:Nat) (p:Option Ev) (b:Bs),Chain cpu p b es->∀e∈es,e.Ok/\e.cpu=cpu
 |[],_,_,_,_,e,a=>by cases a
 |x::r,cpu,p,b,h,e,a=>by
  obtain ⟨c,d,g,f⟩:=h
  rcases abX.1 a with rfl|a
  ·exact ⟨c.ok,d⟩
  ·exact qys r cpu _ _ f e a
def qs8 {x:Sb} (h:x.Ok):x.made.Ok/\x.made.err=0/\abr x.made.evs<=60:=by
 unfold Sb.made
 split
 ·have r:=qs7 x.b.seq
  have c:Bk.Ok ⟨2,0,0,1+gI x.b.seq 281474976710657,[]⟩:=⟨by show 2<256;decide,by show 0<256;decide,by unfold aX;simp,by unfold aX;show _<=1+gI _ _/\1+gI _ _<=_;omega,by intro e l;cases l⟩
  have m:Bk.fits ⟨2,0,0,1+gI x.b.seq 281474976710657,[]⟩=true:=by
   unfold Bk.fits
   rw [if_neg (by show ¬2=1;omega),if_pos rfl]
   unfold Bk.vE
   rw [decide_eq_true_eq]
   exact ⟨by show 1<=1+gI _ _;omega,by show 1+gI _ _<=_;omega,rfl,rfl,rfl⟩
  exact ⟨c,ZL m (by have:=Rh ⟨2,0,0,1+gI x.b.seq 281474976710657,[]⟩;simp only [aes] at this;omega),by show 0<=60;omega⟩
 ·have d:=zd6 h
  have f:=qys _ _ _ _ d
  have p:=zo7 x
  have n:=h.lost
  have q:=RH x.b
  have g:=(Zh q.1 d).1
  obtain ⟨a,o,i,j⟩:∃a:Int,(if abr x.es=0/\x.lost=0 then 1 else (x.lost:Int))=a/\(0<=a/\a<=4294967296)/\(abr x.es=0->0<a):=by
   refine ⟨_,rfl,?_,?_⟩
   ·split<;>omega
   ·intro k;split<;>omega
  rw [o]
  have c:Bk.Ok ⟨1,x.cpu%64,a,0,x.es⟩:=⟨by show 1<256;decide,by show x.cpu%64<256;omega,by unfold aX;show _<=a/\a<=_;omega,by unfold aX;simp,λe l=>(f e l).1⟩
  have m:Bk.fits ⟨1,x.cpu%64,a,0,x.es⟩=true:=by
   unfold Bk.fits
   rw [if_pos rfl]
   unfold Bk.qB
   rw [decide_eq_true_eq]
   refine ⟨by show (jo x.es).2=0;rw [g],by show x.cpu%64<64;omega,i.1,by show a<=_;omega,rfl,?_⟩
   by_cases k:abr x.es=0
   ·rw [Zn k,decide_eq_true_eq];exact j k
   ·rw [Zm k,decide_eq_true_eq]
    exact (f _ (qf Ev.zero om)).2
  exact ⟨c,ZL m (by have:=Rh ⟨1,x.cpu%64,a,0,x.es⟩;simp only at this;omega),p⟩
theorem zic (l:List Sm):l.take (abr (l.take 60))=l.take 60:=by grind
def Ic (n:Nat) (l:List Sm) (h:abr l=n):abT .i64 (if ((60:Int)<(n:Int)) then 60 else (n:Int))=vI ((abr (l.take 60):Nat):Int):=by
 congr 1
 rw [abA]
 split<;>omega
def VN (s:dG) (c:s.st.ay.Ok) (f:cZ s.st) (hc:gD s.st) (w:ajg) (g:fC w s.st):
    Calls abt 44 #[.agg s.cells] w (Is w (vI (dP s:Int))):=by
 refine (fE Tryz.func44 17) ?_
 refine (JP∘JE) λl g1=>(bO 1∘JQ∘JB∘JP∘Jg 0 O0∘Jp 2) (Ji (λd=>?_) λd=>?_)
 ·
  exact (Jp 5∘aI∘Jj∘JT∘bB 1∘aW) λb=>by exact ⟨by rw [qy7 om];rfl,b.below⟩
 refine (Jg 0 O0∘Jp 3∘aI∘Jj) (Ji (λe=>?_) λe=>?_)
 ·
  exact (JT∘bB 1∘aW) λb=>by exact ⟨by rw [qy7 om];rfl,b.below⟩
 refine (JF∘JP∘Jf 1∘Jy (v:= .agg #[vI s.st.au,vQ s.st.aj,abo s.st.gA s.st.gs s.st.gc,abo s.st.lA s.st.cl s.st.lc,abo s.st.uA s.st.cu s.st.uc,abo s.st.tA s.st.ts s.st.tc,abo s.st.sA s.st.rs s.st.sc]) (h:=by exact Pe rfl rfl eX rfl (λ_ h=>h.sub (i:=0) rfl 1 rfl))∘Jo (.agg s.st.cells) (by exact rfl)∘JI (h:=by exact λb=>qwn s.st c f _ (g.old b))) λj k=>(Jp 2∘fK∘Jj) (Ju (λa=>?_) λa=>?_)
 ·
  exact (JT∘bB 1∘aW) λb=>by exact ⟨by rw [q7q om (by simpa using a)];rfl,b.below⟩
 exact (aP∘bB 1∘aW) λb=>by exact ⟨by rw [qtk om (by simpa using a)];rfl,b.below⟩
abbrev aiZ:=λa b c d e=>(abp a b c bG 41 1::.blk d #[abo a b c] 117::e:List ajr)
def qun (s:dG) (t:s.st.ay.Ok) (A:cZ s.st) (hc:gD s.st) (w:ajg) (C:fC w s.st):
    Calls abt 107 #[.agg s.cells] w (SC w (dP s) (kJ s)):=by
 refine Cz (vs:=[.agg s.cells]) Tryz.func107 rfl rfl kr (σ0:=[(0,.agg s.cells)]) rfl ?_
 intro a Z
 have b:=Mem.start w
 refine Jb Z b ((JP∘JE) λD g1=>(bO 2∘JQ∘JP∘eF zr O0∘JI (h:=by exact λb=>VN s t A hc _ (C.old b))) λP G=>(Jp 1∘bU∘bg 2∘aL∘Jj) (Jh (λu=>?_) λu=>?_))
 ·
  refine (JT∘bB 3) λa Z b=>?_
  refine CB ?_
  exact qJ rfl Z rfl rfl (q2i _ rfl (zel om) b.below)
 have m:dP s=0:=by omega
 have n:=Fu m
 refine (aP∘JP∘JA #[vN]) λH k=>(Jq∘JC (h:=by exact λb=>b.nil 41 1)∘JG∘JQ∘JP∘eF zr O2∘JL (h:=by exact λb=>zal s _)) ?_
 rintro b _ I ⟨J,gp,rfl,hm⟩
 refine ⟨_,rfl,_,b.join hm,?_⟩
 refine (aL∘Jj∘JB) λa Z b=>?_
 refine Cy Z b (λF=>∃(q:List Nat) (c:ajq) (co:Nat),(q=dV 7 (aJ s))/\(abr q<=co)/\F=(aiZ c q co k [.blk g1 s.cells 50])) (λ_ _=>False) rfl kr ?_ ?_ (λ_ _ _ _ _ h=>h.elim)
 ·
  clear Z b;intro o B g D x b
  have K:q0b abt w o s (λi F=>∃(q:List Nat) (c:ajq) (co:Nat),(q=dV i (aJ s))/\(abr q<=co)/\F=(.obj o (.loop (g .ready none)):: .obj B (.deferred (some [])):: (aiZ c q co k [.blk g1 s.cells 50]))):=by
   rintro i F fr Q y cr ⟨q,c,co,p,j,rfl⟩ hi L b
   replace b:=b.pt (fs':=(ah5 o (g .ready none)::abp y (aJ s i) cr bG 41 1::ahY B::aiZ c q co k (.blk g1 s.cells 50::fr))) 6 [1,0,2,3,4,5]
   refine EO (v1:= .string (qb i)) (v2:= .slice y (abr (aJ s i)) cr) x b de de λa Z=>?_
   refine qk ?_
   refine Jb Z b ((Jp 1∘Jq) λa Z b=>?_)
   have M:abr q<=600000:=by rw [p];exact qop n om
   have N:=zek n hi
   refine ⟨(abp y (aJ s i) cr bG 41 1::ahY B::aiZ c q co k (.blk g1 s.cells 50::fr)),b.pt (fs':=(ah5 o (g .ready none)::abp y (aJ s i) cr bG 41 1::ahY B::aiZ c q co k (.blk g1 s.cells 50::fr))) 6 [0,1,2,3,4,5],λR b=>?_⟩
   refine wpIn_block ?_
   refine qk ?_
   refine Jb Z b ((Jc O4∘Jp 1∘JD ((aJ s i).map bG) 3 (λ_ _=>oI) kT (hr:=by exact λb=>b.rd (i:=1) rfl) (h1:=by exact wQ _)) λO d e l=>(JW qK aN) λE=>(oK∘Jq) λa Z b=>?_)
   have f:abr q+(abr (aJ s i))=abr (q++(aJ s i)):=oo rfl
   rw [f] at l
   replace b:=b.bq (i:=3) (ys:=(q++(aJ s i)).map bG) rfl f (List.map_append.symm)
   rw [f] at b
   refine ⟨(ahY B::aiZ d (q++(aJ s i)) e k (.blk g1 s.cells 50::fr)),b.pt (fs':=(ah5 o (g .busy none)::ahY B::aiZ d (q++(aJ s i)) e k (.blk g1 s.cells 50::fr))) 6 [0,2,3,4,5],λH b=>?_⟩
   exact ⟨(ah5 o (g .ready none)::ahY B::aiZ d (q++(aJ s i)) e k (.blk g1 s.cells 50::[])),b,rfl,⟨(q++(aJ s i)),d,e,by rw [p,qy],l,rfl⟩⟩
  refine (q3y w D J gp o s t A C hc n _ _ K ⟨[],none,0,rfl,abx _,rfl⟩ (b.pk [2,3,0,1,4,5,6])).mono ?_
  rintro r S ⟨v,rfl,T,z,⟨q,c,co,p,j,rfl⟩⟩
  exact ⟨v,rfl,.inl ⟨_,⟨q,c,co,p,j,rfl⟩,z⟩⟩
 clear Z b;rintro B a U _ ⟨q,c,co,p,j,rfl⟩ Z b
 refine Jb Z b ((JG∘JP∘Jc O2∘bO 2∘JZ) λa Z b=>?_)
 refine yH Z b (i:=0) rfl λa V Z b=>?_
 exact qJ rfl Z rfl rfl (q2h (uI:=0) m.symm (by rw [Fv m,p];rfl) (b.own (i:=1) rfl) j b.below)
def Ph:EI abt 298 435 (.agg #[.string (ByteArray.mk #[]),vI 0,vI 0]) 3 32:=⟨by kernel_rfl,by kernel_rfl,rfl,by omega⟩
def q3z (s:dG) (f:s.st.ay.Ok) (r:cZ s.st) (hc:gD s.st) (B:Nat) (w:ajg) (v:aR B w) (t:B<=w.heap.size) (x:fC w s.st):
    Calls abt 46 #[.agg s.cells] w (mI w (dP s) (dD s)):=by
 refine (fE Tryz.func46 22) ?_
 refine (JP∘JE) λO g1=>(Jp 2∘Jr∘eF zr O0∘JK (h:=by exact λc=>qun s f r hc _ (x.old c))) λy z P A=>(Jp 1∘Jx∘Jx∘bO 2∘bM 2∘aL∘Jj) (Jh (λg=>?_) λg=>?_)
 ·
  exact (JT∘bB 3∘bW) λc=>q2j _ rfl (q7r om) c.below
 have d:dP s=0:=by omega
 have j:=Fu d
 have k:=SA j
 rw [<-Fv d] at k
 have C:=zen j
 have l:=zem s
 rw [<-Fv d] at l
 have D:=vg (kJ s)
 refine (aP∘JP∘JU bD #[vB 113,vB 115,vB 1]) λE F=>λa Z c=>?_
 refine fo Z 1 rfl rfl ?_
 refine zig Z c 0 (e:=5) rfl rfl rfl kr kr rfl de ?_
 clear Z c;intro a G Z c
 refine Jb Z c ((Jp 1∘JK (h:=by exact λc=>M0 y (abr (kJ s)) z (kJ s) _ (c.rd (i:=1) rfl) (by rw [Fv d];exact qy6 f r) (by have:=k;omega))) λH I J u=>λa Z c=>?_)
 refine fo Z 4 rfl rfl ?_
 refine XR Z c (xs:=([113,115,1]:List Nat).map B8) (news:=((kJ s).flatMap ak).map B8) rfl bD rfl rfl (c.wR (i:=1) (size:=1) (n:=3) rfl rfl) (c.rd (i:=0) rfl) om om (λh=>by cases h) om om rfl de ?_
 clear Z c;intro a K m o Z c p
 have b:3+abr ((kJ s).flatMap ak)=abr (bS s):=zpn d
 rw [b] at p
 replace c:=c.bq (i:=0) (ys:=(bS s).map B8) rfl b (q2k d)
 replace Z:=Z.sp 18 (vS m (abr (bS s)) o) rfl (iZ b)
 exact Jb Z c ((JK (h:=by exact λc=>Q8 (some ⟨m,0,none⟩) (abr (bS s)) o (bS s) B _ (v.mem c t) (c.le t) (c.rd (i:=0) rfl) rfl om (NT s))) λL M N q=>(Jx∘Jx∘bO 2∘JZ∘bW) λc=>q2l (uI:=0) d.symm (yR d).symm (c.own (i:=0) rfl) q c.below)
def zhg (A:ajq) (c:Nat) (l:List Gr) (D:ajq) (r:Nat) (m:List Gr) (w:ajg) (hr:Rd w w.heap.size 2 A (abr l) (l.flatMap fU)) (g:Rd w w.heap.size 2 D (abr m) (m.flatMap fU)) (B:abr l<=1000000) (u:abr m<=1000000):
    Calls abt 113 #[abo A l c,abo D m r] w (Is w (.bool (decide (l=m)))):=by
 refine (iQ Tryz.func113 26) ?_
 refine (cB 1∘bM 1∘Jl∘Jp 1∘Jl∘Jp 1∘fK∘Jj) (Jh (λd=>?_) λd=>?_)
 ·
  exact (JT∘bB 1∘aW) λb=>eH (λe=>by rw [e] at d;exact d rfl) b.below
 have q:abr l=abr m:=by omega
 refine (aP∘bM 1∘Jl∘bO 1∘JB) λa Z b=>?_
 refine qg (λs x y=>∃(k:Nat),(k<=abr l)/\(∀i,i<k->l.getD i Gr.zero=m.getD i Gr.zero)/\s=abr l-k/\Fr x 26 [] (ah8 13 k 12 (abr l) [(10,.bool false),aiH,(0,abo A l c),(1,abo D m r)])/\Mem w y []) (m:=abr l-0) ⟨0,abC _,IZ,rfl,Z.sub kr,b.pk []⟩ ?_
 clear Z b;rintro s a C ⟨k,E,t,rfl,Z,b⟩
 refine Jb Z b ((cB 1∘JQ) (Ji (λj=>?_) λj=>?_))
 ·
  have o:k<abr l:=by omega
  have p:k<abr m:=by omega
  obtain ⟨gA,F,rfl,_⟩:=hr.sat k (hk:=o)
  obtain ⟨G,H,rfl,_⟩:=g.sat k (hk:=p)
  refine (eP∘aM 2∘aL∘Jj) λa Z b=>?_
  refine wp_seq ?_
  refine Jb Z b ((Vs .n []) λz=>(Vp [0,1,4,5]∘oL 2 k 2∘EW 3 Gr.cells qC hr kI k Gr.zero (hk:=o)∘oL 6 k 2∘EW 7 Gr.cells qC g kI k Gr.zero (hk:=p)∘Vy 8 (v:= .bool (!(decide ((l.getD k Gr.zero)=(m.getD k Gr.zero))))) (h:=by exact aax rfl rfl rfl (qyz (l.getD k Gr.zero) (m.getD k Gr.zero)))∘Vd∘aI) (nQ (λf=>?_) λf=>?_))
  ·
   exact (JT∘bB 1∘aW) λb=>eH (λe=>f (by rw [e])) b.below
  refine (aP∘JR∘dx 1∘Jp 1∘aL∘Jq) λa Z b=>?_
  exact ⟨_,om,k+1,by omega,I4 t (f),rfl,Z.sub kr,b.pk []⟩
 exact (JF∘JX∘JG∘bB 1∘aW) λb=>Fh (IY Gr.zero q (λi hi=>t i om)) b.below
def qu2 (A:ajq) (c:Nat) (l:List Int) (D:ajq) (r:Nat) (m:List Int) (w:ajg) (hr:Rd w w.heap.size 1 A (abr l) (l.map aZ)) (g:Rd w w.heap.size 1 D (abr m) (m.map aZ)) (z:abr l<=1000000) (u:abr m<=1000000):
    Calls abt 114 #[abo A l c,abo D m r] w (Is w (.bool (decide (l=m)))):=by
 refine (iQ Tryz.func114 26) ?_
 refine (cB 1∘bM 1∘Jl∘Jp 1∘Jl∘Jp 1∘fK∘Jj) (Jh (λd=>?_) λd=>?_)
 ·
  exact (JT∘bB 1∘aW) λb=>eH (λe=>by rw [e] at d;exact d rfl) b.below
 have q:abr l=abr m:=by omega
 refine (aP∘bM 1∘Jl∘bO 1∘JB) λa Z b=>?_
 refine qg (λs v x=>∃(k:Nat),(k<=abr l)/\(∀i,i<k->l.getD i 0=m.getD i 0)/\s=abr l-k/\Fr v 26 [] (ah8 13 k 12 (abr l) [(10,.bool false),aiH,(0,abo A l c),(1,abo D m r)])/\Mem w x []) (m:=abr l-0) ⟨0,abC _,IZ,rfl,Z.sub kr,b.pk []⟩ ?_
 clear Z b;rintro s a B ⟨k,C,t,rfl,Z,b⟩
 refine Jb Z b ((cB 1∘JQ) (Ji (λj=>?_) λj=>?_))
 ·
  have o:k<abr l:=by omega
  have p:k<abr m:=by omega
  obtain ⟨gA,E,rfl,_⟩:=hr.sat k (hk:=o)
  obtain ⟨F,G,rfl,_⟩:=g.sat k (hk:=p)
  refine (eP∘aM 2∘aL∘Jj) λa Z b=>?_
  refine wp_seq ?_
  refine Jb Z b ((Vs .n []) λy=>(Vp [0,1,4,5]∘oL 2 k 1∘Vy 3 (h:=by exact aad hr k 0 o rfl rfl)∘oL 6 k 1∘Vy 7 (h:=by exact aad g k 0 p rfl rfl)∘Vp [8]∘Vd∘aI) (Jh (λf=>?_) λf=>?_))
  ·
   exact (JT∘bB 1∘aW) λb=>eH (λe=>f (by rw [e])) b.below
  refine (aP∘JR∘dx 1∘Jp 1∘aL∘Jq) λa Z b=>?_
  exact ⟨_,om,k+1,by omega,I4 t (f),rfl,Z.sub kr,b.pk []⟩
 exact (JF∘JX∘JG∘bB 1∘aW) λb=>Fh (IY 0 q (λi hi=>t i om)) b.below
def zhh (A:ajq) (c:Nat) (l:List Tk) (D:ajq) (r:Nat) (m:List Tk) (w:ajg) (hr:Rd w w.heap.size 8 A (abr l) (l.flatMap bZ)) (g:Rd w w.heap.size 8 D (abr m) (m.flatMap bZ)) (B:abr l<=1000000) (u:abr m<=1000000):
    Calls abt 115 #[abo A l c,abo D m r] w (Is w (.bool (decide (l=m)))):=by
 refine (iQ Tryz.func115 26) ?_
 refine (cB 1∘bM 1∘Jl∘Jp 1∘Jl∘Jp 1∘fK∘Jj) (Jh (λd=>?_) λd=>?_)
 ·
  exact (JT∘bB 1∘aW) λb=>eH (λe=>by rw [e] at d;exact d rfl) b.below
 have q:abr l=abr m:=by omega
 refine (aP∘bM 1∘Jl∘bO 1∘JB) λa Z b=>?_
 refine qg (λs x y=>∃(k:Nat),(k<=abr l)/\(∀i,i<k->l.getD i Tk.zero=m.getD i Tk.zero)/\s=abr l-k/\Fr x 26 [] (ah8 13 k 12 (abr l) [(10,.bool false),aiH,(0,abo A l c),(1,abo D m r)])/\Mem w y []) (m:=abr l-0) ⟨0,abC _,IZ,rfl,Z.sub kr,b.pk []⟩ ?_
 clear Z b;rintro s a C ⟨k,E,t,rfl,Z,b⟩
 refine Jb Z b ((cB 1∘JQ) (Ji (λj=>?_) λj=>?_))
 ·
  have o:k<abr l:=by omega
  have p:k<abr m:=by omega
  obtain ⟨gA,F,rfl,_⟩:=hr.sat k (hk:=o)
  obtain ⟨G,H,rfl,_⟩:=g.sat k (hk:=p)
  refine (eP∘aM 2∘aL∘Jj) λa Z b=>?_
  refine wp_seq ?_
  refine Jb Z b ((Vs .n []) λz=>(Vp [0,1,4,5]∘oL 2 k 8∘EW 3 Tk.cells qm hr fH k Tk.zero (hk:=o)∘oL 6 k 8∘EW 7 Tk.cells qm g fH k Tk.zero (hk:=p)∘Vy 8 (v:= .bool (!(decide ((l.getD k Tk.zero)=(m.getD k Tk.zero))))) (h:=by exact aax rfl rfl rfl (zeo (l.getD k Tk.zero) (m.getD k Tk.zero)))∘Vd∘aI) (nQ (λf=>?_) λf=>?_))
  ·
   exact (JT∘bB 1∘aW) λb=>eH (λe=>f (by rw [e])) b.below
  refine (aP∘JR∘dx 1∘Jp 1∘aL∘Jq) λa Z b=>?_
  exact ⟨_,om,k+1,by omega,I4 t (f),rfl,Z.sub kr,b.pk []⟩
 exact (JF∘JX∘JG∘bB 1∘aW) λb=>Fh (IY Tk.zero q (λi hi=>t i om)) b.below
def zhi (A:ajq) (c:Nat) (l:List Sp) (D:ajq) (r:Nat) (m:List Sp) (w:ajg) (hr:Rd w w.heap.size 3 A (abr l) (l.flatMap ji)) (g:Rd w w.heap.size 3 D (abr m) (m.flatMap ji)) (B:abr l<=1000000) (u:abr m<=1000000):
    Calls abt 117 #[abo A l c,abo D m r] w (Is w (.bool (decide (l=m)))):=by
 refine (iQ Tryz.func117 26) ?_
 refine (cB 1∘bM 1∘Jl∘Jp 1∘Jl∘Jp 1∘fK∘Jj) (Jh (λd=>?_) λd=>?_)
 ·
  exact (JT∘bB 1∘aW) λb=>eH (λe=>by rw [e] at d;exact d rfl) b.below
 have q:abr l=abr m:=by omega
 refine (aP∘bM 1∘Jl∘bO 1∘JB) λa Z b=>?_
 refine qg (λs x y=>∃(k:Nat),(k<=abr l)/\(∀i,i<k->l.getD i Sp.zero=m.getD i Sp.zero)/\s=abr l-k/\Fr x 26 [] (ah8 13 k 12 (abr l) [(10,.bool false),aiH,(0,abo A l c),(1,abo D m r)])/\Mem w y []) (m:=abr l-0) ⟨0,abC _,IZ,rfl,Z.sub kr,b.pk []⟩ ?_
 clear Z b;rintro s a C ⟨k,E,t,rfl,Z,b⟩
 refine Jb Z b ((cB 1∘JQ) (Ji (λj=>?_) λj=>?_))
 ·
  have o:k<abr l:=by omega
  have p:k<abr m:=by omega
  obtain ⟨gA,F,rfl,_⟩:=hr.sat k (hk:=o)
  obtain ⟨G,H,rfl,_⟩:=g.sat k (hk:=p)
  refine (eP∘aM 2∘aL∘Jj) λa Z b=>?_
  refine wp_seq ?_
  refine Jb Z b ((Vs .n []) λz=>(Vp [0,1,4,5]∘oL 2 k 3∘EW 3 Sp.cells zP hr mh k Sp.zero (hk:=o)∘oL 6 k 3∘EW 7 Sp.cells zP g mh k Sp.zero (hk:=p)∘Vy 8 (v:= .bool (!(decide ((l.getD k Sp.zero)=(m.getD k Sp.zero))))) (h:=by exact aax rfl rfl rfl (zep (l.getD k Sp.zero) (m.getD k Sp.zero)))∘Vd∘aI) (nQ (λf=>?_) λf=>?_))
  ·
   exact (JT∘bB 1∘aW) λb=>eH (λe=>f (by rw [e])) b.below
  refine (aP∘JR∘dx 1∘Jp 1∘aL∘Jq) λa Z b=>?_
  exact ⟨_,om,k+1,by omega,I4 t (f),rfl,Z.sub kr,b.pk []⟩
 exact (JF∘JX∘JG∘bB 1∘aW) λb=>Fh (IY Sp.zero q (λi hi=>t i om)) b.below
def q4d (A:ajq) (c:Nat) (l:List Rw) (D:ajq) (v:Nat) (m:List Rw) (w:ajg) (hr:Rd w w.heap.size 1 A (abr l) (l.map aac)) (p:Rd w w.heap.size 1 D (abr m) (m.map aac)) (B:∀y∈l,Rd w w.heap.size 3 y.A (abr y.l) (y.l.flatMap ji)) (hm:∀y∈m,Rd w w.heap.size 3 y.A (abr y.l) (y.l.flatMap ji)) (H:abr l<=1000000) (C:abr m<=1000000) (r:∀y∈l,abr y.l<=1000000) (s:∀y∈m,abr y.l<=1000000):
    Calls abt 116 #[abo A l c,abo D m v,.func (.func 117) #[] #[]] w (Is w (.bool (decide (l.map ael=m.map ael)))):=by
 refine (vC Tryz.func116 32) ?_
 refine (cB 1∘bM 1∘Jl∘Jp 1∘Jl∘Jp 1∘fK∘Jj) (Jh (λo=>?_) λo=>?_)
 ·
  exact (JT∘bB 1∘aW) λb=>eH (q7v (λe=>o (by rw [e]))) b.below
 have t:abr l=abr m:=by omega
 refine (aP∘bM 1∘Jl∘bO 1∘JB) λa Z b=>?_
 refine qg (λx E F=>∃(k:Nat),(k<=abr l)/\(∀i,i<k->(l.getD i Rw.zero).l=(m.getD i Rw.zero).l)/\x=abr l-k/\Fr E 32 [] (ah8 17 k 16 (abr l) [(15,abo A l c),(14,.bool false),(6,.bool false),(0,abo A l c),(1,abo D m v),(2,.func (.func 117) #[] #[])])/\Mem w F []) (m:=abr l-0) ⟨0,abC _,IZ,rfl,Z.sub kr,b.pk []⟩ ?_
 clear Z b;rintro x a I ⟨k,J,z,rfl,Z,b⟩
 refine Jb Z b ((cB 1∘JQ) (Ji (λq=>?_) λq=>?_))
 ·
  have d:k<abr l:=by omega
  have j:k<abr m:=by omega
  obtain ⟨gA,K,rfl,_⟩:=hr.sat k (hk:=d)
  obtain ⟨L,M,rfl,_⟩:=p.sat k (hk:=j)
  refine (eP∘aM 1∘iF k 1∘Jy (h:=by exact aad hr k Rw.zero d rfl rfl)∘Jp 2∘bg 2∘iF k 1∘Jy (h:=by exact aad p k Rw.zero j rfl rfl)∘Jp 1∘fK∘bg 3) λa Z b=>?_
  refine fo Z 3 rfl rfl ?_
  refine zl Z (f:=117) (vs:=[.slice ((l.getD k Rw.zero).A) ((l.getD k Rw.zero).l.length) ((l.getD k Rw.zero).c),.slice ((m.getD k Rw.zero).A) ((m.getD k Rw.zero).l.length) ((m.getD k Rw.zero).c)]) (fst:=[]) (caps:=[]) rfl rfl rfl kr rfl de (zhi (l.getD k Rw.zero).A (l.getD k Rw.zero).c (l.getD k Rw.zero).l (m.getD k Rw.zero).A (m.getD k Rw.zero).c (m.getD k Rw.zero).l _ (b.old (B _ (qf Rw.zero d))) (b.old (hm _ (qf Rw.zero j))) (r _ (qf Rw.zero d)) (s _ (qf Rw.zero j))) ?_
  rintro _ G ⟨rfl,u⟩
  refine ⟨_,rfl,?_⟩
  replace b:=b.call u
  clear Z;intro a Z
  refine Jb Z b ((Jp 1∘fK∘Jj) (nQ (λn=>?_) λn=>?_))
  ·
   exact (JT∘bB 1∘aW) λb=>eH (q7u d j n) b.below
  refine (aP∘JR∘dx 1∘Jp 1∘aL∘Jq) λa Z b=>?_
  exact ⟨_,om,k+1,by omega,I4 (f:=λi=>(l.getD i Rw.zero).l) (g:=λi=>(m.getD i Rw.zero).l) z n,rfl,Z.sub kr,b.pk []⟩
 exact (JF∘JX∘JG∘bB 1∘aW) λb=>Fh (q7t t (λi hi=>z i om)) b.below
abbrev ai9:Array ajh:=#[vI 0,vQ 0,vN,vN,vN,vN,vN]
def zby (s z : dG) (w : ajg) (E : fC w s.st) (hz : fC w z.st) (F : cZ s.st) (G : cZ z.st) :
    Calls abt 55 #[.agg s.cells,.agg z.cells] w (Is w (.bool (decide (dI s z)))):=by
 refine (iQ Tryz.func55 71) ?_
 refine (JP∘JE) λW J=>(JE) λX K=>(bO 1) λa Z b=>?_
 refine qz (λM N=>∃(x:Nat) (A:Nat),Fr M 71 [] [(6,vP A 0),(5,vP x 0),aiH,(3,vP K 0),(2,vP J 0)]/\Mem w N [.blk A z.st.cells 48,.blk x s.st.cells 48,.blk K z.cells 50,.blk J s.cells 50]) ?_ ?_
 ·
  refine Jb Z b ((Vs .n [7]) λO=>(Vf 0 1∘Vf 2 1∘Vy 1 (v:= .agg #[vI s.st.au,vQ s.st.aj,abo s.st.gA s.st.gs s.st.gc,abo s.st.lA s.st.cl s.st.lc,abo s.st.uA s.st.cu s.st.uc,abo s.st.tA s.st.ts s.st.tc,abo s.st.sA s.st.rs s.st.sc]) (h:=by exact Pe rfl rfl eX rfl (λ_ h=>h.sub (i:=1) rfl 1 rfl))∘Vo (.agg s.st.cells) (by exact rfl)∘Vy 3 (v:= .agg #[vI z.st.au,vQ z.st.aj,abo z.st.gA z.st.gs z.st.gc,abo z.st.lA z.st.cl z.st.lc,abo z.st.uA z.st.cu z.st.uc,abo z.st.tA z.st.ts z.st.tc,abo z.st.sA z.st.rs z.st.sc]) (h:=by exact Pe rfl rfl eX rfl (λ_ h=>h.sub (i:=0) rfl 1 rfl))∘Vo (.agg z.st.cells) (by exact rfl)) λa Z b B=>?_)
  refine zh [4,5] kr rfl ?_
  refine all_cons ?_ ?_
  ·refine qu Z (i:=4) rfl rfl ?_
   refine iq Z b ai9 ?_
   clear Z b;intro a P x Z b
   refine av (b.pk [1,2]) (λB=>?_)
   refine Vb Z b B ((VA 5 (.f .n) ai9) λQ A=>λa Z b B=>?_)
   refine s_on Z 6 rfl (bV Z b 1 rfl rfl rfl rfl rfl eX rfl rfl (Fg s.st) λH b=>?_)
   refine av (b.pk [2,3]) (λB=>?_)
   refine s_on Z 7 rfl (bV Z b 0 rfl rfl rfl rfl rfl eX rfl rfl (Fg z.st) λI b=>?_)
   refine dR kr ?_
   refine qe kr ?_
   exact ⟨x,A,Z.sub kr,b.pk [0,1,2,3]⟩
  refine all_cons ?_ all_nil
  refine qu Z (i:=5) rfl rfl ?_
  refine iq Z b ai9 ?_
  clear Z b;intro a Q A Z b
  refine av (b.pk [1,2]) (λB=>?_)
  refine Vb Z b B ((VA 4 (.f .n) ai9) λP x=>λa Z b B=>?_)
  refine s_on Z 6 rfl (bV Z b 0 rfl rfl rfl rfl rfl eX rfl rfl (Fg s.st) λH b=>?_)
  refine av (b.pk [2,3]) (λB=>?_)
  refine s_on Z 7 rfl (bV Z b 1 rfl rfl rfl rfl rfl eX rfl rfl (Fg z.st) λI b=>?_)
  refine dR kr ?_
  refine qe kr ?_
  exact ⟨x,A,Z.sub kr,b.pk [1,0,2,3]⟩
 clear Z b;rintro a Y ⟨x,A,Z,b⟩
 refine Jb Z b ((JP∘Jg 0 O3∘Jg 0 O2∘Jp 2) (Je (λd=>?_) λd=>?_))
 ·
  refine (Jf 0∘Jg 0 O1∘Jf 0∘Jg 0 O0∘Jp 3) (Je (λj=>?_) λj=>?_)
  ·
   refine (Jf 0∘Jg 1 O1∘Jf 0∘Jg 1 O0∘Jp 3) (Je (λC=>?_) λC=>?_)
   ·
    refine (Jf 0∘Jg 2 O1∘Jf 0∘Jg 2 O0∘JL (h:=by exact λb=>zhg s.st.gA s.st.gc s.st.gs z.st.gA z.st.gc z.st.gs _ (b.old E.g) (b.old hz.g) F.g G.g)) ?_
    rintro b _ R ⟨rfl,c⟩
    refine ⟨_,rfl,_,b.call c,?_⟩
    refine (Jp 2) (Ji (λk=>?_) λk=>?_)
    ·
     refine (Jg 3 O1∘Jg 3 O0∘JL (h:=by exact λb=>qu2 s.st.lA s.st.lc s.st.cl z.st.lA z.st.lc z.st.cl _ (b.old E.l) (b.old hz.l) F.l G.l)) ?_
     rintro b _ S ⟨rfl,c⟩
     refine ⟨_,rfl,_,b.call c,?_⟩
     refine (Jp 2) (Ji (λm=>?_) λm=>?_)
     ·
      refine (Jg 4 O1∘Jg 4 O0∘JL (h:=by exact λb=>qu2 s.st.uA s.st.uc s.st.cu z.st.uA z.st.uc z.st.cu _ (b.old E.u) (b.old hz.u) F.u G.u)) ?_
      rintro b _ T ⟨rfl,c⟩
      refine ⟨_,rfl,_,b.call c,?_⟩
      refine (Jp 2) (Ji (λo=>?_) λo=>?_)
      ·
       refine (Jg 5 O1∘Jg 5 O0∘JL (h:=by exact λb=>zhh s.st.tA s.st.tc s.st.ts z.st.tA z.st.tc z.st.ts _ (b.old E.t) (b.old hz.t) F.t G.t)) ?_
       rintro b _ U ⟨rfl,c⟩
       refine ⟨_,rfl,_,b.call c,?_⟩
       refine (Jp 2) (Ji (λq=>?_) λq=>?_)
       ·
        exact (Jg 6 O1∘Jg 6 O0∘JI (h:=by exact λb=>q4d s.st.sA s.st.sc s.st.rs z.st.sA z.st.sc z.st.rs _ (b.old E.s) (b.old hz.s) (λy L=>b.old (E.r y L)) (λy L=>b.old (hz.r y L)) F.s G.s F.r G.r)) λV c=>(Jp 2∘aI∘aQ∘aW) λb=>by exact Bn (p:=dI s z) ⟨λe=>⟨d,j,by omega,k,m,o,q,e⟩,λh=>h.2.2.2.2.2.2.2⟩ b.below
       refine (Jp 7∘aI∘Jq) λa Z b=>?_
       replace Z:=Z.to [aiH,(6,vP A 0),(5,vP x 0),(3,vP K 0),(2,vP J 0)]
       exact Jb Z b ((JG∘JZ∘aW) λb=>by exact eH (p:=dI s z) (λ⟨D,e1,e2,e3,e4,e5,e6,e7⟩=>q (by rw [e6])) b.below)
      exact (Jv 14 [aiH]∘aI∘aQ∘aW) λb=>by exact eH (p:=dI s z) (λ⟨D,e1,e2,e3,e4,e5,e6,e7⟩=>o (by rw [e5])) b.below
     exact (Jv 21 [aiH]∘aI∘aQ∘aW) λb=>by exact eH (p:=dI s z) (λ⟨D,e1,e2,e3,e4,e5,e6,e7⟩=>m (by rw [e4])) b.below
    exact (Jv 28 [aiH]∘aI∘aQ∘aW) λb=>by exact eH (p:=dI s z) (λ⟨D,e1,e2,e3,e4,e5,e6,e7⟩=>k (by rw [e3])) b.below
   exact (Jv 37 [aiH]∘aI∘aQ∘aW) λb=>by exact eH (p:=dI s z) (λ⟨D,e1,e2,e3,e4,e5,e6,e7⟩=>C (by rw [e2])) b.below
  exact (Jv 46 [aiH]∘aI∘aQ∘aW) λb=>by exact eH (p:=dI s z) (λ⟨D,e1,e2,e3,e4,e5,e6,e7⟩=>j (by rw [e1])) b.below
 exact (Jv 55 [aiH]∘fK∘aQ∘aW) λb=>by exact eH (p:=dI s z) (λ⟨D,e1,e2,e3,e4,e5,e6,e7⟩=>d (by rw [D])) b.below
def zb1 (x:Sb) (s:x.Ok) (A:ajq) (c:Nat) (w:ajg) (hr:Rd w w.heap.size 11 A (abr x.l) (x.l.flatMap tu)) (hc:abr x.l<=c) (O:abr x.l<=9223372036854775807):
    Calls abt 43 #[.agg (x.cells A c)] w (q62 w x.made):=by
 refine (fE Tryz.func43 42) ?_
 refine (JP∘JE) λP g1=>(JA ai8) λQ G=>(Jq) ?_
 have E:=s.lost
 have H:=s.cpu
 obtain ⟨es,q⟩:∃es,es=x.es:=⟨_,rfl⟩
 refine (JG∘JQ∘JP∘Jg 0 O1∘Jj) (Ju (λr=>?_) λr=>?_)
 ·
  refine (JT∘JP∘Jf 3∘Jg 0 O1∘JL (h:=by exact λe=>ZX x.b.seq 281474976710657 s.b.seq (by unfold aX;omega) _)) ?_
  rintro e _ R ⟨rfl,rfl⟩
  refine ⟨_,rfl,_,e,?_⟩
  refine (Jp 1∘Jo (vI (1+gI x.b.seq 281474976710657)) (by have h:=qs7 x.b.seq;rw [IntWalk.i64_in _ om])∘fu #[vB 2,vB 0,vI 0,vI (1+gI x.b.seq 281474976710657),vN]∘JV aG aN) λI=>(qL∘aQ) λa Z e=>?_
  exact jc rfl Z (.cellS (i:=0) Z e rfl rfl aG rfl) (Nz (b:=x.made) (d:=⟨2,0,0,1+gI x.b.seq 281474976710657,[]⟩) (A:=none) (c:=0) (by unfold Sb.made;rw [if_pos r]) (acK _ _ _ _) (abx _) e.below)
 refine (aP) λa Z e=>?_
 refine qz (λL M=>∃(m:ajq) (g:Nat) (u:Nat),Fr L 42 [] [(3,vP u 0),(5,.bool false),(2,vP G 0),(1,vP g1 0)]/\Mem w M [.blk u #[vB 1,vB (x.cpu%64:Nat),vI x.lost,vI 0,abo m es g] 85,abq m es g fD 73 11,aia G,.blk g1 (x.cells A c) 113]/\(abr es<=g)) ?_ ?_
 ·
  refine Jb Z e ((Vs .n [20]) λN=>(Vf 0 1∘Vf 3 2∘Vf 6 1∘Vf 8 3∘Vf 10 5∘Vf 12 5∘Vc 1 O1∘Vp [2]∘Vo (vB (x.cpu%64:Nat)) (by exact zi .u8 _ 64)∘Vc 4 O1∘Vw 5 .i64∘Vc 7 O1∘Vy 9 (v:= .agg #[vI x.b.seq,vI x.b.time]) (h:=by exact Pe rfl rfl ⟨kr,kr⟩ rfl (λ_ h=>h.sub (i:=1) rfl 3 rfl))∘Vc 11 O1∘Vc 13 O1∘Vl 14∘Vy 15 (v:=vI (if (60:Int)<(abr x.l:Int) then 60 else (abr x.l:Int))) (h:=by exact Yl.min rfl rfl rfl)∘Vo (vI (abr (x.l.take 60))) (by exact Ic _ _ rfl)∘Vy 16 (h:=by exact aah Bh (j:=abr (x.l.take 60)) rfl rfl rfl (by rw [abA];omega))) λa Z e p=>?_)
  refine zh [17,19] kr rfl ?_
  refine all_cons ?_ ?_
  ·refine qu Z (i:=17) rfl rfl ?_
   refine lT Z [vB x.cpu,.agg #[vI x.b.seq,vI x.b.time],abo A (x.l.take 60) c] rfl rfl (Z6 x.cpu s.cpu x.b s.b _ _ _ (x.l.take 60) (RV s) _ (by have h:=(e.old hr).upto (k:=abr (x.l.take 60)) (by rw [abA];omega);rw [Nw tu 11 Fe] at h;rwa [zic] at h) (by rw [abA];omega) (by rw [abA];omega)) ?_
   rintro _ F ⟨⟨v,rfl,y⟩,z⟩
   rw [show mg x.cpu x.b (x.l.take 60)=x.es from rfl,<-q] at y
   revert p;revert e;revert a;repeat (first|clear Z|clear e|clear p)
   intro a Z e p
   obtain ⟨m,g,rfl,o⟩:=Cq y
   refine ⟨_,rfl,?_⟩
   replace e:=e.dh z y
   clear Z;intro a Z
   refine av (e.pk [1,2]) (λp=>?_)
   refine Vb Z e p ((Vy 18 (v:= .agg #[vB 1,vB (x.cpu%64:Nat),vI x.lost,vI 0,abo m es g]) (h:=by exact Yl.build (vs:=[(0,vB 1),(1,vB (x.cpu%64:Nat)),(2,vI x.lost),(4,abo m es g)]) rfl kr kr)∘VA 19 (.f .n) ai8) λJ u=>λa Z e p=>?_)
   refine s_on Z 20 rfl (bV Z e 0 rfl rfl rfl rfl rfl aG rfl rfl (by simp [abV]) λB e=>?_)
   refine dR kr ?_
   refine qe kr ?_
   exact ⟨m,g,u,Z.sub kr,e.pk [0,1,2,3],o⟩
  refine all_cons ?_ all_nil
  refine qu Z (i:=19) rfl rfl ?_
  refine iq Z e ai8 ?_
  clear Z e;intro a J u Z e
  refine av (e.pk [1,2]) (λp=>?_)
  refine s_on Z 17 rfl ?_
  refine lT Z [vB x.cpu,.agg #[vI x.b.seq,vI x.b.time],abo A (x.l.take 60) c] rfl rfl (Z6 x.cpu s.cpu x.b s.b _ _ _ (x.l.take 60) (RV s) _ (by have h:=(e.old hr).upto (k:=abr (x.l.take 60)) (by rw [abA];omega);rw [Nw tu 11 Fe] at h;rwa [zic] at h) (by rw [abA];omega) (by rw [abA];omega)) ?_
  rintro _ F ⟨⟨v,rfl,y⟩,z⟩
  rw [show mg x.cpu x.b (x.l.take 60)=x.es from rfl,<-q] at y
  revert p;revert e;revert a;repeat (first|clear Z|clear e|clear p)
  intro a Z e p
  obtain ⟨m,g,rfl,o⟩:=Cq y
  refine ⟨_,rfl,?_⟩
  replace e:=e.dh z y
  clear Z;intro a Z
  refine av (e.pk [2,3]) (λp=>?_)
  refine Vb Z e p ((Vy 18 (v:= .agg #[vB 1,vB (x.cpu%64:Nat),vI x.lost,vI 0,abo m es g]) (h:=by exact Yl.build (vs:=[(0,vB 1),(1,vB (x.cpu%64:Nat)),(2,vI x.lost),(4,abo m es g)]) rfl kr kr)) λa Z e p=>?_)
  refine s_on Z 20 rfl (bV Z e 1 rfl rfl rfl rfl rfl aG rfl rfl (by simp [abV]) λB e=>?_)
  refine dR kr ?_
  refine qe kr ?_
  exact ⟨m,g,u,Z.sub kr,e.pk [1,0,2,3],o⟩
 clear Z e;rintro a J ⟨m,g,u,Z,e,o⟩
 refine Jb Z e ((JQ∘JP∘Jg 4 O0∘Jl∘Jp 2) (Je (λC=>?_) λC=>?_))
 ·
  refine (Jg 2 O0∘Jp 2∘aI∘Jj) (Je (λD=>?_) λD=>?_)
  ·
   refine (JT∘JR∘Jf 2∘JW aN iE) λK=>(mW∘Jr∘eF aG O0∘JV aG iE) λt=>(mW∘aQ) λa Z e=>?_
   exact jc rfl Z (.cellS (i:=2) Z e rfl rfl aG rfl) (Nz (b:=x.made) (d:=⟨1,x.cpu%64,1,0,es⟩) (by unfold Sb.made;rw [if_neg (by rw [r];decide),<-q,if_pos ⟨by omega,by omega⟩]) (e.own (i:=1) rfl) o e.below)
  refine (aP∘JP∘eF aG O0∘JV aG iE) λt=>(mW∘aQ) λa Z e=>?_
  exact jc rfl Z (.cellS (i:=2) Z e rfl rfl aG rfl) (Nz (b:=x.made) (d:=⟨1,x.cpu%64,(x.lost:Int),0,es⟩) (by unfold Sb.made;rw [if_neg (by rw [r];decide),<-q,if_neg om]) (e.own (i:=1) rfl) o e.below)
 refine (Jp 4∘aI∘Jj∘aP∘JP∘eF aG O0∘JV aG iE) λt=>(mW∘aQ) λa Z e=>?_
 exact jc rfl Z (.cellS (i:=2) Z e rfl rfl aG rfl) (Nz (b:=x.made) (d:=⟨1,x.cpu%64,(x.lost:Int),0,es⟩) (by unfold Sb.made;rw [if_neg (by rw [r];decide),<-q,if_neg om]) (e.own (i:=1) rfl) o e.below)
def BD {v r w:Nat} (h:cO v r w=true):1<=w/\w<=65536/\r<w/\(v<18446744073709551615\/r=0):=by
 unfold cO at h
 rw [decide_eq_true_eq] at h
 omega
def zpq {v r w:Nat} (h:1<=w/\w<=65536/\r<w/\(v<18446744073709551615\/r=0)):cO v r w=true:=by
 unfold cO
 rw [decide_eq_true_eq]
 omega
def S9 {z:Nat} (a:c<18446744073709551616) (hz:1<=z/\z<=65536):(⟨c,0,z⟩:En).Ok:=⟨zpq ⟨hz.1,hz.2,by show 0<z;omega,.inr rfl⟩,a⟩
def Jz (x:En) (a:x.Ok) (w:ajg):Calls abt 218 #[.agg x.cells] w (Is w (.bool true)):=by
 have c:=BD a.1
 have b:=Sj x.v x.r x.w a.2 om om w
 rw [a.1] at b
 exact b
def q2u (z:Nat) (hz:1<=z/\z<=65536) (w:ajg):Calls abt 267 #[vI z] w (Is w (.bool true)):=by
 have a:=qko z w
 rw [decide_eq_true om] at a
 exact a
def q78 (x:En) (e:x.Ok) (d:Nat) (q:d<=4294967295) (w:ajg):
    Calls abt 266 #[.agg x.cells,vI d] w (Is w (.agg (x.add d).cells)):=by
 have j:=BD e.1
 have k:=e.2
 have l:=Nat.div_le_self (d*1048576+x.r) x.w
 have o:=adJ (d*1048576+x.r) (show x.w>0 by omega)
 refine (iQ Tryz.func266 42) ?_
 refine (JP∘JE) λs t=>(JA #[vQ 0,vW 0,vW 0]) λu y=>(bg 1∘Jw .u64∘Jp 1∘Jo (vQ (d*1048576:Nat)) (by exact yF om om)∘Jg 1 O1∘Jw .u64∘Ja∘Jp 1∘aI∘Jj) λa Z b=>?_
 refine wp_seq ?_
 refine Jb Z b ((Vs .n []) λp=>(Vp [0]∘Vf 1 2∘Vp [5]∘Vf 6 2∘Vc 2 O1∘Vw 3 .u64∘Vy 4 (v:=vQ ((d*1048576+x.r)/x.w:Nat)) (h:=by exact aaY (m:=(d*1048576+x.r)) (n:=x.w) rfl rfl rfl om (by show _<=18446744073709551615;omega))∘Vp [10]∘Vc 7 O1∘Vw 8 .u64∘Vy 9 (v:=vQ ((d*1048576+x.r)%x.w:Nat)) (h:=by exact aap (m:=(d*1048576+x.r)) (n:=x.w) rfl rfl rfl om)∘Vp [11]∘Vd∘eO∘bM 1∘Jg 0 O1∘Jp 1∘Jo (vQ (18446744073709551615-x.v:Nat)) (by exact yF om om)∘Jp 1∘eO∘Jj) (Ji (λc=>?_) λc=>?_))
 ·
  refine (JT∘JP∘Jg 2 O1∘fu #[vQ 18446744073709551615,vW 0,vW x.w]∘JV qp aN) λf=>(nO∘aQ) λa Z b=>?_
  exact jc rfl Z (.cellS (i:=0) Z b rfl rfl qp rfl) (⟨by rw [show x.add d=⟨oh,0,x.w⟩ from if_pos (by show 18446744073709551615-x.v<=_;omega)];rfl,b.below⟩)
 refine (aP∘JP∘Jg 0 O1∘Jp 1∘Ja∘Jp 1∘Jv 1 [(38,vW (IntKind.u32.wrap (((d*1048576+x.r)%x.w:Nat):Int)))]∘Jo (vW ((d*1048576+x.r)%x.w:Nat)) (by exact Cv rfl om)∘Jg 2 O1∘fu #[vQ (x.v+((d*1048576+x.r)/x.w):Nat),vW ((d*1048576+x.r)%x.w:Nat),vW x.w]∘JV qp aN) λg=>(jh∘aQ) λa Z b=>?_
 exact jc rfl Z (.cellS (i:=0) Z b rfl rfl qp rfl) (⟨by rw [show x.add d=⟨x.v+(d*1048576+x.r)/x.w,(d*1048576+x.r)%x.w,x.w⟩ from if_neg (by show ¬18446744073709551615-x.v<=_;omega)];rfl,b.below⟩)
def q2v (d:Int) (w:ajg):Calls abt 265 #[vI d] w (Is w (.bool (decide (0<=d/\d<=4294967295)))):=by
 refine (fE Tryz.func265 9) ?_
 refine (aM 1∘bg 3) (Ji (λa=>?_) λa=>?_)
 ·
  exact (Jp 4∘aI∘aQ∘aW) λb=>Bn om b.below
 exact (Jp 4∘aI∘aQ∘aW) λb=>eH om b.below
def q2w (d:Nat) (b:d<=4294967295) (w:ajg):Calls abt 265 #[vI d] w (Is w (.bool true)):=by
 have a:=q2v d w
 rw [decide_eq_true om] at a
 exact a
def zeu (x:En) (e:x.Ok) (d:Nat) (f:d<=4294967295) (w:ajg):
    Calls abt 210 #[.agg x.cells,vI d] w (Is w (.tuple #[.agg (x.add d).cells,vI 0])):=by
 refine (iQ Tryz.func210 18) ?_
 refine (JP∘JE) λl m=>(JA #[vQ 0,vW 0,vW 0]) λn o=>(bO 1∘JQ∘JP∘eF qp O1∘JI (h:=by exact λb=>Jz x e _)) λp c=>(Jp 3∘JI (h:=by exact λb=>q2w d f _)) λj c=>(Jp 2∘aI∘Jj∘aP∘JP∘eF qp O1∘Jp 1∘JI (h:=by exact λb=>q78 x e d f _)) λk c=>(JV qp aN (h1:=by exact mO (x.add d))) λg=>(Jp 1∘eO∘aQ) λa Z b=>?_
 exact dS rfl Z (.cellS (i:=0) Z b rfl rfl qp rfl) (.tmp Z rfl) (⟨rfl,b.below⟩)
def Fz (x:En) (e:x.Ok) (z:Nat) (hz:1<=z/\z<=65536) (w:ajg):
    Calls abt 212 #[.agg x.cells,vI z] w (Is w (.tuple #[.agg (⟨x.v,0,z⟩:En).cells,vI 0])):=by
 refine (iQ Tryz.func212 20) ?_
 refine (JP∘JE) λg j=>(JA #[vQ 0,vW 0,vW 0]) λk l=>(bO 1∘JQ∘JP∘eF qp O1∘JI (h:=by exact λb=>Jz x e _)) λm c=>(Jp 3∘JI (h:=by exact λb=>q2u z hz _)) λf c=>(Jp 2∘aI∘Jj∘aP∘JP∘Jg 0 O1∘Jp 1∘Jv 1 [(18,vW (IntKind.u32.wrap (z:Int)))]∘Jo (vW z) (by exact Cv rfl om)∘fu #[vQ x.v,vW 0,vW z]∘JV qp aN) λd=>(Jp 1∘fK∘aQ) λa Z b=>?_
 exact dS rfl Z (.cellS (i:=0) Z b rfl rfl qp rfl) (.tmp Z rfl) (⟨rfl,b.below⟩)
def qzd (a b:Nat) (c:a<18446744073709551616) (hb:b<18446744073709551616) (w:ajg):
    Calls abt 264 #[vQ a,vQ b] w (Is w (vQ ((a-b:Nat):Int))):=by
 refine (iQ Tryz.func264 10) ?_
 exact (aM 1∘bg 3∘Jy (v:=vQ (if (b:Int)<(a:Int) then (b:Int) else (a:Int))) (h:=by exact Yl.min rfl rfl rfl)∘Jp 1∘Jo (vQ (a-b:Nat)) (by split<;>exact (yF (m:=a-b) om om))∘Jp 1∘kV∘aQ) sW
def zlq (a b:Nat) (c:a<18446744073709551616) (hb:b<18446744073709551616) (w:ajg):
    Calls abt 304 #[vQ a,vQ b] w (Is w (vQ ((a+min b (18446744073709551615-a):Nat):Int))):=by
 refine (iQ Tryz.func304 11) ?_
 exact (aM 1∘bg 4∘Jo (vQ (18446744073709551615-a:Nat)) (by exact yF om om)∘Jy (v:=vQ (if ((18446744073709551615-a:Nat):Int)<(b:Int) then ((18446744073709551615-a:Nat):Int) else (b:Int))) (h:=by exact Yl.min rfl rfl rfl)∘Jo (vQ (min b (18446744073709551615-a):Nat)) (by rw [Nat.min_def];split<;>split<;>first|rfl|(congr 1;omega))∘Jp 1∘Jo (vQ (a+min b (18446744073709551615-a):Nat)) (by exact yF om om)∘Jp 1∘aI∘aQ) sW
def qze (b z:Nat) (f:b<18446744073709551616) (hz:1<=z/\z<=65536) (w:ajg):
    Calls abt 201 #[vQ b,vI z] w (Is w (.tuple #[.agg (⟨b,0,z⟩:En).cells,vI 0])):=by
 refine (iQ Tryz.func201 23) ?_
 refine (JP∘JA #[vQ 0,vW 0,vW 0]) λk l=>(Jp 1∘bg 2∘Jv 1 [(9,vW (IntKind.u32.wrap (z:Int)))]∘Jo (vW z) (by exact Cv rfl om)∘fu #[vQ b,vW 0,vW z]∘JA #[vQ 0,vW 0,vW 0]) λm n=>(JV qp aN) λd=>(fK∘Jj∘JQ∘JP∘Jg 2 O0∘Jw .i64∘Jp 2∘Jo (.bool false) (by simp)∘Jp 1∘eF qp O0∘JI (h:=by exact λc=>Jz (⟨b,0,z⟩:En) (S9 f hz) _)) λg j=>(Jp 2∘aI∘Jj∘aP∘JP∘eF qp O0∘JV qp gu) λe=>(Jp 1∘aL∘aQ) λa Z c=>?_
 exact dS rfl Z (.cellS (i:=1) Z c rfl rfl qp rfl) (.tmp Z rfl) (⟨rfl,c.below⟩)
def q79 (x:En) (f:x.Ok) (b cr:Nat) (k:b<18446744073709551616) (hc:cr<18446744073709551616) (w:ajg):
    Calls abt 207 #[.agg x.cells,vQ b,vQ cr] w (Is w (.tuple #[.agg (x.woken b cr).cells,vI 0])):=by
 have l:=f.2
 refine (vC Tryz.func207 25) ?_
 refine (JP∘JE) λo p=>(JA #[vQ 0,vW 0,vW 0]) λq r=>(bO 1∘JQ∘JP∘eF qp O1∘JI (h:=by exact λc=>Jz x f _)) λm e=>(Jp 1∘bU∘Jj∘aP∘bM 2∘JI (h:=by exact λc=>qzd b cr k hc _)) λn e=>(Jp 1∘eO∘bg 1∘Jg 0 O1∘Jp 1∘bU∘Jj) (Ji (λd=>?_) λd=>?_)
 ·
  refine (JT∘aM 1∘Jg 2 O1∘fu #[vQ (b-cr:Nat),vW 0,vW x.w]∘JV qp aN) λg=>(Jp 1∘eO∘aQ) λa Z c=>?_
  exact dS rfl Z (.cellS (i:=0) Z c rfl rfl qp rfl) (.tmp Z rfl) (⟨by rw [show x.woken b cr=⟨b-cr,0,x.w⟩ from if_pos om];rfl,c.below⟩)
 refine (aP∘JP∘eF qp O1∘JV qp aN (h1:=by exact mO x)) λj=>(Jp 1∘aL∘aQ) λa Z c=>?_
 exact dS rfl Z (.cellS (i:=0) Z c rfl rfl qp rfl) (.tmp Z rfl) (⟨by rw [show x.woken b cr=x from if_neg om],c.below⟩)
def q8a (x:En) (l:x.Ok) (fr to:Nat) (o:fr<18446744073709551616) (f:to<18446744073709551616) (w:ajg):
    Calls abt 269 #[.agg x.cells,vQ fr,vQ to] w (Is w (.tuple #[.agg (x.moved fr to).cells,vI 0])):=by
 have p:=l.2
 refine (vC Tryz.func269 35) ?_
 refine (JP∘JE) λt u=>(JA #[vQ 0,vW 0,vW 0]) λy z=>(bO 1∘JQ∘JP∘eF qp O1∘JI (h:=by exact λb=>Jz x l _)) λA g=>(Jp 1∘bU∘Jj∘aP∘JQ∘JP∘Jg 0 O1∘Jp 2∘bU∘Jj) (Ji (λj=>?_) λj=>?_)
 ·
  have c:uQ x.v fr to=to+min (x.v-fr) (18446744073709551615-to):=if_pos om
  refine (JT∘JR∘Jp 1∘Jg 0 O1∘Jp 1∘Js∘JI (h:=by exact λb=>zlq to (x.v-fr) f om _)) λq g=>(Jf 0) λa Z b=>?_
  refine fo Z 7 rfl rfl ?_
  refine rP Z b (i:=1) rfl rfl rfl rfl kr rfl rfl (by simp [En.cells]) λm b=>?_
  refine Jb Z b ((jh∘Jj∘JQ∘JP∘Jg 0 O1∘Jp 1∘aL∘Jj) (Je (λd=>?_) λd=>?_))
  ·
   refine (JT∘JR∘Jf 1∘JW gu gu) λk=>(mW∘Jr∘Jy (v:= .agg #[vQ (to+min (x.v-fr) (18446744073709551615-to):Nat),vW 0,vW x.w]) (h:=by exact Pe rfl rfl qp rfl (λ_ h=>qj (h.blk (i:=1) rfl)))∘JV qp aN) λe=>(Jp 1∘aL∘aQ) λa Z b=>?_
   exact dS rfl Z (.cellS (i:=0) Z b rfl rfl qp rfl) (.tmp Z rfl) (⟨by rw [show x.moved fr to=⟨uQ x.v fr to,0,x.w⟩ from congrArg (λr=>(⟨_,r,_⟩:En)) (if_pos (by rw [c];show _=18446744073709551615;omega)),c];rfl,b.below⟩)
  refine (aP∘JP∘Jy (v:= .agg #[vQ (to+min (x.v-fr) (18446744073709551615-to):Nat),vW x.r,vW x.w]) (h:=by exact Pe rfl rfl qp rfl (λ_ h=>qj (h.blk (i:=1) rfl)))∘JV qp aN) λe=>(Jp 1∘aL∘aQ) λa Z b=>?_
  exact dS rfl Z (.cellS (i:=0) Z b rfl rfl qp rfl) (.tmp Z rfl) (⟨by rw [show x.moved fr to=⟨uQ x.v fr to,x.r,x.w⟩ from congrArg (λr=>(⟨_,r,_⟩:En)) (if_neg (by rw [c];show ¬_=18446744073709551615;omega)),c];rfl,b.below⟩)
 have c:uQ x.v fr to=to- (fr-x.v):=(if_neg om).trans om
 refine (JF∘JR∘Jp 2∘Jg 0 O1∘Js∘JI (h:=by exact λb=>qzd to (fr-x.v) f om _)) λs g=>(Jf 0) λa Z b=>?_
 refine fo Z 7 rfl rfl ?_
 refine rP Z b (i:=1) rfl rfl rfl rfl kr rfl rfl (by simp [En.cells]) λn b=>?_
 refine Jb Z b ((jh∘Jj∘JQ∘JP∘Jg 0 O1∘Jp 1∘aL∘Jj) (Je (λd=>?_) λd=>?_))
 ·
  refine (JT∘JR∘Jf 1∘JW gu gu) λk=>(mW∘Jr∘Jy (v:= .agg #[vQ (to- (fr-x.v):Nat),vW 0,vW x.w]) (h:=by exact Pe rfl rfl qp rfl (λ_ h=>qj (h.blk (i:=1) rfl)))∘JV qp aN) λe=>(Jp 1∘aL∘aQ) λa Z b=>?_
  exact dS rfl Z (.cellS (i:=0) Z b rfl rfl qp rfl) (.tmp Z rfl) (⟨by rw [show x.moved fr to=⟨uQ x.v fr to,0,x.w⟩ from congrArg (λr=>(⟨_,r,_⟩:En)) (if_pos (by rw [c];show _=18446744073709551615;omega)),c];rfl,b.below⟩)
 refine (aP∘JP∘Jy (v:= .agg #[vQ (to- (fr-x.v):Nat),vW x.r,vW x.w]) (h:=by exact Pe rfl rfl qp rfl (λ_ h=>qj (h.blk (i:=1) rfl)))∘JV qp aN) λe=>(Jp 1∘aL∘aQ) λa Z b=>?_
 exact dS rfl Z (.cellS (i:=0) Z b rfl rfl qp rfl) (.tmp Z rfl) (⟨by rw [show x.moved fr to=⟨uQ x.v fr to,x.r,x.w⟩ from congrArg (λr=>(⟨_,r,_⟩:En)) (if_neg (by rw [c];show ¬_=18446744073709551615;omega)),c];rfl,b.below⟩)
def yT {α:Type} {l:List α} {t u:α} (h:l[i]?=some t):(l.set i u)[i]?=some u:=adk (abF.1 h).1
theorem l9.split {α:Type} {a b:α} {l m:List α} (h:l9 a b l m):∃p q,l=p++a::q/\m=p++b::q:=by
 induction h with
 |z=>exact ⟨[],_,rfl,rfl⟩
 |s _ c=>obtain ⟨p,q,rfl,rfl⟩:=c;exact ⟨_::p,q,rfl,rfl⟩
def q8b (W w:ajg) (g d tc i:Nat) (ts:List Tk) (t:Tk) (ht:ts[i]?=some t) (q:abr ts=d) (x:En) (k:x.Ok) (fs:List ajr) (b:Mem W w (fT (some ⟨g,0,none⟩) d tc ts::fs)):
    Calls abt 202 #[.pointer (some ⟨g,i*8,none⟩),.agg x.cells] w (λr l=>r= .returned (.tuple #[])/\Mem W l (fT (some ⟨g,0,none⟩) d tc (ts.set i (t.put x))::fs)):=by
 have m:=(abF.1 ht).1
 have o:=BD k.1
 refine (mM b ahB 20) ?_
 refine (JP∘JE) λs u=>(Jj∘Vs (.t (.f .n)) [18]) λp=>(Vp [0,1,2]∘Vf 3 0∘Vf 5 1∘Vf 7 2∘Vc 4 O0∘Vc 6 O0∘Vc 8 O0∘Vw 9 .i64∘Vn 10∘Vf 11 6) λa Z b c=>?_
 refine s_on Z 12 rfl ?_
 refine zj Z b (i:=1) rfl rfl rfl rfl kr rfl rfl (by rw [rZ bZ 8 qm];omega) λe b=>?_
 replace b:=b.dw (i:=1) (ys:=(ts.set i ({t with v:=x.v})).flatMap bZ) rfl (vV bZ 8 qm ts i t ({t with v:=x.v}) ht 6 de _ rfl)
 refine av (b.pt 2 [0]) (λc=>?_)
 refine Vb Z b c ((Vn 13∘Vf 14 7) λa Z b c=>?_)
 refine s_on Z 15 rfl ?_
 refine zj Z b (i:=1) rfl rfl rfl rfl kr rfl rfl (by rw [rZ bZ 8 qm,abL];omega) λh b=>?_
 replace b:=b.dw (i:=1) (ys:=(ts.set i ({t with v:=x.v,r:=x.r})).flatMap bZ) rfl ((vV bZ 8 qm (ts.set i ({t with v:=x.v})) i ({t with v:=x.v}) ({t with v:=x.v,r:=x.r}) (yT ht) 7 de _ rfl).trans (by rw [afn]))
 refine av (b.pt 2 [0]) (λc=>?_)
 refine Vb Z b c ((Vn 16∘Vf 17 2) λa Z b c=>?_)
 refine s_on Z 18 rfl ?_
 refine zj Z b (i:=1) rfl rfl rfl rfl kr rfl rfl (by rw [rZ bZ 8 qm,abL];omega) λj b=>?_
 replace b:=b.dw (i:=1) (ys:=(ts.set i (t.put x)).flatMap bZ) rfl ((vV bZ 8 qm (ts.set i ({t with v:=x.v,r:=x.r})) i ({t with v:=x.v,r:=x.r}) (t.put x) (yT ht) 2 de _ rfl).trans (by rw [afn]))
 refine dR kr ?_
 refine qe kr ?_
 exact iD rfl Z ⟨rfl,b.pt 2 [1]⟩
def Ob {tc:Nat} {ts:List Tk} {K:List ajr} (t:Tk) (x:En) (O:l9 (fT (some ⟨g,0,none⟩) c tc ts) (fT (some ⟨g,0,none⟩) c tc (ts.set i (t.put x))) F K) (b:Mem W w F) (ht:ts[i]?=some t) (d:abr ts=c) (e:x.Ok):
  Calls abt 202 #[.pointer (some ⟨g,i*8,none⟩),.agg x.cells] w (λr a=>r= .returned (.tuple #[])/\Mem W a K):=by
 obtain ⟨p,q,rfl,rfl⟩:=O.split
 exact (q8b W w g c tc i ts t ht d x e (p++q) (b.perm ade)).mono λr a h=>⟨h.1,h.2.perm List.perm_middle.symm⟩
def q2x (W w:ajg) (g:Nat) (t:Tk) (x:En) (i:x.Ok) (fs:List ajr) (b:Mem W w (.blk g t.cells 232::fs)):
    Calls abt 202 #[vP g 0,.agg x.cells] w (λr j=>r= .returned (.tuple #[])/\Mem W j (.blk g (t.put x).cells 232::fs)):=by
 have k:=BD i.1
 replace b:Mem W w (.blk g #[vI t.id,vI t.group,vI t.weight,vI t.cpu,vQ t.mask,.bool t.ready,vQ t.v,vW t.r] 232::fs):=b
 refine (mM b ahB 20) ?_
 refine (JP∘JE) λm o=>(Jj∘Vs (.t (.f .n)) [18]) λl=>(Vp [0,1,2]∘Vf 3 0∘Vf 5 1∘Vf 7 2∘Vc 4 O0∘Vc 6 O0∘Vc 8 O0∘Vw 9 .i64∘Vn 10∘Vf 11 6) λa Z b c=>?_
 refine s_on Z 12 rfl (eU Z b 1 λd b=>?_)
 refine av (b.pt 2 [0]) (λc=>?_)
 refine Vb Z b c ((Vn 13∘Vf 14 7) λa Z b c=>?_)
 refine s_on Z 15 rfl (eU Z b 1 λe b=>?_)
 refine av (b.pt 2 [0]) (λc=>?_)
 refine Vb Z b c ((Vn 16∘Vf 17 2) λa Z b c=>?_)
 refine s_on Z 18 rfl (eU Z b 1 λh b=>?_)
 refine dR kr ?_
 refine qe kr ?_
 exact iD rfl Z ⟨rfl,b.pt 2 [1]⟩
def zlr {K:List ajr} (t:Tk) (x:En) (O:l9 (.blk g t.cells 232) (.blk g (t.put x).cells 232) F K) (b:Mem W w F) (c:x.Ok):
  Calls abt 202 #[vP g 0,.agg x.cells] w (λr a=>r= .returned (.tuple #[])/\Mem W a K):=by
 obtain ⟨p,q,rfl,rfl⟩:=O.split
 exact (q2x W w g t x c (p++q) (b.perm ade)).mono λr a h=>⟨h.1,h.2.perm List.perm_middle.symm⟩
def Oc (id:Int) (w:ajg):Calls abt 197 #[vI id] w (Is w (.bool (decide (1<=id/\id<=65535)))):=by
 refine (fE Tryz.func197 9) ?_
 refine (aM 1∘bg 3) (Ji (λa=>?_) λa=>?_)
 ·
  exact (Jp 4∘aI∘aQ∘aW) λb=>Bn om b.below
 exact (Jp 4∘aI∘aQ∘aW) λb=>eH om b.below
def zls (d:Nat) (cp:Int) (cr:Nat) (gA:ajq) (e gc:Nat) (lA:ajq) (f lc:Nat) (uA:ajq) (g uc:Nat) (tA:ajq) (i tc:Nat) (sA:ajq) (j sc:Nat) (c:Int) (w:ajg)
    (hm:w.heap[d]?=some (.cells #[vI cp,vQ cr,.slice gA e gc,.slice lA f lc,.slice uA g uc,.slice tA i tc,.slice sA j sc,.bool true] 273 (0,0))):
    Calls abt 196 #[vP d 0,vI c] w (Is w (.bool (decide (0<=c/\c<cp)))):=by
 refine (iQ Tryz.func196 17) ?_
 refine (aM 1∘bg 3) (Ji (λa=>?_) λa=>?_)
 ·
  exact (Jp 2∘Jn∘Jf 0∘Jf 0∘Jf 0∘Jy (v:=vI cp) (h:=by exact Pd rfl rfl kr (λ_ h=>h.mV hm rfl))∘Jp 3∘aI∘aQ∘aW) λb=>Bn om b.below
 exact (Jv 10 [aiH]∘eO∘aQ∘aW) λb=>eH om b.below
def FB {a b:Nat} (n:Nat) (e:Mem W w F) (f:F.drop n=jS d x m g k a b++T) (_:dY x m g k a b) (c:Int):Calls abt 196 #[vP d 0,vI c] w (Is w (.bool (decide (0<=c/\c<x.au)))):=by
 have h:fM d x.au x.aj x.gA m x.gc x.lA g x.lc x.uA k x.uc x.tA a x.tc x.sA b x.sc∈F:=abQ (i:=n) (by rw [f];exact aci ..)
 exact zls d x.au x.aj x.gA m x.gc x.lA g x.lc x.uA k x.uc x.tA a x.tc x.sA b x.sc c w (e.holds _ h).2
def nD (gm:Nat) (x:aF):List ajr:=jS gm x (abr x.gs) (abr x.cl) (abr x.cu) (abr x.ts) (abr x.rs)
def kR (W:ajg) (gm:Nat) (T:List ajr) (out:iX) (r:ajk) (w':ajg):Prop:=∃y:aF,r= .returned (.tuple #[.int .i64 out.2.1,.int .i64 (out.2.2:Int)])/\y.ay=out.1/\Mem W w' (nD gm y++T)
section
variable {W w w':ajg} {F A T fs:List ajr} {x y:aF} {ng nl nu nt ns gm g c n:Nat}
theorem Mem.jg (n:Nat) (h:Mem W w F) (a:F.drop n=A):Mem W w A:=a▸h.mJ (List.drop_sublist ..)
theorem Mem.toB (h:Mem W w (jS gm y ng nl nu nt ns++T)) (a:tJ y ng nl nu nt ns):Mem W w (nD gm y++T):=by
 obtain ⟨rfl,rfl,rfl,rfl,rfl⟩:=a
 exact h
def qw {out:iX} {got:Int} (n:Nat) (b:Mem W w F) (d:F.drop n=jS gm y ng nl nu nt ns++T) (f:tJ y ng nl nu nt ns) (a:out=(y.ay,got,e)):kR W gm T out (.returned (.tuple #[.int .i64 got,.int .i64 (e:Int)])) w:=by
 subst a
 exact ⟨y,rfl,rfl,(b.jg n d).toB f⟩
structure gV (t:Tk) (cp:Int) (ns:Nat):Prop where
 id:1<=t.id/\t.id<=65535
 group:0<=t.group/\t.group<ns
 cpu:0<=t.cpu/\t.cpu<cp
 weight:1<=t.weight/\t.weight<=65536
 mask:yN t.mask cp=false
 bit:t.mask/2^t.cpu.toNat%2=1
 ent:cO t.v t.r t.weight=true
def Ta {s:bI} {t:Tk}:eG s t=true↔gV t s.au (abr s.sp):=by
 unfold eG mK
 simp only [abH,decide_eq_true_eq,acP]
 constructor
 ·rintro ⟨⟨b,d,e,f,i,j⟩,k,l,m,a⟩
  exact ⟨⟨b,d⟩,⟨e,f⟩,⟨i,j⟩,k,l,m,a⟩
 ·intro h
  exact ⟨⟨h.id.1,h.id.2,h.group.1,h.group.2,h.cpu.1,h.cpu.2⟩,h.weight,h.mask,h.bit,h.ent⟩
theorem dY.task (h:dY x ng nl nu nt ns) {k:Nat} {t:Tk} (ht:x.ts[k]?=some t):gV t x.au ns/\t.Ok:=by
 obtain ⟨a,rfl⟩:=abF.1 ht
 have b:=(Fp (h.sh.tk k a)).2
 rw [abw,abv a] at b
 have d:=Ta.1 b
 rw [lX,h.ln.s] at d
 exact ⟨d,h.ok.ts _ (ada a)⟩
theorem JN {l:List Tk} {id:Int} (h:¬fidx l id<0):∃(k:Nat) (t:Tk),fidx l id=(k:Int)/\l[k]?=some t/\k<abr l/\t.id=id:=by grind [Tk.zero,qy9,getD_at]
theorem yU {s:bI} {id:Int} (h:fidx s.ts id=(k:Int)) (ht:s.ts[k]?=some t):pJ s id=t:=by
 unfold pJ
 rw [h]
 exact qbv Tk.zero ht
def aaj {v r w:Nat} {f:Int} (h:cO v r f=true) (a:f=(w:Int)) (b:v<18446744073709551616):(⟨v,r,w⟩:En).Ok:=⟨by rw [a] at h;exact h,b⟩
def wW {w:Nat} (h:t.weight=(w:Int)):t.en=⟨t.v,t.r,w⟩:=by unfold Tk.en;rw [h];rfl
def FC {x:aF} {ts':List Tk} (h:tJ x ng nl nu nt ns) (ht:abr ts'=nt):tJ {x with ts:=ts'} ng nl nu nt ns:=⟨h.g,h.l,h.u,ht,h.s⟩
def Od {x:aF} {a:List Rw} (h:tJ x ng nl nu nt ns) (ht:abr a=ns):tJ {x with rs:=a} ng nl nu nt ns:=⟨h.g,h.l,h.u,h.t,ht⟩
end
def nf {b:Bool} (h:b=true):¬b=false:=by rw [h];decide
def z8 {b:Bool} (h:b=false):¬b=true:=by rw [h];decide
section
variable {x:aF} {o:bQ} {k gt ct wt c d g:Nat} {t:Tk} {e:En} {z:Sp} {em:List Nat}
def qtp (h1:pI o.task=true) (a:mK o.weight=true) (hk:fidx x.ts o.task=(k:Int)) (ht:x.ts[k]?=some t) (b:o.weight=(wt:Int)):zV x.ay o=(({x with ts:=x.ts.set k (t.put ⟨t.v,0,wt⟩)}:aF).ay,0,0):=by
 unfold zV
 rw [if_neg (nf h1),if_neg (nf a),if_neg (by rw [show x.ay.ts=x.ts from rfl,hk];omega),yU (s:=x.ay) hk ht,show x.ay.ts=x.ts from rfl,hk,abI,b]
 rfl
def q8c (h1:pI o.task=true) (hk:fidx x.ts o.task=(k:Int)) (ht:x.ts[k]?=some t) (hr:t.ready=false) (b:t.group=(gt:Int)) (hc:t.cpu=(ct:Int)) (f:t.weight=(wt:Int)) (hz:x.ay.spot gt ct=z) (h:(⟨t.v,t.r,wt⟩:En).woken z.floor x.aj=e) (a:lN x.ay gt ct=em):
  zU x.ay o=(iw ({x with ts:=x.ts.set k {t.put e with ready:=true}}:aF).ay em ct,0,0):=by
 unfold zU
 rw [if_neg (nf h1),if_neg (by rw [show x.ay.ts=x.ts from rfl,hk];omega),yU (s:=x.ay) hk ht,if_neg (by rw [hr];decide)]
 show (iw (x.ay.jT (fidx x.ts o.task).toNat {t.put (t.en.woken (x.ay.spot t.group.toNat t.cpu.toNat).floor x.aj) with ready:=true}) (lN x.ay t.group.toNat t.cpu.toNat) t.cpu.toNat,(0:Int),0)=_
 rw [hk,abI,b,hc,abI,abI,hz,wW f,h,a]
 rfl
def zev (hc:o.cpu=(c:Int)) (a:x.ay.qU o.cpu=true):kZ x.ay o=(({x with cu:=x.cu.set c (qD x.ay c)}:aF).ay,(qD x.ay c:Int),0):=by
 unfold kZ
 rw [if_neg (nf a),hc,abI]
 rfl
def FD (c d g:Nat) (s:bI):bI:=qV c d g g s
def qtq {c d g f:Nat} {s:bI} (b:∀i,0<i->i<=g->fA s.gs i) (h:g<=f):qV c d f g s=qV c d g g s:=by
 have key:∀(g f a:Nat) (s:bI),(∀i,0<i->i<=g->fA s.gs i)->g<=f->g<=a->qV c d f g s=qV c d a g s:=by
  intro g
  induction g using ae8 with
  | _ g l =>
   intro f a s b n p
   by_cases j:g=0
   ·subst j
    cases f<;>cases a<;>simp [qV]
   ·obtain ⟨f,rfl⟩:∃k,f=k+1:=⟨f-1,by omega⟩
    obtain ⟨a,rfl⟩:∃k,a=k+1:=⟨a-1,by omega⟩
    have m:=b g om (abx _)
    unfold fA at m
    have e:(s.par g).toNat<g:=by show (s.gs.getD g Gr.zero).parent.toNat<g;omega
    rw [qV,qV,if_neg j,if_neg j]
    exact l (s.par g).toNat e f a _ (λi hi q=>b i hi om) om om
 exact key g f g s b h (abx _)
def qtr {s:bI} (b:∀i,0<i->i<=g->fA s.gs i) (f:0<g) {p:Nat} (a:(s.gs.getD g Gr.zero).parent=(p:Int)):FD c d g s=FD c d p (s.wO g c ((s.kQ g c).add d)):=by
 obtain ⟨k,rfl⟩:∃k,g=k+1:=⟨g-1,by omega⟩
 have h:=b (k+1) f (abx _)
 unfold fA at h
 show qV c d (k+1) (k+1) s=_
 rw [qV,if_neg om]
 have e:(s.par (k+1)).toNat=p:=by show (s.gs.getD (k+1) Gr.zero).parent.toNat=p;rw [a];rfl
 rw [e]
 exact qtq (s:=s.wO (k+1) c ((s.kQ (k+1) c).add d)) (λi hi j=>b i hi om) om
def q8d (a:x.ay.qU o.cpu=true) (h1:1<=o.ticks/\o.ticks<=4294967295) (hc:o.cpu=(c:Int)) {v:Int} (f:x.cl.getD c 0=v) (h:¬281474976710656<v+o.ticks) (b:x.cu.getD c 0=0):jU x.ay o=(({x with cl:=x.cl.set c (v+o.ticks)}:aF).ay,0,0):=by
 unfold jU
 rw [if_neg (nf a),if_neg om,hc,abI,show x.ay.cl=x.cl from rfl,f,if_neg h]
 dsimp only
 rw [show x.ay.cu=x.cu from rfl,if_pos b]
 rfl
def zew (a:x.ay.qU o.cpu=true) (h1:1<=o.ticks/\o.ticks<=4294967295) (hc:o.cpu=(c:Int)) (h:o.ticks=(d:Int)) {v id:Int} (i:x.cl.getD c 0=v) (j:¬281474976710656<v+o.ticks) (b:x.cu.getD c 0=id) (f:id≠0)
  (hk:fidx x.ts id=(k:Int)) (ht:x.ts[k]?=some t) (l:t.group=(gt:Int)) (m:t.weight=(wt:Int)) (n:(⟨t.v,t.r,wt⟩:En).add d=e):
  jU x.ay o=(FD c d gt ({x with cl:=x.cl.set c (v+d),ts:=x.ts.set k (t.put e)}:aF).ay,id,0):=by
 unfold jU
 rw [if_neg (nf a),if_neg om,hc,abI,show x.ay.cl=x.cl from rfl,i,if_neg j]
 dsimp only
 rw [show x.ay.cu=x.cu from rfl,b,if_neg f,yU (s:=x.ay) hk ht,l,show x.ay.ts=x.ts from rfl,hk,abI,abI,h,abI,wW m,n]
 rfl
def upd {α:Type} (f:α->α) (l:List α) (k:Nat):List α:=(l.take k).map f++l.drop k
theorem zlt {α:Type} (f:α->α) (l:List α) (k:Nat):abr (upd f l k)=abr l:=by grind [upd]
def zex {α:Type} (f:α->α) (l:List α):upd f l 0=l:=rfl
theorem zlu {α:Type} (f:α->α) (l:List α) {k:Nat} (h:abr l<=k):upd f l k=l.map f:=by grind [upd,acu,abM]
theorem zlv {α:Type} (f:α->α) {l:List α} {k j:Nat} (h:k<=j):(upd f l k)[j]?=l[j]?:=by grind [upd]
theorem zlw {α:Type} (f:α->α) {l:List α} {k:Nat} {z:α} (h:l[k]?=some z):(upd f l k).set k (f z)=upd f l (k+1):=by
 obtain ⟨a,rfl⟩:=abF.1 h
 unfold upd
 have b:abr ((l.take k).map f)=k:=by rw [abz,abA];omega
 rw [aeY,if_neg (by rw [b];omega),b,Nat.sub_self,List.drop_eq_getElem_cons a,aeS,List.take_succ_eq_append_getElem a,abW,aby]
 rfl
def r0 (z:Sp):Sp:={z with r:=0}
def qwu (h:o.group=(g:Int)) (h1:1<=o.group/\o.group<abr x.rs) (i:mK o.weight=true) {A:ajq} {m:Nat} {yl:List Sp} (hy:x.rs.getD g Rw.zero=⟨A,m,yl⟩) {f:Gr} (a:x.gs.getD g Gr.zero=f):
  zW x.ay o=(({x with rs:=x.rs.set g ⟨A,m,yl.map r0⟩,gs:=x.gs.set g {f with weight:=o.weight}}:aF).ay,0,0):=by
 have b:g<abr x.rs:=by omega
 unfold zW
 rw [if_neg (by rw [lX];omega),if_neg (nf i),h,abI]
 unfold aF.ay
 simp only [afo]
 rw [Fw b,hy,a]
 rfl
def zey {to:Nat} {h i:Sp} (ht:x.ts[k]?=some t) (j:t.group=(gt:Int)) (hc:t.cpu=(ct:Int)) (l:t.weight=(wt:Int)) (a:x.ay.spot gt ct=h) (b:x.ay.spot gt to=i) (m:(⟨t.v,t.r,wt⟩:En).moved h.floor i.floor=e) (f:lN x.ay gt to=em):
  jK x.ay k (to:Int)=if t.ready=true then iw ({x with ts:=x.ts.set k {t.put e with cpu:=(to:Int)}}:aF).ay em to else ({x with ts:=x.ts.set k {t.put e with cpu:=(to:Int)}}:aF).ay:=by
 have e1:x.ay.ts.getD k Tk.zero=t:=qbv Tk.zero ht
 unfold jK
 rw [e1]
 dsimp only
 rw [j,hc,abI,abI,abI,a,b,wW l,m,f]
 rfl
end
def JY (W:ajg) (gm:Nat) (T:List ajr) (s:bI) (r:ajk) (w':ajg):Prop:=∃y:aF,r= .returned (.tuple #[])/\y.ay=s/\Mem W w' (nD gm y++T)
section
variable {W w w':ajg} {F A T fs:List ajr} {x y:aF} {ng nl nu nt ns gm g c n:Nat}
def q8e {s:bI} (n:Nat) (a:Mem W w F) (b:F.drop n=jS gm y ng nl nu nt ns++T) (d:tJ y ng nl nu nt ns) (hs:y.ay=s):JY W gm T s (.returned (.tuple #[])) w:=⟨y,rfl,hs,(a.jg n b).toB d⟩
def zio {out:iX} {got:Int} (n:Nat) (b:Mem W w F) (d:F.drop n=nD gm y++T) (a:out=(y.ay,got,e)):kR W gm T out (.returned (.tuple #[.int .i64 got,.int .i64 (e:Int)])) w:=by
 subst a
 exact ⟨y,rfl,rfl,b.jg n d⟩
theorem q8f {a:List Rw} (b:g<abr rs) (hz:yl[c]?=some z) (hr:a=rs.set g ⟨E,m,upd r0 yl c⟩):aT a g c (r0 z)=rs.set g ⟨E,m,upd r0 yl (c+1)⟩:=by grind [zf,r0,aT,upd,zlw,afn]
end
def nE:Option Nat->Int
 |none=> -1
 |some b=>(b:Int)
def Aa (s:bI) (o:bQ) (be:Int) (t:Tk):Bool:=uR s o t&& (decide (be<0)||decide ((s.ts.getD be.toNat Tk.zero).weight<t.weight))
section
variable {s:bI} {o:bQ} {n:Nat}
theorem qzh:∀{n b:Nat},gT s o n=some b->b<n:=by intro x;induction x<;>grind [gT]
theorem qts {be:Int} (hb:nE (gT s o n)=be):nE (gT s o (n+1))=if Aa s o be (s.ts.getD n Tk.zero) then (n:Int) else be:=by grind [Tk.zero,gT,nE,uR,Aa]
def qmr {be:Int} (hb:nE (gT s o n)=be): -1<=be/\be<n:=by
 subst hb
 cases h:gT s o n with
 |none=>exact ⟨by decide,by show (-1:Int)<n;omega⟩
 |some b=>have:=qzh h;exact ⟨by show (-1:Int)<=(b:Int);omega,by show (b:Int)<n;omega⟩
theorem q2y {cpu:Int} {M:Int} (a:∀c,aH s c<=M/\0<=aH s c) (b:0<=M):∀n:Nat,-1<=(jk s cpu n).1/\(jk s cpu n).1<n/\ -1<=(jk s cpu n).2/\(jk s cpu n).2<=M:=by intro x;induction x<;>grind [jk,aH]
def Tc {cpu fr v:Int} (hb:jk s cpu n=(fr,v)):jk s cpu (n+1)=if (n:Int)≠cpu/\v<aH s n then ((n:Int),aH s n) else (fr,v):=by
 rw [jk,hb]
def qtt {o:bQ} (a:x.ay.qU o.cpu=true) (hb:nE (gT x.ay o (abr x.ts))= -1):wP x.ay o=(x.ay,0,6):=by
 unfold wP
 rw [if_neg (nf a),show x.ay.ts=x.ts from rfl]
 cases h:gT x.ay o (abr x.ts) with
 |none=>rfl
 |some b=>rw [h] at hb;exact absurd hb (by show ((b:Nat):Int)≠ -1;omega)
def qtu {o:bQ} (a:x.ay.qU o.cpu=true) (hb:nE (gT x.ay o (abr x.ts))=(k:Int)) (ht:x.ts[k]?=some t):wP x.ay o=(jK x.ay k o.cpu,t.id,0):=by
 unfold wP
 rw [if_neg (nf a),show x.ay.ts=x.ts from rfl]
 cases h:gT x.ay o (abr x.ts) with
 |none=>rw [h] at hb;exact absurd hb (by show (-1:Int)≠(k:Int);omega)
 |some b=>
  rw [h] at hb
  have e:b=k:=by have d:(b:Int)=(k:Int):=hb;omega
  subst e
  dsimp only
  rw [qbv Tk.zero ht]
def qwv {o:bQ} (h1:x.ay.qU o.to=true) (a:pI o.task=true) (hk:fidx x.ts o.task=(k:Int)) (ht:x.ts[k]?=some t) (b:o.task∉x.cu) (d:t.cpu≠o.to) (e:jJ t.mask o.to=true):zX x.ay o=(jK x.ay k o.to,0,0):=by
 unfold zX
 rw [if_neg (nf h1),if_neg (nf a),if_neg (by rw [show x.ay.ts=x.ts from rfl,hk];omega),if_neg (show ¬o.task∈x.ay.cu from b),yU (s:=x.ay) hk ht,if_neg d,if_neg (nf e),show x.ay.ts=x.ts from rfl,hk,abI]
end
def Td (t:Tk):∀u∈bZ t,u.oneCell'=true:=by simp [bZ,abV]
def q8g (l:List Tk) (t:Tk):l.flatMap bZ++bZ t=(l++[t]).flatMap bZ:=by simp
def nV (l:List Tk):abr (l.flatMap bZ)=abr l*8:=rZ bZ 8 qm l
def zT (m:Nat):List ajh:=(ab2 (afz Tk.zero.cells).cells m).toList
def Oe (m:Nat):abr (zT m)=m*8:=by unfold zT;rw [Array.length_toList,size_zeroCells];rfl
def zpr (m:Nat):∀v∈zT m,v.oneCell'=true:=by
 intro v a
 unfold zT ab2 at a
 simp only [Array.toList_map,ab7] at a
 obtain ⟨k,_,rfl⟩:=a
 have hs:(afz Tk.zero.cells).cells.size=8:=rfl
 have b:k% (afz Tk.zero.cells).cells.size<8:=by rw [hs];exact adJ _ de
 generalize k% (afz Tk.zero.cells).cells.size=j at b
 have:∀j,j<8->((afz Tk.zero.cells).cells[j]!).oneCell'=true:=by decide
 exact this j b
theorem Mem.mY {fs:List ajr} (h:Mem W w fs) {j g n c a:Nat} {l q:List Tk} {ys:List ajh} (hi:fs[j]?=some (.row (.slice (some ⟨g,0,none⟩) n c) n (l.flatMap bZ++ys) 232 8)) (e:∃b,(l.drop a).take b=q) (o:a<=abr l):∀k v,(q.flatMap bZ)[k]?=some v->w.cell? ((⟨g,a*8,none⟩:Addr).add k)=some v:=by
 obtain ⟨b,rfl⟩:=e
 intro k v d
 rw [acL]
 refine h.MN hi (a*8) (ys:=((l.drop a).take b).flatMap bZ) (λk v d=>?_) k v d
 have f:l.flatMap bZ=(l.take a).flatMap bZ++(((l.drop a).take b).flatMap bZ++((l.drop a).drop b).flatMap bZ):=by
  rw [<-abZ,ab1,<-abZ,ab1]
 have i:abr ((l.take a).flatMap bZ)=a*8:=by rw [nV,abA];omega
 have m:=(abF.1 d).1
 rw [f,aby,<-i,List.getElem?_append_right (Nat.le_add_right _ _),Nat.add_sub_cancel_left,aby,adU m]
 exact d
def wX (l:List Tk) (id:Int):Nat:=abr (l.takeWhile λt=>decide (t.id<=id))
def qtv (l:List Tk) (id:Int):wX l id<=abr l:=(aeK _).length_le
def qox (l:List Tk) (id:Int):l.take (wX l id)=(l.takeWhile λt=>decide (t.id<=id))/\l.drop (wX l id)=(l.dropWhile λt=>decide (t.id<=id)):=by
 have a:=adP (l₁:=l.takeWhile λt=>decide (t.id<=id)) (l₂:=l.dropWhile λt=>decide (t.id<=id))
 have b:=List.drop_left (l₁:=l.takeWhile λt=>decide (t.id<=id)) (l₂:=l.dropWhile λt=>decide (t.id<=id))
 rw [afA] at a b
 exact ⟨a,b⟩
def qtw {l:List Tk} {id:Int} {k:Nat} (hk:k<=abr l) (h:∀j,j<k->(l.getD j Tk.zero).id<=id) (hs:k=abr l\/id<(l.getD k Tk.zero).id):wX l id=k:=by
 induction l generalizing k with
 |nil=>simp at hk;subst hk;rfl
 | cons t r b =>
  unfold wX at*
  cases k with
  | zero =>
   rcases hs with a|a
   ·simp at a
   ·have c:¬t.id<=id:=by have e:id<t.id:=a;omega
    rw [ae0,if_neg (by rw [decide_eq_true_eq];exact c)]
    rfl
  | succ k =>
   have d:t.id<=id:=h 0 om
   rw [ae0,if_pos (by rw [decide_eq_true_eq];exact d),abS]
   rw [b (k:=k) (by simpa using hk) (λj f=>h (j+1) om) (by
    rcases hs with a|a
    ·exact .inl (by simpa using a)
    ·exact .inr a)]
def tL (w:ajg) (l:List Tk) (id:Int) (r:ajk) (a:ajg):Prop:=(∃i:Int,r= .returned (.int .i64 i)/\(if i<0 then abr l else i.toNat)=wX l id/\ -1<=i/\i<=abr l)/\Below w.heap.size w a
def q2z {l:List Tk} {id:Int} (hk:k<abr l) (h:∀j,j<k->(l.getD j Tk.zero).id<=id) (hs:id<(l.getD k Tk.zero).id) (hb:Below w.heap.size w W):tL w l id (.returned (.int .i64 (k:Int))) W:=
 ⟨⟨k,rfl,by rw [if_neg om,qtw om h (.inr hs)];rfl,by omega,by omega⟩,hb⟩
def q20 {l:List Tk} {id:Int} (h:∀j,j<abr l->(l.getD j Tk.zero).id<=id) (hb:Below w.heap.size w W):tL w l id (.returned (.int .i64 (-1))) W:=
 ⟨⟨-1,rfl,by rw [if_pos de,qtw (abx _) h (.inl rfl)],by omega,by omega⟩,hb⟩
theorem q21 {l:List Tk} {id:Int} (h:∀j,j<k->(l.getD j Tk.zero).id<=id) (hk:(l.getD k Tk.zero).id<=id):∀j,j<k+1->(l.getD j Tk.zero).id<=id:=by grind
def jr (l:List Tk) (i:Nat) (t:Tk):List Tk:=l.take i++t::l.drop i
def qtx (l:List Tk) (i:Nat) (t:Tk):(jr l i t).flatMap bZ=(l.take i).flatMap bZ++(bZ t++(l.drop i).flatMap bZ):=by
 unfold jr
 rw [abZ,abO]
theorem Og {l:List Tk} {t:Tk} (h:i<=abr l):abr (jr l i t)=abr l+1:=by grind [jr]
def zez {l:List Tk} {t:Tk} (h:i=abr l):l++[t]=jr l i t:=by
 subst h
 unfold jr
 rw [List.take_length,List.drop_length]
def ze0 {l:List Tk} {t:Tk} (h:i<=abr l):putAt (putAt ((l.take i).flatMap bZ++zT (abr l+1-i)) (i*8) (bZ t)) ((i+1)*8) ((l.drop i).flatMap bZ)=(jr l i t).flatMap bZ:=by
 have a:abr ((l.take i).flatMap bZ)=i*8:=by rw [nV,abA];omega
 have b:abr ((l.take i).flatMap bZ++bZ t)=(i+1)*8:=by rw [abu,a,qm];omega
 have e:((zT (abr l+1-i)).drop (abr (bZ t))).drop (abr ((l.drop i).flatMap bZ))=[]:=acu (by rw [abE,Oe,qm,nV,abE];omega)
 rw [<-a,NC,<-b,NC,qtx,e,abN,aby]
def q8h {l:List Tk} {t:Tk} {ys:List ajh} (h:i<=abr l) (hy:abr ys=8):putAt (putAt (l.flatMap bZ++ys) ((i+1)*8) ((l.drop i).flatMap bZ)) (i*8) (bZ t)=(jr l i t).flatMap bZ:=by
 have a:abr ((l.take i).flatMap bZ)=i*8:=by rw [nV,abA];omega
 have b:abr ((l.drop i).flatMap bZ)=(abr l-i)*8:=by rw [nV,abE]
 have c:l.flatMap bZ++ys=(l.take i).flatMap bZ++((l.drop i).flatMap bZ++ys):=by
  rw [<-aby,<-abZ,ab1]
 rw [c,show (i+1)*8=abr ((l.take i).flatMap bZ)+8 by rw [a];omega,q16,<-a,NC,qtx,aby]
 congr 2
 rw [qm]
 unfold putAt
 have e:((l.drop i).flatMap bZ++ys).drop (8+abr ((l.drop i).flatMap bZ))=[]:=acu (by rw [abu,b,hy];omega)
 rw [aby,List.drop_left' (by rw [abA,abu,b,hy];omega),e,abN]
def ze1 {l:List Tk} (h:i<abr l):(l.take i).flatMap bZ++(l.drop (i+1)).flatMap bZ=(l.eraseIdx i).flatMap bZ:=by
 rw [<-abZ,List.eraseIdx_eq_take_drop_succ]
section
variable {x:aF} {o:bQ} {k g c z:Nat} {t t1:Tk} {em:List Nat} {id:Int}
def q22 (a:x.ay.qU o.cpu=true) (hc:o.cpu=(c:Int)) (b:x.cu.getD c 0=id) (d:id≠0) (hk:fidx x.ts id=(k:Int)) (ht:x.ts[k]?=some t) (e:o.kind≠4):tC x.ay o=(({x with cu:=x.cu.set c 0,ts:=x.ts.set k {t with ready:=false}}:aF).ay,id,0):=by
 unfold tC
 rw [if_neg (nf a),hc,abI,show x.ay.cu=x.cu from rfl,b,if_neg d]
 dsimp only
 rw [show x.ay.ts=x.ts from rfl,hk,abI,qbv Tk.zero ht,if_neg e]
 rfl
def ze2 (a:x.ay.qU o.cpu=true) (hc:o.cpu=(c:Int)) (b:x.cu.getD c 0=id) (d:id≠0) (hk:fidx x.ts id=(k:Int)) (ht:x.ts[k]?=some t) (e:o.kind=4):tC x.ay o=(({x with cu:=x.cu.set c 0,ts:=(x.ts.set k {t with ready:=false}).eraseIdx k}:aF).ay,id,0):=by
 unfold tC
 rw [if_neg (nf a),hc,abI,show x.ay.cu=x.cu from rfl,b,if_neg d]
 dsimp only
 rw [show x.ay.ts=x.ts from rfl,hk,abI,qbv Tk.zero ht,if_pos e]
 rfl
def qty (a:x.ay.qU o.cpu=true) (h1:pI o.task=true) (h:0<=o.group/\o.group<abr x.rs) (e:¬(mK o.weight=false\/o.mask=0\/yN o.mask x.au=true)) (i:fidx x.ts o.task<0) (f:jJ o.mask o.cpu=true) (d:o.group=(g:Int)) (hc:o.cpu=(c:Int)) {m:Nat} (hz:(x.ay.spot g c).floor=m)
  (ht:(⟨o.task,o.group,o.weight,o.cpu,o.mask,true,m,0⟩:Tk)=t1) (b:lN x.ay g c=em):zS x.ay o=(iw ({x with ts:=jr x.ts (wX x.ts o.task) t1}:aF).ay em c,0,0):=by
 unfold zS
 rw [if_neg (nf a),if_neg (nf h1),if_neg (by rw [lX];omega),if_neg (show ¬(mK o.weight=false\/o.mask=0\/yN o.mask x.ay.au=true) from e),if_neg (by rw [show x.ay.ts=x.ts from rfl];omega),if_neg (nf f),d,hc,abI,abI,b,hz]
 rw [d,hc] at ht
 rw [show x.ay.ts=x.ts from rfl,ht]
 unfold jr
 rw [(qox x.ts o.task).1,(qox x.ts o.task).2]
 rfl
end
structure jv (s:bI):Prop where
 ok:s.Ok
 au:1<=s.au/\s.au<=64
 aj:s.aj<=1099511627776
 gs:dO s.gs=true
 cl:(abr s.cl:Int)=s.au
 cu:(abr s.cu:Int)=s.au
 sp:abr s.sp=abr s.gs
 cls:∀c,c<abr s.cl->iV (s.cl.getD c 0)=true
 rows:∀g,g<abr s.sp->(abr (s.sp.getD g []):Int)=s.au
 spots:∀(g c:Nat),g<abr s.sp->(c:Int)<s.au->fq s g (s.spot g c)=true
 sort:fO s.ts
 tasks:∀t∈s.ts,gV t s.au (abr s.sp)
def lC (s:bI):Prop:=∀c,c<abr s.cu->s.cu.getD c 0=0\/∃t∈s.ts,t.id=s.cu.getD c 0/\t.ready=true/\t.cpu=(c:Int)
structure GoodS (s:bI):Prop where
 sh:jv s
 cur:lC s
theorem qzj {s:bI}:(∀i,i<abr s.ts->(i=0\/(s.ts.getD (i-1) Tk.zero).id<(s.ts.getD i Tk.zero).id))↔fO s.ts:=by
 constructor
 ·intro h i j b
  induction j with
  |zero=>omega
  |succ j d=>
   grind
 ·intro h i hi
  rcases ach i with a|a
  ·exact .inl a
  ·exact .inr (h (i-1) i om hi)
def wY {α:Type} {l:List α} {x:α} (d:α) (h:x∈l):∃i,i<abr l/\l.getD i d=x:=by
 obtain ⟨i,hi,rfl⟩:=acn h
 exact ⟨i,hi,by rw [abw,abv hi];rfl⟩
theorem Oh {s:bI} (b:s.Ok):og s=true↔jv s:=by
 unfold og gL NG
 simp only [abH,decide_eq_true_eq]
 constructor
 ·rintro ⟨⟨⟨⟨f,j,k⟩,l⟩,m,n,o⟩,p,r,q⟩
  have d:∀g,g<abr s.sp->(abr (s.sp.getD g []):Int)=s.au/\∀c,c<abr (s.sp.getD g [])->fq s g (s.spot g c)=true:=λg a=>by
   grind [wJ,rowOk]
  have ht:∀i,i<abr s.ts->(i=0\/(s.ts.getD (i-1) Tk.zero).id<(s.ts.getD i Tk.zero).id)/\eG s (s.ts.getD i Tk.zero)=true:=λi hi=>by
   grind [wJ,jD]
  refine ⟨b,⟨f,j⟩,k,l,m,n,o,λc hc=>wJ p hc,λg a=>(d g a).1,λg c a hc=>(d g a).2 c (by have:=(d g a).1;omega),qzj.1 λi hi=>(ht i hi).1,λt e=>?_⟩
  obtain ⟨i,hi,rfl⟩:=wY Tk.zero e
  exact Ta.1 (ht i hi).2
 ·intro h
  refine ⟨⟨⟨⟨h.au.1,h.au.2,h.aj⟩,h.gs⟩,h.cl,h.cu,h.sp⟩,wI h.cls,wI λg a=>?_,wI λi hi=>?_⟩
  ·unfold rowOk
   rw [abH,decide_eq_true_eq]
   exact ⟨h.rows g a,wI λc hc=>h.spots g c a (by have:=h.rows g a;omega)⟩
  ·unfold jD
   rw [abH,adD,beq_iff_eq,decide_eq_true_eq]
   exact ⟨qzj.2 h.sort i hi,Ta.2 (h.tasks _ (qf Tk.zero hi))⟩
def q8i {l:List Tk} (hs:fO l) (h1:∀t∈l,1<=t.id):∀i:Nat,i<abr l->((i:Nat):Int)+1<=(l.getD i Tk.zero).id
 |0,h=>by have:=h1 _ (qf Tk.zero h);omega
 |i+1,h=>by
  have:=q8i hs h1 i om
  have:=hs i (i+1) om h
  omega
def jv.few {s:bI} (h:jv s):abr s.ts<=65535:=by
 rcases ach (abr s.ts) with a|a
 ·omega
 ·have b:=q8i h.sort (λt ht=>(h.tasks t ht).id.1) (abr s.ts-1) om
  have d:=(h.tasks _ (qf Tk.zero (show abr s.ts-1<abr s.ts by omega))).id.2
  omega
def zlx {l:List Tk} (hs:fO l) {t u:Tk} (ht:t∈l) (d:u∈l) (h:t.id=u.id):t=u:=by
 obtain ⟨i,hi,rfl⟩:=wY Tk.zero ht
 obtain ⟨j,e,rfl⟩:=wY Tk.zero d
 rcases ab0 i j with a|a
 ·have:=hs i j a e;omega
 ·rcases ab0 j i with b|b
  ·have:=hs j i b hi;omega
  ·rw [show i=j by omega]
def q8j {l:List Tk} (hs:fO l) {i:Nat} (hi:i<abr l):fidx l (l.getD i Tk.zero).id=(i:Int):=by
 unfold fidx
 rw [R9 hi rfl (λk a=>by have:=hs k i a hi;omega)]
theorem Oi {s:bI} (hs:fO s.ts):(∀c,c<abr s.cu->fB s c=true)↔lC s:=by
 have key:∀c,fB s c=true↔(s.cu.getD c 0=0\/∃t∈s.ts,t.id=s.cu.getD c 0/\t.ready=true/\t.cpu=(c:Int)):=by
  intro c
  unfold fB
  rw [adD,decide_eq_true_eq]
  refine or_congr Iff.rfl ?_
  constructor
  ·grind [Tk.zero,Sc,qf]
  ·rintro ⟨t,ht,a,d,e⟩
   obtain ⟨i,hi,rfl⟩:=wY Tk.zero ht
   rw [<-a,R9 hi rfl (λk b=>by have:=hs k i b hi;omega)]
   grind
 exact ⟨λh c hc=>(key c).1 (h c hc),λh c hc=>(key c).2 (h c hc)⟩
def Oj {y:aF} (h:jv y.ay):dY y (abr y.gs) (abr y.cl) (abr y.cu) (abr y.ts) (abr y.rs):=by
 have d:=(qt h.gs).2.1
 have a:abr y.gs<=256:=d
 have f:abr y.rs=abr y.gs:=by rw [<-lX];exact h.sp
 have j:(abr y.cl:Int)=y.au:=h.cl
 have k:(abr y.cu:Int)=y.au:=h.cu
 have m:1<=y.au/\y.au<=64:=h.au
 have n:abr y.ts<=65535:=h.few
 refine ⟨h.ok,⟨by omega,by omega,by omega,by omega,by omega,λr e=>?_⟩,wM ((Oh h.ok).2 h),⟨rfl,rfl,rfl,rfl,rfl⟩⟩
 obtain ⟨g,a,rfl⟩:=wY Rw.zero e
 have b:=h.rows g (by rw [lX];exact a)
 rw [kH a] at b
 have o:((y.rs.getD g Rw.zero).l.length:Int)=y.au:=b
 omega
section
variable {s:bI} {g c i:Nat} {z:Sp} {t t':Tk}
theorem ze3 (d:g<abr s.sp) (hc:c<abr (s.sp.getD g [])):∀a b,(s.yO g c z).spot a b=if a=g/\b=c then z else s.spot a b:=by grind [bI.yO,bI.spot,getD_set_ne,zf]
def FE:(s.yO g c z).sp.length=abr s.sp:=abL ..
theorem qtz (a:Nat):abr ((s.yO g c z).sp.getD a [])=abr (s.sp.getD a []):=by grind [bI.yO,getD_set_ne,zf]
theorem jv.spot (h:jv s) (b:g<abr s.sp) (hc:(c:Int)<s.au) (hz:z.Ok) (hs:fq s g z=true):jv (s.yO g c z):=by
 have k:=h.rows g b
 have d:=ze3 (z:=z) b (show c<abr (s.sp.getD g []) by omega)
 refine ⟨⟨h.ok.au,h.ok.aj,h.ok.gs,h.ok.cl,h.ok.cu,h.ok.ts,λl n y m=>?_⟩,h.au,h.aj,h.gs,h.cl,h.cu,FE.trans h.sp,h.cls,λf a=>?_,λf o a j=>?_,h.sort,λu p=>?_⟩
 ·rcases ab4 (show l∈s.sp.set g ((s.sp.getD g []).set c z) from n) with q|rfl
  ·exact h.ok.sp l q y m
  ·rcases ab4 m with r|rfl
   ·exact h.ok.sp _ (qf [] b) y r
   ·exact hz
 ·rw [qtz];exact h.rows f (by rwa [FE] at a)
 ·rw [d]
  rw [FE] at a
  split
  ·rename_i e;rw [e.1];exact hs
  ·exact h.spots f o a j
 ·rw [FE];exact h.tasks u p
theorem ze4 {l:List Tk} (hs:fO l) (ht:l[i]?=some t) (f:t'.id=t.id):fO (l.set i t'):=by
 have key:∀k,((l.set i t').getD k Tk.zero).id=(l.getD k Tk.zero).id:=by
  grind
 intro a b d e
 rw [abL] at e
 rw [key,key]
 exact hs a b d e
theorem jv.task (h:jv s) (ht:s.ts[i]?=some t) (a:t'.id=t.id) (e:t'.Ok) (f:gV t' s.au (abr s.sp)):jv (s.jT i t'):=by
 refine ⟨⟨h.ok.au,h.ok.aj,h.ok.gs,h.ok.cl,h.ok.cu,λu b=>?_,h.ok.sp⟩,h.au,h.aj,h.gs,h.cl,h.cu,h.sp,h.cls,h.rows,h.spots,ze4 h.sort ht a,λu b=>?_⟩
 ·rcases ab4 b with d|rfl
  ·exact h.ok.ts u d
  ·exact e
 ·rcases ab4 b with d|rfl
  ·exact h.tasks u d
  ·exact f
theorem lC.task (h:lC s) (hs:fO s.ts) (ht:s.ts[i]?=some t) (b:t'.id=t.id) (hr:t.ready=true->(∃c,c<abr s.cu/\s.cu.getD c 0=t.id/\t.cpu=(c:Int))->t'.ready=true/\t'.cpu=t.cpu):lC (s.jT i t'):=by
 intro c hc
 rcases h c hc with a|⟨u,l,a,m,d⟩
 ·exact .inl a
 ·refine .inr ?_
  have hi:=(abF.1 ht).1
  have f:t∈s.ts:=abK ht
  by_cases e:u.id=t.id
  ·have e2:=zlx hs l f e
   subst e2
   obtain ⟨n,o⟩:=hr m ⟨c,hc,a.symm,d⟩
   exact ⟨t',abK (adk hi),b.trans a,n,o.trans d⟩
  ·obtain ⟨j,p,rfl⟩:=wY Tk.zero l
   have k:i≠j:=λe2=>e (by subst e2;rw [qbv Tk.zero ht])
   refine ⟨s.ts.getD j Tk.zero,?_,a,m,d⟩
   have q:(s.ts.set i t')[j]?=some (s.ts.getD j Tk.zero):=by rw [aeV k];exact getD_at Tk.zero p
   exact abK q
end
section
variable {s:bI} {g c i d:Nat} {z:Sp} {t t':Tk} {e:En} {o:bQ}
def q8k (h:jv s) (a:g<abr s.gs):∃w:Nat,(s.gs.getD g Gr.zero).weight=(w:Int)/\1<=w/\w<=65536:=Oa h.gs a
theorem ze5 (a:0<g) (h:cO z.v z.r (s.gs.getD g Gr.zero).weight=true):fq s g z=true:=by grind [fq]
def ze6 (h:jv s) (a:g<abr s.sp) (hc:(c:Int)<s.au):cO (s.spot g c).v (s.spot g c).r (s.gs.getD g Gr.zero).weight=true:=by
 have:=h.spots g c a hc
 unfold fq at this
 rw [abH] at this
 exact this.1
def q8l (h:jv s) (b:g<abr s.sp) (hc:(c:Int)<s.au):(s.kQ g c).Ok/\((s.kQ g c).w:Int)=(s.gs.getD g Gr.zero).weight:=by
 obtain ⟨w,a,_⟩:=q8k h (g:=g) (by rw [<-h.sp];exact b)
 have f:=ze6 h b hc
 have e:s.kQ g c=⟨(s.spot g c).v,(s.spot g c).r,w⟩:=by unfold bI.kQ;rw [a];rfl
 rw [e]
 exact ⟨aaj f a (zZ h.ok g c).v,a.symm⟩
def J2 {v r w:Nat} (h:cO v r w=true):r<65536:=by
 unfold cO at h
 rw [decide_eq_true_eq] at h
 omega
def jv.run (h:jv s) (b:0<g) (f:g<abr s.sp) (hc:(c:Int)<s.au) (a:e.Ok) (j:(e.w:Int)=(s.gs.getD g Gr.zero).weight):jv (s.wO g c e):=by
 refine h.spot f hc ⟨a.2,?_,(zZ h.ok g c).floor⟩ (ze5 b ?_)
 ·show e.r<_
  have:=J2 a.1
  omega
 ·show cO e.v e.r _=true
  rw [<-j];exact a.1
def q8m:(s.wO g c e).sp.length=abr s.sp:=FE
def jv.wake (h:jv s) (hc:(c:Int)<s.au):∀(l:List Nat),(∀g∈l,0<g/\g<abr s.sp)->jv (iw s l c):=by
 intro l
 induction l generalizing s with
 |nil=>intro _;exact h
 |cons g r n=>
  intro b
  have f:=b g (aci ..)
  have j:=q8l h f.2 hc
  have k:=aaB j.1 (s.spot (s.par g).toNat c).floor s.aj (zZ h.ok _ _).floor
  have p:jv (mq c s g):=h.run f.1 f.2 hc k.1 (by rw [k.2];exact j.2)
  exact n (s:=mq c s g) p hc λm a=>⟨(b m (ab5 _ a)).1,by rw [show (mq c s g).sp.length=abr s.sp from q8m];exact (b m (ab5 _ a)).2⟩
structure dW (s s':bI):Prop where
 au:s'.au=s.au
 aj:s'.aj=s.aj
 gs:s'.gs=s.gs
 cl:s'.cl=s.cl
 cu:s'.cu=s.cu
 ts:s'.ts=s.ts
 len:abr s'.sp=abr s.sp
 row:∀g,abr (s'.sp.getD g [])=abr (s.sp.getD g [])
def dW.refl (s:bI):dW s s:=⟨rfl,rfl,rfl,rfl,rfl,rfl,rfl,λ_=>rfl⟩
theorem dW.trans {a b c:bI} (h:dW a b) (k:dW b c):dW a c:=⟨k.au.trans h.au,k.aj.trans h.aj,k.gs.trans h.gs,k.cl.trans h.cl,k.cu.trans h.cu,k.ts.trans h.ts,k.len.trans h.len,λg=>(k.row g).trans (h.row g)⟩
theorem dW.spot:dW s (s.yO g c z):=⟨rfl,rfl,rfl,rfl,rfl,rfl,FE,qtz⟩
def DK (c:Nat):∀(l:List Nat) (s:bI),dW s (iw s l c)
 |[],s=>dW.refl s
 |g::r,s=>(dW.spot (s:=s)).trans (DK c r (mq c s g))
def Te (c d:Nat):∀(f g:Nat) (s:bI),dW s (qV c d f g s)
 |0,_,s=>dW.refl s
 |f+1,g,s=>by
  rw [qV]
  split
  ·exact dW.refl s
  ·exact (dW.spot (s:=s)).trans (Te c d f _ _)
def jv.DL (h:jv s) (hc:(c:Int)<s.au) (d:Nat):∀(f g:Nat),g<abr s.sp->jv (qV c d f g s):=by
 intro f
 induction f generalizing s with
 |zero=>intro g _;exact h
 | succ f k =>
  intro g a
  rw [qV]
  split
  ·exact h
  ·rename_i n
   have b:=q8l h a hc
   have j:=aaA b.1 d
   have l:jv (s.wO g c ((s.kQ g c).add d)):=h.run om a hc j.1 (by rw [j.2];exact b.2)
   have m:=zR h.gs (g:=g) (by rw [<-h.sp];exact a) g om (abx _)
   unfold fA at m
   exact k (s:=s.wO g c ((s.kQ g c).add d)) l hc _ (by rw [q8m];show (s.gs.getD g Gr.zero).parent.toNat<_;omega)
theorem Tf (a:g<abr s.sp):(gF s).sp.getD g []=(s.sp.getD g []).mapIdx λc x=>iW s g c x:=by grind [gF]
theorem Ab:(gF s).sp.length=abr s.sp:=by unfold gF;dsimp only;rw [afa]
theorem qzk (g:Nat):abr ((gF s).sp.getD g [])=abr (s.sp.getD g []):=by grind [Tf,Ab]
theorem qt0 (a:g<abr s.sp) (hc:c<abr (s.sp.getD g [])):(gF s).spot g c=iW s g c (s.spot g c):=by grind [bI.spot,Tf]
theorem Tg (g c:Nat):((gF s).spot g c).v=(s.spot g c).v/\((gF s).spot g c).r=(s.spot g c).r:=by grind [bI.spot,q73,gF,Ab,qzk,qt0]
theorem ze7 (g c:Nat):aU (gF s) g c=aU s g c:=by grind [qou,gF,Ab,Tg]
def zps (a:s.Ok) (b:aU s g c≠[]):(aO bP (aU s g c)).v<18446744073709551616:=by
 rcases NY (SX a b) with ⟨t,ht,_,f⟩|⟨h,_,_,_,_,j⟩
 ·rw [f];exact (a.ts t ht).v
 ·rw [j];exact (zZ a h c).v
def ze8 (a:s.Ok) (hz:z.Ok):(iW s g c z).Ok:=by
 unfold iW
 split
 ·exact hz
 ·rename_i b
  have:=zps a (show aU s g c≠[] by simpa using b)
  refine ⟨hz.v,hz.r,?_⟩
  show max z.floor (aO bP (aU s g c)).v<_
  have:=hz.floor
  rw [Nat.max_def]
  split<;>omega
def zly {s s':bI} (a:s'.gs=s.gs) {z b:Sp} (f:b.v=z.v) (hr:b.r=z.r):fq s' g b=fq s g z:=by
 unfold fq
 rw [a,f,hr]
def jv.rise (h:jv s):jv (gF s):=by
 refine ⟨⟨h.ok.au,h.ok.aj,h.ok.gs,h.ok.cl,h.ok.cu,h.ok.ts,λl f y b=>?_⟩,h.au,h.aj,h.gs,h.cl,h.cu,Ab.trans h.sp,h.cls,λg a=>?_,λg c a hc=>?_,h.sort,λu j=>?_⟩
 ·obtain ⟨g,a,rfl⟩:=wY [] f
  rw [Ab] at a
  rw [Tf a] at b
  obtain ⟨c,hc,rfl⟩:=acn b
  rw [aeZ]
  exact ze8 h.ok (h.ok.sp _ (qf [] a) _ (ada _))
 ·rw [qzk];exact h.rows g (by rwa [Ab] at a)
 ·rw [Ab] at a
  have e:=zly (s:=s) (s':=gF s) (g:=g) rfl (Tg (s:=s) g c).1 (Tg (s:=s) g c).2
  rw [e]
  exact h.spots g c a hc
 ·rw [Ab];exact h.tasks u j
def GoodS.rise (h:GoodS s):GoodS (gF s):=⟨h.sh.rise,h.cur⟩
theorem q23 (h:GoodS s):lM (gF s)=true:=by
 have a:=h.rise
 unfold lM
 rw [(Oh a.sh.ok).2 a.sh,acj]
 refine wI λc hc=>?_
 rw [(Oi a.sh.sort).2 a.cur c hc,acj]
 refine wI λg b=>?_
 rw [Ab] at b
 have f:(c:Int)<s.au:=by have k:=h.sh.cu;have l:c<abr s.cu:=hc;omega
 have j:c<abr (s.sp.getD g []):=by have:=h.sh.rows g b;omega
 grind [kY,aU,iW,ze7,qt0]
theorem q24 (a:s.Ok) (h:lM s=true):GoodS s:=by
 unfold lM at h
 rw [abH] at h
 have b:=(Oh a).1 h.1
 refine ⟨b,(Oi b.sort).1 λc hc=>?_⟩
 grind [wJ]
def J3 (h:jv s) (ht:s.ts[i]?=some t):gV t s.au (abr s.sp)/\t.Ok:=⟨h.tasks t (abK ht),h.ok.ts t (abK ht)⟩
def Ol (a:gV t s.au (abr s.sp)) (b:t.Ok) (h:e.Ok):gV (t.put e) s.au (abr s.sp)/\(t.put e).Ok:=by
 have f:=h.1
 unfold cO at f
 rw [decide_eq_true_eq] at f
 refine ⟨⟨a.id,a.group,a.cpu,⟨f.1,f.2.1⟩,a.mask,a.bit,h.1⟩,⟨b.id,b.group,?_,b.cpu,b.mask,h.2,?_⟩⟩
 ·show aX ((e.w:Nat):Int);unfold aX;omega
 ·show e.r<_;omega
def qoy (a:gV t s.au (abr s.sp)) (f:t.Ok) (b:Bool):gV {t with ready:=b} s.au (abr s.sp)/\({t with ready:=b}:Tk).Ok:=⟨⟨a.id,a.group,a.cpu,a.weight,a.mask,a.bit,a.ent⟩,⟨f.id,f.group,f.weight,f.cpu,f.mask,f.v,f.r⟩⟩
def Ti (a:gV t s.au (abr s.sp)) (b:t.Ok):t.en.Ok/\(t.en.w:Int)=t.weight:=by
 have f:=a.weight
 have e:t.en=⟨t.v,t.r,t.weight.toNat⟩:=rfl
 rw [e]
 exact ⟨aaj a.ent om b.v,by show ((t.weight.toNat:Nat):Int)=t.weight;omega⟩
theorem Tj {id:Int} (h:¬fidx s.ts id<0):∃(k:Nat) (t:Tk),fidx s.ts id=(k:Int)/\s.ts[k]?=some t/\t.id=id/\pJ s id=t:=by grind [JN,yU]
def Tn (h:jv s) (a:g<abr s.sp):∀k∈lN s g c,0<k/\k<abr s.sp:=λk b=>by
 have:=qos (s:=s) (c:=c) (g:=g) (zR h.gs (by rw [<-h.sp];exact a)) k b
 exact ⟨this.1,by omega⟩
theorem lC.but {s s':bI} (h:lC s) (hb:dW s s'):lC s':=by
 unfold lC
 rw [hb.cu,hb.ts]
 exact h
theorem q25 (h:GoodS s) (a:(zU s o).2.2=0):GoodS (zU s o).1:=by
 unfold zU at a⊢
 split at a
 ·cases a
 ·split at a
  ·cases a
  ·rename_i w q
   rw [if_neg w,if_neg q]
   split at a
   ·cases a
   ·rename_i j
    rw [if_neg j]
    obtain ⟨k,t,x,ht,y,b⟩:=Tj q
    rw [b] at j
    simp only [b,x,abI]
    obtain ⟨f,r⟩:=J3 h.sh ht
    have l:t.group.toNat<abr s.sp:=by have:=f.group;omega
    have m:=Ti f r
    have A:=aaB m.1 (s.spot t.group.toNat t.cpu.toNat).floor s.aj (zZ h.sh.ok _ _).floor
    have u:=Ol f r A.1
    have v:=qoy u.1 u.2 true
    have n:jv (s.jT k {t.put (t.en.woken (s.spot t.group.toNat t.cpu.toNat).floor s.aj) with ready:=true}):=h.sh.task ht rfl v.2 v.1
    have p:lC (s.jT k {t.put (t.en.woken (s.spot t.group.toNat t.cpu.toNat).floor s.aj) with ready:=true}):=h.cur.task h.sh.sort ht rfl λB _=>absurd B j
    exact ⟨n.wake (by show ((t.cpu.toNat:Nat):Int)<s.au;have:=f.cpu;omega) _ (Tn h.sh l),p.but (DK ..)⟩
theorem qqn (h:GoodS s) (a:(zV s o).2.2=0):GoodS (zV s o).1:=by
 unfold zV at a⊢
 split at a
 ·cases a
 ·split at a
  ·cases a
  ·rename_i n f
   rw [if_neg n,if_neg f]
   split at a
   ·cases a
   ·rename_i j
    rw [if_neg j]
    obtain ⟨k,t,p,ht,q,b⟩:=Tj j
    simp only [b,p,abI]
    obtain ⟨u,l⟩:=J3 h.sh ht
    have x:1<=o.weight/\o.weight<=65536:=by simpa [mK] using f
    obtain ⟨z,hz⟩:∃z:Nat,o.weight=(z:Int):=⟨o.weight.toNat,by omega⟩
    have m:=Ol u l (e:=⟨t.v,0,z⟩) ⟨by unfold cO;rw [decide_eq_true_eq];exact ⟨by show (1:Int)<=(z:Int);omega,by show (z:Int)<=_;omega,by show ((0:Nat):Int)<(z:Int);omega,.inr rfl⟩,l.v⟩
    have e:({t with r:=0,weight:=o.weight}:Tk)=t.put ⟨t.v,0,z⟩:=by rw [hz];rfl
    rw [e]
    exact ⟨h.sh.task ht rfl m.2 m.1,h.cur.task h.sh.sort ht rfl λw _=>⟨w,rfl⟩⟩
theorem zlz (h:jv s) {v:Int} (j:0<=v/\v<=281474976710656):jv {s with cl:=s.cl.set c v}:=by
 refine ⟨⟨h.ok.au,h.ok.aj,h.ok.gs,λz hz=>?_,h.ok.cu,h.ok.ts,h.ok.sp⟩,h.au,h.aj,h.gs,by show (abr (s.cl.set c v):Int)=_;rw [abL];exact h.cl,h.cu,h.sp,λd b=>?_,h.rows,h.spots,h.sort,h.tasks⟩
 ·rcases ab4 hz with f|rfl
  ·exact h.ok.cl z f
  ·unfold aX;omega
 ·have a:d<abr (s.cl.set c v):=b
  show iV ((s.cl.set c v).getD d 0)=true
  rw [abL] at a
  by_cases e:c=d
  ·grind [iV,zf]
  ·rw [getD_set_ne _ _ e]
   exact h.cls d a
def q8n (h:jv s) {v:Int} (a:aX v):jv {s with cu:=s.cu.set c v}:=by
 refine ⟨⟨h.ok.au,h.ok.aj,h.ok.gs,h.ok.cl,λz hz=>?_,h.ok.ts,h.ok.sp⟩,h.au,h.aj,h.gs,h.cl,by show (abr (s.cu.set c v):Int)=_;rw [abL];exact h.cu,h.sp,h.cls,h.rows,h.spots,h.sort,h.tasks⟩
 rcases ab4 hz with b|rfl
 ·exact h.ok.cu z b
 ·exact a
def FH {x:Int} (h:¬s.qU x=false):0<=x/\x<s.au:=by
 unfold bI.qU at h
 simpa using h
theorem q8o (h:GoodS s) (a:(jU s o).2.2=0):GoodS (jU s o).1:=by
 unfold jU at a⊢
 split at a
 ·cases a
 ·split at a
  ·cases a
  ·rename_i x D
   rw [if_neg x,if_neg D]
   split at a
   ·cases a
   ·rename_i E
    rw [if_neg E]
    have hc:=FH x
    have b:=h.sh.cls o.cpu.toNat (by have:=h.sh.cl;omega)
    have y:0<=s.cl.getD o.cpu.toNat 0/\s.cl.getD o.cpu.toNat 0<=281474976710656:=by unfold iV at b;simpa using b
    have f:jv {s with cl:=s.cl.set o.cpu.toNat (s.cl.getD o.cpu.toNat 0+o.ticks)}:=zlz h.sh ⟨by omega,by omega⟩
    dsimp only at a⊢
    by_cases l:s.cu.getD o.cpu.toNat 0=0
    ·rw [if_pos l];exact ⟨f,h.cur⟩
    ·rw [if_neg l]
     rcases h.cur o.cpu.toNat (by have:=h.sh.cu;omega) with F|⟨t,m,j,G,n⟩
     ·exact absurd F l
     ·obtain ⟨k,A,rfl⟩:=wY Tk.zero m
      have p:=q8j h.sh.sort A
      have ht:=getD_at Tk.zero A
      obtain ⟨t,q⟩:∃t,s.ts.getD k Tk.zero=t:=⟨_,rfl⟩
      rw [q] at j G n p ht
      rw [<-j,p,yU p ht,abI]
      obtain ⟨r,B⟩:=J3 h.sh ht
      have u:=Ti r B
      have H:=aaA u.1 o.ticks.toNat
      have C:=Ol r B H.1
      have v:jv ({s with cl:=s.cl.set o.cpu.toNat (s.cl.getD o.cpu.toNat 0+o.ticks)}.jT k (t.put (t.en.add o.ticks.toNat))):=f.task ht rfl C.2 C.1
      have w:lC ({s with cl:=s.cl.set o.cpu.toNat (s.cl.getD o.cpu.toNat 0+o.ticks)}.jT k (t.put (t.en.add o.ticks.toNat))):=lC.task (s:={s with cl:=s.cl.set o.cpu.toNat (s.cl.getD o.cpu.toNat 0+o.ticks)}) h.cur h.sh.sort ht rfl λI _=>⟨I,rfl⟩
      exact ⟨v.DL (by show ((o.cpu.toNat:Nat):Int)<s.au;omega) _ _ _ (by show t.group.toNat<abr s.sp;have:=r.group;omega),w.but (Te ..)⟩
theorem ze9 (a:s.Ok):∀(n g:Nat),g<abr s.sp->abr s.sp-g<=n->wV s c g=0\/∃t∈s.ts,t.ready=true/\t.cpu=(c:Int)/\wV s c g=t.id.toNat:=by
 intro n
 induction n with
 |zero=>intro g b f;omega
 |succ n h=>
  grind [Tk.here,NZ,qmn,qml,qmm,aU]
theorem q8p (h:GoodS s) (a:(kZ s o).2.2=0):GoodS (kZ s o).1:=by
 unfold kZ at a⊢
 split at a
 ·cases a
 ·rename_i f
  rw [if_neg f]
  have hc:=FH f
  have k:=(qt h.sh.gs).1
  have j:=ze9 (c:=o.cpu.toNat) h.sh.ok (abr s.sp) 0 (by rw [h.sh.sp];omega) om
  rw [<-q71] at j
  have l:aX ((qD s o.cpu.toNat:Nat):Int):=by
   unfold aX
   rcases j with m|⟨t,ht,_,_,m⟩
   ·omega
   ·have:=(h.sh.tasks t ht).id;omega
  refine ⟨q8n h.sh l,λd n=>?_⟩
  have b:d<abr s.cu:=by have p:d<abr (s.cu.set o.cpu.toNat (qD s o.cpu.toNat:Int)):=n;rwa [abL] at p
  show (s.cu.set o.cpu.toNat (qD s o.cpu.toNat:Int)).getD d 0=0\/_
  by_cases e:o.cpu.toNat=d
  ·grind
  ·show (s.cu.set o.cpu.toNat (qD s o.cpu.toNat:Int)).getD d 0=0\/∃t∈s.ts,t.id=(s.cu.set o.cpu.toNat (qD s o.cpu.toNat:Int)).getD d 0/\_
   rw [getD_set_ne _ _ e]
   exact h.cur d b
end
theorem Lx {α:Type} {l m:List α} (d:α) (a:abr l=abr m) (h:∀i,i<abr l->l.getD i d=m.getD i d):l=m:=by grind [aeh,abv]
theorem Ew {α:Type} {f g:Nat->List α}:∀k,(∀i,i<k->abr (f i)=abr (g i))->dV k f=dV k g->∀i,i<k->f i=g i:=by intro x;induction x<;>grind [qy,List.append_inj',ab0]
def zqj {x y:Gr} (h1:x.parent=y.parent) (a:x.weight=y.weight):x=y:=by
 cases x;cases y
 rw [Gr.mk.injEq]
 exact ⟨h1,a⟩
def q0k (g:Nat) (z a:Sp):abr (nS g z)=abr (nS g a):=by
 unfold nS
 split<;>rfl
def zgq (g:Nat) {l m:List Sp} (h:abr l=abr m):abr (lu g l)=abr (lu g m):=by
 unfold lu
 rw [h]
 have key:∀k,abr (dV k λc=>nS g (l.getD c Sp.zero))=abr (dV k λc=>nS g (m.getD c Sp.zero)):=λk=>by
  induction k with
  |zero=>rfl
  |succ k a=>rw [qy,qy,abu,abu,a,q0k]
 exact key _
section
variable {s:bI} {g c i d:Nat} {t t':Tk} {o:bQ}
theorem qo0 {l a:List Gr} (h:∀g,(l.getD g Gr.zero).parent=(a.getD g Gr.zero).parent):∀f g,jO l f g=jO a f g
 |0,_=>rfl
 |f+1,g=>by rw [jO,jO,h g,qo0 h f]
theorem zfa {l:List Gr} {w:Int} (h:dO l=true) (a:0<g) (b:g<abr l) (e:mK w=true):dO (l.set g {l.getD g Gr.zero with weight:=w})=true:=by grind [Gr.zero,wI,qo0,jq,qQ,getD_set_ne,zf,dO,qt]
theorem qt1 (h:GoodS s) (f:(zW s o).2.2=0):GoodS (zW s o).1:=by
 unfold zW at f⊢
 split at f
 ·cases f
 ·split at f
  ·cases f
  ·rename_i E w
   rw [if_neg E,if_neg w]
   obtain ⟨g,F⟩:∃g:Nat,o.group=(g:Int):=⟨o.group.toNat,by omega⟩
   rw [F,abI]
   have G:mK o.weight=true:=by simpa using w
   have q:1<=o.weight/\o.weight<=65536:=by simpa [mK] using w
   have j:g<abr s.sp:=by omega
   have m:g<abr s.gs:=by rw [<-h.sh.sp];exact j
   have A:=h.sh.ok.gs _ (qf Gr.zero m)
   have a:abr (s.sp.set g ((s.sp.getD g []).map λx=>{x with r:=0}))=abr s.sp:=abL ..
   have B:∀k e:Nat,((s.sp.set g ((s.sp.getD g []).map λx=>{x with r:=0})).getD k []).getD e Sp.zero=if k=g then r0 (s.spot k e) else s.spot k e:=λk e=>by
    by_cases n:g=k
    ·subst n
     rw [zf _ _ j,if_pos rfl]
     show _=r0 ((s.sp.getD g []).getD e Sp.zero)
     rw [abw,acQ,abw (l:=s.sp.getD g [])]
     cases (s.sp.getD g [])[e]?<;>rfl
    ·rw [getD_set_ne _ _ n,if_neg (λh=>n h.symm)];rfl
   refine ⟨⟨⟨h.sh.ok.au,h.sh.ok.aj,λx H=>?_,h.sh.ok.cl,h.sh.ok.cu,h.sh.ok.ts,λl I y C=>?_⟩,h.sh.au,h.sh.aj,zfa h.sh.gs om m G,h.sh.cl,h.sh.cu,?_,h.sh.cls,λk n=>?_,λk e n f=>?_,h.sh.sort,λu J=>?_⟩,h.cur⟩
   ·rcases ab4 H with b|rfl
    ·exact h.sh.ok.gs x b
    ·exact ⟨A.parent,by show aX o.weight;unfold aX;omega⟩
   ·rcases ab4 I with b|rfl
    ·exact h.sh.ok.sp l b y C
    ·obtain ⟨z,hz,rfl⟩:=ab7.1 C
     have:=h.sh.ok.sp _ (qf [] j) z hz
     exact ⟨this.v,by show 0<_;omega,this.floor⟩
   ·rw [a,abL];exact h.sh.sp
   ·have p:k<abr s.sp:=by rw [<-a];exact n
    have:=h.sh.rows k p
    grind
   ·have p:k<abr s.sp:=by rw [<-a];exact n
    have b:=h.sh.spots k e p f
    unfold fq at b⊢
    have e1:=B k e
    unfold bI.spot at b⊢e1
    dsimp only at b⊢e1
    rw [e1]
    by_cases e2:g=k
    ·subst e2
     rw [if_pos rfl,zf _ _ m]
     rw [abH] at b⊢
     have D:=b.1
     unfold cO at D⊢
     rw [decide_eq_true_eq] at D⊢
     refine ⟨⟨q.1,q.2,by show ((0:Nat):Int)<o.weight;omega,.inr rfl⟩,?_⟩
     grind
    ·grind
   ·show gV u s.au (abr (s.sp.set g _))
    rw [a]
    exact h.sh.tasks u J
theorem qt2 (h:GoodS s) (ht:s.ts[i]?=some t) {to:Nat} (b:(to:Int)<s.au) (hb:t.mask/2^to%2=1) (n:∀d,d<abr s.cu->s.cu.getD d 0=t.id->t.cpu=(d:Int)->False):GoodS (jK s i (to:Int)):=by
 unfold jK
 rw [qbv Tk.zero ht]
 dsimp only
 rw [abI]
 obtain ⟨j,m⟩:=J3 h.sh ht
 have k:=Ti j m
 have hm:=aaW k.1 (s.spot t.group.toNat t.cpu.toNat).floor (s.spot t.group.toNat to).floor (zZ h.sh.ok _ _).floor
 have a:=Ol j m hm.1
 have p:aX (to:Int):=by have:=h.sh.au;unfold aX;omega
 have e:jv (s.jT i {t.put (t.en.moved (s.spot t.group.toNat t.cpu.toNat).floor (s.spot t.group.toNat to).floor) with cpu:=(to:Int)}):=
  h.sh.task ht rfl ⟨a.2.id,a.2.group,a.2.weight,p,a.2.mask,a.2.v,a.2.r⟩ ⟨a.1.id,a.1.group,⟨by show (0:Int)<=(to:Int);omega,b⟩,a.1.weight,a.1.mask,by show t.mask/2^ ((to:Int)).toNat%2=1;rw [abI];exact hb,a.1.ent⟩
 have f:lC (s.jT i {t.put (t.en.moved (s.spot t.group.toNat t.cpu.toNat).floor (s.spot t.group.toNat to).floor) with cpu:=(to:Int)}):=
  h.cur.task h.sh.sort ht rfl λ_ ⟨d,q,u,w⟩=>(n d q u w).elim
 have l:t.group.toNat<abr s.sp:=by have:=j.group;omega
 split
 ·exact ⟨e.wake b _ (Tn h.sh l),f.but (DK ..)⟩
 ·exact ⟨e,f⟩
theorem Tp {x:Int} (h:jJ m x=true):m/2^x.toNat%2=1:=of_decide_eq_true h
theorem qt3 (h:GoodS s) (a:(zX s o).2.2=0):GoodS (zX s o).1:=by
 unfold zX at a⊢
 split at a
 ·cases a
 ·split at a
  ·cases a
  ·split at a
   ·cases a
   ·split at a
    ·cases a
    ·split at a
     ·cases a
     ·split at a
      ·cases a
      ·rename_i b f e j l m
       rw [if_neg b,if_neg f,if_neg e,if_neg j,if_neg l,if_neg m]
       obtain ⟨k,t,r,ht,n,p⟩:=Tj e
       have q:=FH b
       grind [jJ,Tp,qf,qt2]
theorem zfb:∀{n b:Nat},gT s o n=some b->uR s o (s.ts.getD b Tk.zero)=true:=by intro x;induction x<;>grind [gT]
theorem qt4 (h:GoodS s) (a:(wP s o).2.2=0):GoodS (wP s o).1:=by
 unfold wP at a⊢
 split at a
 ·cases a
 ·rename_i e
  rw [if_neg e]
  cases hb:gT s o (abr s.ts) with
  |none=>rw [hb] at a;cases a
  |some b=>
   dsimp only
   have f:=qzh hb
   have hm:=zfb hb
   have ht:=getD_at Tk.zero f
   have j:=FH e
   grind [Tp,qt2,uR]
theorem Tq {l:List Tk}:fO l↔l.Pairwise λa b=>a.id<b.id:=by
 rw [List.pairwise_iff_getElem]
 constructor
 ·intro h i j hi f e
  have:=h i j e f
  grind
 ·intro h i j e f
  grind
theorem jv.ts (h:jv s) {l:List Tk} (hs:fO l) (b:∀u∈l,gV u s.au (abr s.sp)/\u.Ok):jv {s with ts:=l}:=
 ⟨⟨h.ok.au,h.ok.aj,h.ok.gs,h.ok.cl,h.ok.cu,λu a=>(b u a).2,h.ok.sp⟩,h.au,h.aj,h.gs,h.cl,h.cu,h.sp,h.cls,h.rows,h.spots,hs,λu a=>(b u a).1⟩
theorem q8r {l:List Tk} {id:Int} (h:¬0<=fidx l id):∀t∈l,t.id≠id:=by grind [Tk.zero,Sd,gQ,qf]
def qhd {α:Type} {p:α->Bool}:∀{l:List α} {u:α},u∈l.takeWhile p->p u=true
 |[],u,h=>by cases h
 | a :: r, u, h => by
  rw [ae0] at h
  split at h
  ·rename_i b
   rcases abX.1 h with rfl|h
   ·exact b
   ·exact qhd h
  ·cases h
theorem qgb {α:Type} {p:α->Bool}:∀{l:List α} {a:α} {r:List α},l.dropWhile p=a::r->p a=false
 |[],_,_,h=>by cases h
 |b::q,a,r,h=>by
  rw [List.dropWhile_cons] at h
  split at h
  ·exact qgb h
  ·grind
theorem zfc {l:List Tk} {id:Int} (hs:fO l) (m:∀t∈l,t.id≠id) (ht:t.id=id):fO ((l.takeWhile λt=>decide (t.id<=id))++t::(l.dropWhile λt=>decide (t.id<=id))):=by
 rw [Tq] at hs⊢
 have k:∀u∈l.takeWhile (λt=>decide (t.id<=id)),u.id<id:=λu e=>by
  have f:=qhd e
  rw [decide_eq_true_eq] at f
  have:=m u ((aeK _).subset e)
  omega
 have h:=hs.sublist (List.dropWhile_sublist λt=>decide (t.id<=id))
 have j:∀u∈l.dropWhile (λt=>decide (t.id<=id)),id<u.id:=λu e=>by
  cases hdr:l.dropWhile (λt=>decide (t.id<=id)) with
  |nil=>rw [hdr] at e;cases e
  | cons a r =>
   have f:¬decide (a.id<=id)=true:=by
    have:=qgb hdr
    rw [this];decide
   rw [decide_eq_true_eq] at f
   rw [hdr] at e h
   rcases abX.1 e with rfl|e
   ·omega
   ·have:=(aeC.1 h).1 u e;omega
 rw [List.pairwise_append]
 refine ⟨hs.sublist (aeK _),aeC.2 ⟨λu e=>?_,h⟩,λa n b p=>?_⟩
 ·have:=j u e;omega
 ·grind
theorem q8s {l:List Tk} {p:Tk->Bool} {u:Tk}:u∈l.takeWhile p++t::l.dropWhile p↔u=t\/u∈l:=by grind [afA]
theorem q26 (e : o.Ok) (h : GoodS s) (a : (zS s o).2.2 = 0) : GoodS (zS s o).1 := by
 unfold zS at a⊢
 split at a
 ·cases a
 ·split at a
  ·cases a
  ·split at a
   ·cases a
   ·split at a
    ·cases a
    ·split at a
     ·cases a
     ·split at a
      ·cases a
      ·rename_i w x y f z A
       rw [if_neg w,if_neg x,if_neg y,if_neg f,if_neg z,if_neg A]
       have hc:=FH w
       have j:o.group.toNat<abr s.sp:=by omega
       have k:1<=o.task/\o.task<=65535:=by simpa [pI] using x
       have l:0<=o.group/\o.group<abr s.sp:=ady.1 y
       have m:1<=o.weight/\o.weight<=65536:=by have:=λh=>f (.inl h);simpa [mK] using this
       have hm:yN o.mask s.au=false:=by have:=λh=>f (.inr (.inr h));simpa using this
       have B:o.mask/2^o.cpu.toNat%2=1:=Tp (by simpa using A)
       have C:=(zZ h.sh.ok o.group.toNat o.cpu.toNat).floor
       have n:gV (⟨o.task,o.group,o.weight,o.cpu,o.mask,true,(s.spot o.group.toNat o.cpu.toNat).floor,0⟩:Tk) s.au (abr s.sp):=⟨k,l,hc,m,hm,B,by unfold cO;rw [decide_eq_true_eq];exact ⟨m.1,m.2,by show ((0:Nat):Int)<o.weight;omega,.inr rfl⟩⟩
       have p:(⟨o.task,o.group,o.weight,o.cpu,o.mask,true,(s.spot o.group.toNat o.cpu.toNat).floor,0⟩:Tk).Ok:=⟨e.task,e.group,e.weight,e.cpu,e.mask,C,by show 0<_;omega⟩
       have q:=h.sh.ts (zfc h.sh.sort (q8r z) (t:=⟨o.task,o.group,o.weight,o.cpu,o.mask,true,(s.spot o.group.toNat o.cpu.toNat).floor,0⟩) rfl) (λu b=>by
        rcases q8s.1 b with rfl|b
        ·exact ⟨n,p⟩
        ·exact ⟨h.sh.tasks u b,h.sh.ok.ts u b⟩)
       have r:lC {s with ts:=(s.ts.takeWhile λt=>decide (t.id<=o.task))++(⟨o.task,o.group,o.weight,o.cpu,o.mask,true,(s.spot o.group.toNat o.cpu.toNat).floor,0⟩::(s.ts.dropWhile λt=>decide (t.id<=o.task)))}:=λd D=>by
        rcases h.cur d D with v|⟨u,b,v⟩
        ·exact .inl v
        ·exact .inr ⟨u,q8s.2 (.inr b),v⟩
       exact ⟨q.wake (by show ((o.cpu.toNat:Nat):Int)<s.au;omega) _ (Tn h.sh j),r.but (DK ..)⟩
theorem q27 (h:GoodS s) (p:(tC s o).2.2=0):GoodS (tC s o).1:=by
 unfold tC at p⊢
 split at p
 ·cases p
 ·split at p
  ·cases p
  ·rename_i E F
   rw [if_neg E,if_neg F]
   have hc:=FH E
   dsimp only
   rcases h.cur o.cpu.toNat (by have:=h.sh.cu;omega) with I|⟨t,z,q,J,A⟩
   ·exact absurd I F
   ·obtain ⟨k,G,rfl⟩:=wY Tk.zero z
    have H:=q8j h.sh.sort G
    have ht:=getD_at Tk.zero G
    obtain ⟨t,r⟩:∃t,s.ts.getD k Tk.zero=t:=⟨_,rfl⟩
    rw [r] at q J A H ht
    rw [<-q,H,abI,r]
    obtain ⟨K,B⟩:=J3 h.sh ht
    have v:=qoy K B false
    have C:jv {s with cu:=s.cu.set o.cpu.toNat 0}:=q8n h.sh (by unfold aX;omega)
    have a:jv {s with cu:=s.cu.set o.cpu.toNat 0,ts:=s.ts.set k {t with ready:=false}}:=C.task (s:={s with cu:=s.cu.set o.cpu.toNat 0}) ht rfl v.2 v.1
    have m:∀d,d<abr (s.cu.set o.cpu.toNat 0)->(s.cu.set o.cpu.toNat 0).getD d 0=0\/∃j u,s.ts[j]?=some u/\j≠k/\u.id=(s.cu.set o.cpu.toNat 0).getD d 0/\u.ready=true/\u.cpu=(d:Int):=λd n=>by
     rw [abL] at n
     by_cases e:o.cpu.toNat=d
     ·grind
     ·rw [getD_set_ne _ _ e]
      rcases h.cur d n with b|⟨u,D,b,x,L⟩
      ·exact .inl b
      ·obtain ⟨j,y,rfl⟩:=wY Tk.zero D
       grind
    split
    ·refine ⟨a.ts (s:={s with cu:=s.cu.set o.cpu.toNat 0,ts:=s.ts.set k {t with ready:=false}}) (l:=(s.ts.set k {t with ready:=false}).eraseIdx k) (Tq.2 ((Tq.1 a.sort).sublist (agw ..))) (λu D=>?_),λd n=>?_⟩
     ·have w:=(agw ..).subset D
      exact ⟨a.tasks u w,a.ok.ts u w⟩
     ·rcases m d n with b|⟨j,u,y,f,b⟩
      ·exact .inl b
      ·refine .inr ⟨u,?_,b⟩
       have x:(s.ts.set k {t with ready:=false})[j]?=some u:=by rw [aeV (λe=>f e.symm)];exact y
       exact List.mem_eraseIdx_iff_getElem?.2 ⟨j,f,x⟩
    ·refine ⟨a,λd n=>?_⟩
     rcases m d n with b|⟨j,u,y,f,b⟩
     ·exact .inl b
     ·refine .inr ⟨u,?_,b⟩
      have x:(s.ts.set k {t with ready:=false})[j]?=some u:=by rw [aeV (λe=>f e.symm)];exact y
      exact abK x
theorem Tt (a:o.Ok) (h:GoodS s) (b:(dM s o).2.2=0):GoodS (dM s o).1:=by grind [qt4,q27,qt3,q8p,qt1,qqn,q25,q26,q8o,dM]
end
def Om (w:ajg) (R:List Nat) (r:ajk) (a:ajg):Prop:=
 (∃A c,r= .returned (.slice A (abr R) c)/\a.ownsRow w.heap.size 3 1 (.slice A (abr R) c) (abr R) (R.map bL)/\abr R<=c)/\Below w.heap.size w a
def ziq {q:List Nat} (a:q=R) (b:W.ownsRow w.heap.size 3 1 (.slice A (abr q) c) (abr q) (q.map bL)) (hc:abr q<=c) (hb:Below w.heap.size w W):Om w R (.returned (.slice A (abr q) c)) W:=by
 subst a
 exact ⟨⟨A,c,rfl,b,hc⟩,hb⟩
def zl0 (b:x.ay.Ok) (a:ShAt x) (j:aU x.ay g c≠[]):(aO bP (aU x.ay g c)).id<=1000000:=by
 rcases NZ b j with ⟨_,t,ht,_,k⟩|⟨_,h,m,_,e,_⟩
 ·obtain ⟨i,hi,rfl⟩:=acn ht
  have f:=qW (a.tk i hi)
  rw [abw,abv (l:=x.ts) hi] at f
  have e:1<=(x.ay.ts[i]).id/\(x.ay.ts[i]).id<=65535:=f
  rw [k]
  show (x.ay.ts[i]).id.toNat<=1000000
  omega
 ·rw [m]
  rw [lX,a.rs] at e
  obtain ⟨_,_,_,d⟩:=mX a.cfg
  have:=(qt d).2.1
  omega
def qo1 (b:ShAt x):∀t∈x.ts,1<=t.weight/\t.weight<=65536:=by
 intro t ht
 obtain ⟨i,hi,rfl⟩:=acn ht
 have a:=(Fp (b.tk i hi)).2
 rw [abw,abv hi] at a
 unfold eG mK at a
 simp only [abH,decide_eq_true_eq,Option.getD_some] at a
 exact a.2.1
def q8t (x:aF) (E g c:Nat) (w:ajg) (H:x.ay.Ok) (F:cZ x) (o:ShAt x) (I:fC w x) (hm:w.heap[E]?=some (.cells #[vI x.au,vQ x.aj,abo x.gA x.gs x.gc,abo x.lA x.cl x.lc,abo x.uA x.cu x.uc,abo x.tA x.ts x.tc,abo x.sA x.rs x.sc,.bool true] 273 (0,0))) (hc:(c:Int)<x.au) (hg:g<abr x.rs):
    Calls abt 200 #[vP E 0,vI g,vI c] w (Om w (lN x.ay g c)):=by
 have P:=F.s;have Q:=F.t;have R:=F.g;have V:=o.rs
 obtain ⟨W,Y,_,r⟩:=mX o.cfg
 refine (vC Tryz.func200 35) ?_
 refine (aM 1∘Jq∘JC (h:=by exact λb=>b.nil 3 1)∘JG∘cB 1∘JQ∘JB) λa Z b=>?_
 refine qg (λS aS wS=>∃(k:Nat) (q:List Nat) (X:ajq) (G:Nat),(k<=g)/\(q++lN x.ay k c=lN x.ay g c)/\(abr q<=g-k)/\(abr q<=G)/\S=0+k/\Fr aS 35 [] ((7,abo X q G)::(6,vN)::(0,vP E 0)::ah8 1 k 2 c [])/\Mem w wS [abp X q G bL 3 1]) (m:=0+g) ⟨g,[],none,0,abx _,rfl,abC _,abx _,rfl,Z.sub kr,b.pk [0]⟩ ?_
 clear Z b;rintro S a w_ ⟨k,q,X,G,hk,J,hql,u,rfl,Z,b⟩
 refine Jb Z b ((bM 2∘aL∘Jj) (Ji (λz=>?_) λz=>?_))
 ·
  have A:0<k:=by omega
  have K:=zR r (g:=k) om k A (abx _)
  intro a Z b
  unfold fA at K
  obtain ⟨y,T⟩:∃y:Nat,(x.gs.getD k Gr.zero).parent=(y:Int):=⟨(x.gs.getD k Gr.zero).parent.toNat,by omega⟩
  refine Jb Z b ((eP∘bM 3∘JL (h:=by exact λb=>NS x H F o E c om _ k (abx _) om _ (I.old b) (b.lU hm))) ?_)
  rintro b _ J4 ⟨rfl,L⟩
  refine ⟨_,rfl,_,b.call L,?_⟩
  refine (Jp 1∘Jx∘Jx∘JA #[vQ 0,vQ 0,vQ 0]) λw8 g8=>(JV uS aN (h1:=by exact Dp (aO bP (aU x.ay k c)))) λU=>(Jp 1∘aI∘bg 1∘Jj) (Ju (λe=>?_) λe=>?_)
  ·
   have p:q=lN x.ay g c:=by rw [<-J,qmk (by simpa using e),abN]
   exact (JT∘JX∘JG∘aM 2∘aL∘aQ∘aW) λb=>ziq p (b.own (i:=1) rfl) u b.below
  have M:aU x.ay k c=[]:=by simpa using e
  have f:=qmj (s:=x.ay) (c:=c) (g:=k) (zR r om) A M
  replace f:lN x.ay k c=k::lN x.ay (x.gs.getD k Gr.zero).parent.toNat c:=f
  rw [T,abI] at f
  refine (aP∘JR∘Jp 2∘JU kD #[vI k]) λw32 g32=>(JD ([k].map bL) 2 (λ_ _=>iE) kD (hr:=by exact λb=>b.bE (i:=0) (n:=1) (size:=1) rfl rfl) (h1:=by simp [abV,bL])) λGL B C j=>(Jp 1∘fK∘Jq) ?_
  have d:abr q+1=abr (q++[k]):=SV rfl
  rw [d] at j
  refine (JC (h:=by exact λb=>b.bq (i:=2) (ys:=(q++[k]).map bL) rfl d (List.map_append.symm))∘Jk 7 (.slice B (abr (q++[k])) C) (h:=by exact iZ d)∘JG∘JR∘Jp 1∘Jn∘Jf 0∘Jf 0∘Jf 2∘Jy (v:= .slice x.gA (abr x.gs) x.gc) (h:=by exact Pd rfl rfl kr (λ_ h=>h.mV hm rfl))∘Jp 1) ?_
  obtain ⟨N,O,D,_⟩:=Rd.sat I.g k
  have l:=I.g;rw [D] at l
  refine (Jk 17 (.slice (some ⟨N,O,none⟩) (abr x.gs) x.gc) (h:=by rw [D];try rfl)∘iF k 2∘Jf 0∘ES qC l k Gr.zero∘Jo (vI y) (by rw [T])∘Jp 1∘aI∘Jq) λa Z b=>?_
  exact ⟨_,om,y,(q++[k]),B,C,by omega,by rw [<-J,f,aby];rfl,by rw [abu];show abr q+1<=g-y;omega,j,rfl,Z.sub kr,b.pk [2]⟩
 have p:q=lN x.ay g c:=by rw [<-J,show k=0 by omega,qwp,abN]
 exact (JF∘JX∘JG∘aM 2∘aL∘aQ∘aW) λb=>ziq p (b.own (i:=0) rfl) u b.below
def q8u (x:aF) (o c:Nat) (w:ajg) (i:x.ay.Ok) (p:cZ x) (f:ShAt x) (H:fC w x) (hm:w.heap[o]?=some (.cells #[vI x.au,vQ x.aj,abo x.gA x.gs x.gc,abo x.lA x.cl x.lc,abo x.uA x.cu x.uc,abo x.tA x.ts x.tc,abo x.sA x.rs x.sc,.bool true] 273 (0,0))) (hc:(c:Int)<x.au):
    Calls abt 211 #[vP o 0,vI c] w (Is w (vI (qD x.ay c:Int))):=by
 have B:=p.s;have C:=p.t;have D:=p.g;have I:=f.rs
 obtain ⟨J,K,_,q⟩:=mX f.cfg
 have E:0<abr x.rs:=by have S:=(qt q).1;omega
 refine (iQ Tryz.func211 28) ?_
 refine (aM 1∘bg 1∘Jj∘JB) λa Z b=>?_
 refine qg (λF L M=>∃(g:Nat),(g<abr x.rs)/\(wV x.ay c g=qD x.ay c)/\F=abr x.rs-g/\Fr L 28 [] [(5,vI g),(4,vI 0),(0,vP o 0),(1,vI c)]/\Mem w M []) (m:=abr x.rs-0) ⟨0,by omega,rfl,rfl,Z.sub kr,b.pk []⟩ ?_
 clear Z b;rintro F a T ⟨g,U,r,rfl,Z,b⟩
 refine Jb Z b ((JB∘aM 3∘JL (h:=by exact λb=>NS x i p f o c om _ g (abx _) om _ (H.old b) (b.lU hm))) ?_)
 rintro b _ N ⟨rfl,u⟩
 refine ⟨_,rfl,_,b.call u,?_⟩
 refine (Jp 1∘Jx∘Jx∘JA #[vQ 0,vQ 0,vQ 0]) λV l=>(JV uS aN (h1:=by exact Dp (aO bP (aU x.ay g c)))) λG=>(bO 1∘JQ∘JB∘aM 3∘bU∘Jj) (Ju (λd=>?_) λd=>?_)
 ·
  have e:aU x.ay g c=[]:=by simpa using d
  exact (JT∘bB 1∘aW) λb=>by exact ⟨by rw [<-r,qml (by rw [lX];omega) e];rfl,b.below⟩
 have e:aU x.ay g c≠[]:=by simpa using d
 have O:abr x.ay.sp=abr x.rs:=lX
 refine (JF∘JP∘Jy (v:=vP l 1) (h:=by exact Yl.uy (ad:=⟨l,0,none⟩) (m:=3) (y:=1) (sz:=1) rfl rfl rfl kr de)∘Jc O0∘Jp 2∘eO∘Jj) (Je (λn=>?_) λn=>?_)
 ·
  have j:(aO bP (aU x.ay g c)).k=0:=by omega
  have P:=zl0 i f e
  have z:=qmm (s:=x.ay) (c:=c) (g:=g) om e j
  exact (JT∘JP∘Jy (v:=vP l 2) (h:=by exact Yl.uy (ad:=⟨l,0,none⟩) (m:=3) (y:=2) (sz:=1) rfl rfl rfl kr de)∘Jc O0∘Jv 1 [(24,vI (IntKind.i64.wrap ((aO bP (aU x.ay g c)).id:Int)))]∘Jo (vI ((aO bP (aU x.ay g c)).id)) (by exact q7 rfl om)∘Jp 1∘eO∘aQ∘aW) λb=>by exact ⟨by rw [<-r,z],b.below⟩
 have j:(aO bP (aU x.ay g c)).k≠0:=by omega
 obtain ⟨A,Q,R⟩:=qmn (s:=x.ay) (c:=c) (g:=g) i om e j
 refine (aP∘JR∘Jy (v:=vP l 2) (h:=by exact Yl.uy (ad:=⟨l,0,none⟩) (m:=3) (y:=2) (sz:=1) rfl rfl rfl kr de)∘Jc O0∘Jv 1 [(27,vI (IntKind.i64.wrap ((aO bP (aU x.ay g c)).id:Int)))]∘Jo (vI ((aO bP (aU x.ay g c)).id)) (by exact q7 rfl om)∘Jp 1∘eO∘Jq) λa Z b=>?_
 exact ⟨_,om,(aO bP (aU x.ay g c)).id,by omega,by rw [<-A];exact r,rfl,Z.sub kr,b.pk []⟩
def q28 (x:aF) (C c:Nat) (w:ajg) (K:x.ay.Ok) (y:cZ x) (l:ShAt x) (D:fC w x) (hm:w.heap[C]?=some (.cells #[vI x.au,vQ x.aj,abo x.gA x.gs x.gc,abo x.lA x.cl x.lc,abo x.uA x.cu x.uc,abo x.tA x.ts x.tc,abo x.sA x.rs x.sc,.bool true] 273 (0,0))):
    Calls abt 215 #[vP C 0,vI c] w (Is w (vI (aH x.ay c))):=by
 have E:=y.s;have F:=y.t;have G:=y.g;have L:=l.rs
 obtain ⟨M,N,_,O⟩:=mX l.cfg
 have n:=qo1 l
 refine (iQ Tryz.func215 32) ?_
 refine (aM 1∘bg 1∘Jj∘bM 1∘Jn∘Jf 0∘Jf 5∘Jy (v:= .slice x.tA (abr x.ts) x.tc) (h:=by exact Pd rfl rfl kr (λ_ h=>h.mV hm rfl))∘Jl∘bO 1∘JB) λa Z b=>?_
 refine qg (λH A B=>∃(i:Nat),(i<=abr x.ts)/\H=abr x.ts-i/\Fr A 32 [] (ah8 14 i 13 (abr x.ts) [(12,abo x.tA x.ts x.tc),(5,vI (iH (x.ts.take i) c)),(4,vI 0),(1,vI c)])/\Mem w B []) (m:=abr x.ts-0) ⟨0,abC _,rfl,Z.sub kr,b.pk []⟩ ?_
 clear Z b;rintro H a R ⟨i,hi,rfl,Z,b⟩
 refine Jb Z b ((cB 1∘JQ) (Ji (λo=>?_) λo=>?_))
 ·
  have p:i<abr x.ts:=by omega
  obtain ⟨t,ht⟩:∃z,(x.ts.getD i Tk.zero)=z:=⟨_,rfl⟩
  have d:=q2p (c:=c) p
  rw [ht] at d
  have P:=qot (c:=c) n i;have Q:=qot (c:=c) n (i+1)
  refine (eP∘JP) ?_
  obtain ⟨q,r,j,_⟩:=Rd.sat D.t i
  have k:=D.t;rw [j] at k
  refine (Jk 12 (.slice (some ⟨q,r,none⟩) (abr x.ts) x.tc) (h:=by rw [j];try rfl)∘iF i 8∘qM Tk.cells qm k fH i Tk.zero∘Jo (.agg t.cells) (by rw [ht])∘JA ajb) λS I=>(JV fH aN (h1:=by exact Il t)) λJ=>(bU∘Jj) λa Z b=>?_
  refine qz (λA B=>Fr A 32 [] ((25,.bool (t.ready&&decide (t.cpu=(c:Int))))::(7,vP I 0)::(12,abo (some ⟨q,r,none⟩) x.ts x.tc)::(15,.bool true)::ah8 14 i 13 (abr x.ts) [(5,vI (iH (x.ts.take i) c)),(4,vI 0),(1,vI c)])/\Mem w B [.blk I t.cells 232]) ?_ ?_
  ·
   refine sQ ?_
   refine Jb Z b ((Jg 5 O0∘Jp 1) (Ju (λe=>?_) λe=>?_))
   ·
    refine (Jg 3 O0∘Jp 3∘kV∘Jq) λa Z b=>?_
    have Z:=Z.sp 25 (.bool (t.ready&&decide (t.cpu=(c:Int)))) rfl (congrArg abP (by rw [e,acj,ab3,beq_iff_eq,decide_eq_true_eq]))
    exact ⟨Z.sub kr,b.pk [0]⟩
   refine (Jp 5∘aI∘Jq) λa Z b=>?_
   have Z:=Z.sp 25 (.bool (t.ready&&decide (t.cpu=(c:Int)))) rfl (congrArg abP (by rw [e];try rfl))
   exact ⟨Z.sub kr,b.pk [0]⟩
  clear Z b;rintro a T ⟨Z,b⟩
  refine Jb Z b (Ju (λf=>?_) λf=>?_)
  ·
   rw [if_pos f] at d
   refine (JT∘JR∘Jp 1∘Jg 2 O0∘Jp 1∘Jo (vI (iH (x.ts.take (i+1)) c)) (by rw [d];exact nN ⟨by omega,by omega⟩)∘Jp 1∘eO∘Jj∘JR∘dx 1∘Jp 1∘aL∘Jq) λa Z b=>?_
   replace Z:=Z.sp 12 (abo x.tA x.ts x.tc) rfl (by rw [j])
   exact ⟨_,om,i+1,by omega,rfl,Z.sub kr,b.pk []⟩
  rw [if_neg (by rw [f];decide),Int.add_zero] at d
  refine (Jk 5 (vI (iH (x.ts.take (i+1)) c)) (h:=by rw [d])∘aP∘JR∘dx 1∘Jp 1∘aL∘Jq) λa Z b=>?_
  replace Z:=Z.sp 12 (abo x.tA x.ts x.tc) rfl (by rw [j])
  exact ⟨_,om,i+1,by omega,rfl,Z.sub kr,b.pk []⟩
 have u:iH (x.ts.take i) c=aH x.ay c:=by rw [abM om];rfl
 exact (JF∘JX∘JG∘aM 2∘aL∘aQ∘aW) λb=>by exact ⟨by rw [u],b.below⟩
def zfd {f b:Nat} (n:Nat) (h:Mem W w F) (i:F.drop n=jS d x m k e f b++T) (a:dY x m k e f b) (hc:(c:Int)<x.au) (j:g<b):Calls abt 200 #[vP d 0,vI g,vI c] w (Om w (lN x.ay g c)):=
 q8t x d g c w a.ok a.few a.sh (h.uU n i a.ln) (h.oQ n i a.ln) hc (by rw [a.ln.s];exact j)
def zfe {b:Nat} (n:Nat) (f:Mem W w F) (h:F.drop n=jS b x m g k d e++T) (a:dY x m g k d e) (hc:(c:Int)<x.au):Calls abt 211 #[vP b 0,vI c] w (Is w (vI (qD x.ay c:Int))):=
 q8u x b c w a.ok a.few a.sh (f.uU n h a.ln) (f.oQ n h a.ln) hc
def q8v {m g k d e b c:Nat} (n:Nat) (f:Mem W w F) (h:F.drop n=jS b x m g k d e++T) (a:dY x m g k d e):Calls abt 215 #[vP b 0,vI c] w (Is w (vI (aH x.ay c))):=
 q28 x b c w a.ok a.few a.sh (f.uU n h a.ln) (f.oQ n h a.ln)
def Tv (W:ajg) (c:Nat) (x:aF) (d e f g b:Nat) (T:List ajr) (s:bI) (r:ajk) (h:ajg):Prop:=∃a,r= .returned (.tuple #[])/\abr a=b/\fJ x.gs x.au a/\({x with rs:=a}:aF).ay=s/\Mem W h (jS c {x with rs:=a} d e f g b++T)
def zir {b:Nat} {s:bI} {a:List Rw} (e:a.length=b) (hs:fJ x.gs x.au a) (f:({x with rs:=a}:aF).ay=s) (hm:Mem W w (jS c {x with rs:=a} m g k d b++T)):Tv W c x m g k d b T s (.returned (.tuple #[])) w:=⟨a,rfl,e,hs,f,hm⟩
def FI (x e:En) (b:x.Ok) (a cr:Nat) (c:a<18446744073709551616) (hc:cr<18446744073709551616) (d:x.woken a cr=e) (w:ajg):
  Calls abt 207 #[.agg x.cells,vQ a,vQ cr] w (Is w (.tuple #[.agg e.cells,vI 0])):=d▸q79 x b a cr c hc w
def q29 (W w:ajg) (x:aF) (K c:Nat) (u B C D t:Nat) (hx:tJ x u B C D t) (T:List ajr) (E:ajq) (ec:Nat) (l:List Nat) (hT: abp E l ec bL 3 1∈T) (hlm:∀g∈l,0<g/\g<t) (hln:abr l<=1000000)
    (L:dO x.gs=true) (hrg:abr x.rs=abr x.gs) (hsp:fJ x.gs x.au x.rs) (M:x.aj<18446744073709551616) (hcp:x.au<=64) (hc:(c:Int)<x.au) (b:Mem W w (jS K x u B C D t++T)):
    Calls abt 206 #[vP K 0,abo E l ec,vI c] w (Tv W K x u B C D t T (iw x.ay l c)):=by
 obtain ⟨cp,cr,gA,gc,gs,lA,lc,cl,uA,uc,cu,tA,tc,ts,sA,sc,rs⟩:=x
 replace b:Mem W w (fM K cp cr gA u gc lA B lc uA C uc tA D tc sA t sc::fG gA u gc gs::fI lA B lc cl::fI uA C uc cu::fT tA D tc ts::fS sA t sc rs::(fR rs++(T))):=b
 obtain ⟨mZ,hll,oq,hlt,hls⟩:=hx;replace mZ:abr gs=u:=mZ;replace hls:abr rs=t:=hls
 have hrE:Rd w w.heap.size 1 E (abr l) (l.map bL):=b.rdT 6 rfl hT
 replace L:dO gs=true:=L;replace hrg:abr rs=abr gs:=hrg;replace M:cr<18446744073709551616:=M;replace hcp:cp<=64:=hcp;replace hc:(c:Int)<cp:=hc;replace hsp:fJ gs cp rs:=hsp
 have hgl:=qt L
 have ou:=hgl.1;have ow:=hgl.2.1
 obtain ⟨rU,rfl⟩:=zo (b.own (i:=1) rfl) om
 obtain ⟨rV,rfl⟩:=zo (b.own (i:=5) rfl) om
 refine (zY b Tryz.func206 82) ?_
 refine (aM 1∘Jl∘bO 1∘JB) λa Z b=>?_
 refine qg (λmS aS wS=>∃(i:Nat) (d:List Rw),(i<=abr l)/\(abr d=t)/\(fJ gs cp d)/\((⟨cp,cr,some ⟨rU,0,none⟩,gc,gs,lA,lc,cl,uA,uc,cu,tA,tc,ts,some ⟨rV,0,none⟩,sc,d⟩:aF).ay=iw (⟨cp,cr,some ⟨rU,0,none⟩,gc,gs,lA,lc,cl,uA,uc,cu,tA,tc,ts,some ⟨rV,0,none⟩,sc,rs⟩:aF).ay (l.take i) c)/\mS=abr l-i/\Fr aS 82 [] (ah8 14 i 13 (abr l) [(12,abo E l ec),(0,vP K 0),(2,vI c)])/\Mem W wS (fM K cp cr (some ⟨rU,0,none⟩) u gc lA B lc uA C uc tA D tc (some ⟨rV,0,none⟩) t sc::fG (some ⟨rU,0,none⟩) u gc gs::fI lA B lc cl::fI uA C uc cu::fT tA D tc ts::fS (some ⟨rV,0,none⟩) t sc d::(fR d++(T)))) (m:=abr l-0) ⟨0,rs,abC _,hls,hsp,rfl,rfl,Z.sub kr,b.pt 6 [0,1,2,3,4,5]⟩ ?_
 clear Z b;rintro mS a w_ ⟨i,d,hi,hl2,G,V,rfl,Z,b⟩
 refine Jb Z b ((cB 1∘JQ) (Ji (λDk=>?_) λDk=>?_))
 ·
  have X:i<abr l:=by omega
  obtain ⟨g,hge⟩:∃z,(l.getD i 0)=z:=⟨_,rfl⟩
  have hg0:=hlm g (by rw [<-hge];exact qf 0 X)
  obtain ⟨⟨yA,yc,yl⟩,Y⟩:∃y,d.getD g Rw.zero=y:=⟨_,rfl⟩
  have hys:=G g om;rw [Y] at hys
  have hyl:(abr yl:Int)=cp:=hys.1
  repeat (first|clear Z|clear b)
  intro a Z b
  obtain ⟨gy,rfl⟩:=b.jW 6 rfl om Y om
  obtain ⟨o,H⟩:∃z,yl[c]?=some z:=⟨_,abv om⟩
  have I:=hys.2 o (abK H)
  have hyv:=I.1.v;have tH:=I.1.r;have tN:=I.1.floor
  have hpb:=zR L (g:=g) om g hg0.1 (abx _)
  unfold fA at hpb
  obtain ⟨p,hpp⟩:∃p:Nat,(gs.getD g Gr.zero).parent=(p:Int):=⟨(gs.getD g Gr.zero).parent.toNat,by omega⟩
  have hpg:p<g:=by omega
  obtain ⟨⟨pA,pc,pl⟩,hp⟩:∃y,d.getD p Rw.zero=y:=⟨_,rfl⟩
  have hps:=G p om;rw [hp] at hps
  have hpl:(abr pl:Int)=cp:=hps.1
  revert b;revert a;repeat (first|clear Z|clear b)
  intro a Z b
  obtain ⟨gp,rfl⟩:=b.jW 6 rfl om hp om
  obtain ⟨pz,hpz⟩:∃z,pl[c]?=some z:=⟨_,abv om⟩
  have hpo:=hps.2 pz (abK hpz)
  have hpv:=hpo.1.v;have hpr:=hpo.1.r;have P:=hpo.1.floor
  obtain ⟨J,Q,aoz,aoA⟩:=Oa L (g:=g) om
  have R:(⟨o.v,o.r,J⟩:En).Ok:=⟨by have:=I.2;rw [Q] at this;exact this,I.1.v⟩
  obtain ⟨e,N⟩:∃e,(⟨o.v,o.r,J⟩:En).woken pz.floor cr=e:=⟨_,rfl⟩
  have S:e.Ok/\e.w=J:=by rw [<-N];exact aaB R _ _ P
  have hev:=S.1.2;have her:e.r<4294967296:=by have:=BD S.1.1;omega
  refine Jb Z b ((eP∘JP) ?_)
  obtain ⟨gE,oE,rfl,_⟩:=hrE.sat i
  refine (iF i 1∘Jy (v:=vI (l.getD i 0)) (h:=by exact Pd rfl rfl kr (λ_ h=>(h.rdT 6 rfl hT).Ct (k:=i) (vY (F:=bL) (k:=i) (x:=(l.getD i 0)) ((getD_at 0 om)))))∘Jo (vI g) (by rw [hge])∘Jp 1∘bU∘bg 1∘Jn∘Jf 0∘Jg 6 O0∘Jp 1∘nP g 1∘Jy (v:= .slice ((d.getD g Rw.zero).A) ((d.getD g Rw.zero).l.length) ((d.getD g Rw.zero).c)) (h:=by exact aae 5 g Rw.zero om rfl rfl rfl)∘Jo (vS gy (abr yl) yc) (by rw [Y])∘Jp 1∘nP c 3∘Jp 1∘aI∘bg 1∘Jn∘Jf 0∘Jf 0∘Jg 2 O0∘Jp 1∘nP g 2∘Jy (v:= .agg ((gs.getD g Gr.zero).cells)) (h:=by exact Pe rfl rfl kI rfl (λ_ h=>h.zB qC (i:=1) rfl ((getD_at Gr.zero om))))∘JA #[vI 0,vI 0]) λw9 g9=>(JV kI aN (h1:=by exact zid (gs.getD g Gr.zero))) λab6=>(aI∘Jj) λa Z b=>?_
  refine qz (λaS wS=>∃(q:Nat),Fr aS 82 [] ((10,vP q 0)::(9,vP g9 0)::(8,vP gy (c*3))::(7,vI g)::(15,.bool true)::ah8 14 i 13 (abr l) [(12,abo (some ⟨gE,oE,none⟩) l ec),(0,vP K 0),(2,vI c)])/\Mem W wS (.blk q e.cells 333:: .blk g9 ((gs.getD g Gr.zero).cells) 198::fM K cp cr (some ⟨rU,0,none⟩) u gc lA B lc uA C uc tA D tc (some ⟨rV,0,none⟩) t sc::fG (some ⟨rU,0,none⟩) u gc gs::fI lA B lc cl::fI uA C uc cu::fT tA D tc ts::fS (some ⟨rV,0,none⟩) t sc d::(fR d++(T)))) ?_ ?_
  ·
   refine Jb Z b ((Vs .n [35]) λwd5=>(Vp [0,4]∘Vf 8 1∘Vp [11]∘Vf 16 0∘Vp [20,24]∘Vn 1∘Vf 2 0∘Vy 3 (v:=vQ o.v) (h:=by exact Pd rfl rfl kr (λ_ h=>h.vJ 7 (j:=0) rfl om Y (H) rfl))∘Vn 5∘Vf 6 1∘Vy 7 (v:=vW o.r) (h:=by exact Pd rfl rfl kr (λ_ h=>h.vJ 7 (j:=1) rfl om Y (H) rfl))∘Vc 9 O0∘Vo (vI J) (by rw [Q])∘Vn 12∘Vf 13 0∘Vf 14 6∘Vc 15 O1∘Vc 17 O0∘Vo (vI p) (by rw [hpp])∘Vy 18 (h:=by exact Yl.iM rV p 1 rfl rfl rfl)∘Vy 19 (v:= .slice ((d.getD p Rw.zero).A) ((d.getD p Rw.zero).l.length) ((d.getD p Rw.zero).c)) (h:=by exact aae 6 p Rw.zero om rfl rfl rfl)∘Vo (vS gp (abr pl) pc) (by rw [hp])∘Vy 21 (h:=by exact Yl.iM gp c 3 rfl rfl rfl)∘Vf 22 2∘Vy 23 (v:=vQ pz.floor) (h:=by exact Pd rfl rfl kr (λ_ h=>h.vJ 7 (j:=2) rfl om hp (hpz) rfl))∘Vn 25∘Vf 26 0∘Vf 27 0∘Vf 28 1∘Vc 29 O1) λa Z b s=>?_)
   refine zh [10,34] kr rfl ?_
   refine all_cons ?_ ?_
   ·refine qu Z (i:=10) rfl rfl ?_
    refine jB Z b [vQ o.v,vW o.r,vI J] (.agg #[vQ o.v,vW o.r,vW J]) rfl rfl (zk o.v o.r (J:Int) om _) λC9 U b a Z=>?_
    refine av (b.pt 7 [0,1,2,3,4,5,6]) (λs=>?_)
    refine zh [30,34] kr rfl ?_
    refine all_cons ?_ ?_
    ·refine qu Z (i:=30) rfl rfl ?_
     refine jB Z b [.agg #[vQ o.v,vW o.r,vW J],vQ pz.floor,vQ cr] (.tuple #[.agg e.cells,vI 0]) rfl rfl (FI (⟨o.v,o.r,J⟩:En) e R pz.floor cr P M N _) λOo U b a Z=>?_
     refine av (b.pt 7 [0,1,2,3,4,5,6]) (λs=>?_)
     refine Vb Z b s ((Vp [31]∘Vx 32∘Vx 33∘VA 34 .n #[vQ 0,vW 0,vW 0]) λsD q=>λa Z b s=>?_)
     refine s_on Z 35 rfl (bV Z b 0 rfl rfl rfl rfl rfl qp rfl rfl (mO e) λO b=>?_)
     refine dR kr ?_
     refine ap Z (cK kr) [36] (bt 37 []) [] λa Z=>?_
     refine qe kr ?_
     exact ⟨q,Z.sub kr,b.pt 8 [0,1,2,3,4,5,6,7]⟩
    refine all_cons ?_ all_nil
    refine qu Z (i:=34) rfl rfl ?_
    refine iq Z b #[vQ 0,vW 0,vW 0] ?_
    clear Z b;intro a sD q Z b
    refine av (b.pt 8 [1,2,3,4,5,6,7]) (λs=>?_)
    refine Vb Z b s ((VI 30 (.f .n) (h:=by exact λb=>FI (⟨o.v,o.r,J⟩:En) e R pz.floor cr P M N _)) λOo U=>(Vp [31]∘Vx 32∘Vx 33) λa Z b s=>?_)
    refine s_on Z 35 rfl (bV Z b 0 rfl rfl rfl rfl rfl qp rfl rfl (mO e) λO b=>?_)
    refine dR kr ?_
    refine ap Z (cK kr) [36] (bt 37 []) [] λa Z=>?_
    refine qe kr ?_
    exact ⟨q,Z.sub kr,b.pt 8 [0,1,2,3,4,5,6,7]⟩
   refine all_cons ?_ all_nil
   refine qu Z (i:=34) rfl rfl ?_
   refine iq Z b #[vQ 0,vW 0,vW 0] ?_
   clear Z b;intro a sD q Z b
   refine av (b.pt 8 [1,2,3,4,5,6,7]) (λs=>?_)
   refine Vb Z b s ((VI 10 (.f .n) (h:=by exact λb=>zk o.v o.r (J:Int) om _)) λC9 U=>(VI 30 (.f .n) (h:=by exact λb=>FI (⟨o.v,o.r,J⟩:En) e R pz.floor cr P M N _)) λOo U=>(Vp [31]∘Vx 32∘Vx 33) λa Z b s=>?_)
   refine s_on Z 35 rfl (bV Z b 0 rfl rfl rfl rfl rfl qp rfl rfl (mO e) λO b=>?_)
   refine dR kr ?_
   refine ap Z (cK kr) [36] (bt 37 []) [] λa Z=>?_
   refine qe kr ?_
   exact ⟨q,Z.sub kr,b.pt 8 [0,1,2,3,4,5,6,7]⟩
  clear Z b;rintro a w5 ⟨q,Z,b⟩
  refine Gl b [.blk q e.cells 333,.blk g9 ((gs.getD g Gr.zero).cells) 198,fM K cp cr (some ⟨rU,0,none⟩) u gc lA B lc uA C uc tA D tc (some ⟨rV,0,none⟩) t sc,fG (some ⟨rU,0,none⟩) u gc gs,fI lA B lc cl,fI uA C uc cu,fT tA D tc ts] [0,1,2,3,4,5,6] [11] λb s=>?_
  refine ap Z (λ_=>s) [0,1,2,4] (bf 12 [0,1,2,4]) [(75,vP q 1),(73,vP q 0),(72,vP gy (c*3)),(71,vP gy (c*3))] λa Z=>?_
  refine dJ Z s 3 0 (v:=vQ e.v) λa Z=>?_
  refine dJ Z s 5 0 (v:=vW e.r) λa Z=>?_
  refine pE Z s 6 λa Z=>?_
  refine ap Z (λ_=>s) [7] (bt 12 [8,9,10,11]) [(78,vP gy (c*3))] λa Z=>?_
  refine s_on Z 8 rfl ?_
  refine DJ Z b 7 (c:=c) 0 ({o with v:=e.v}) rfl rfl rfl rfl kr rfl rfl om (Y) (H) rfl de rfl λDN b=>?_
  replace b:Mem W DN (.blk q e.cells 333:: .blk g9 ((gs.getD g Gr.zero).cells) 198::fM K cp cr (some ⟨rU,0,none⟩) u gc lA B lc uA C uc tA D tc (some ⟨rV,0,none⟩) t sc::fG (some ⟨rU,0,none⟩) u gc gs::fI lA B lc cl::fI uA C uc cu::fT tA D tc ts::fS (some ⟨rV,0,none⟩) t sc (aT d g c ({o with v:=e.v}))::(fR (aT d g c ({o with v:=e.v}))++(T))):=b
  refine av (b.pk [0,1,2,3,4,5,6]) (λs=>?_)
  refine CG Z (λ_=>s) 9 λa Z=>?_
  refine ap Z (λ_=>s) [10] (bt 12 [11]) [(80,vP gy (c*3+1))] λa Z=>?_
  refine s_on Z 11 rfl ?_
  refine DJ Z b 7 (c:=c) 1 ({o with v:=e.v,r:=e.r}) rfl rfl rfl rfl kr rfl rfl (by first|omega|(rw [zu];omega)) (N7 om Y) (yT H) rfl de rfl λJ5 b=>?_
  replace b:Mem W J5 (.blk q e.cells 333:: .blk g9 ((gs.getD g Gr.zero).cells) 198::fM K cp cr (some ⟨rU,0,none⟩) u gc lA B lc uA C uc tA D tc (some ⟨rV,0,none⟩) t sc::fG (some ⟨rU,0,none⟩) u gc gs::fI lA B lc cl::fI uA C uc cu::fT tA D tc ts::fS (some ⟨rV,0,none⟩) t sc (aT (aT d g c ({o with v:=e.v})) g c ({o with v:=e.v,r:=e.r}))::(fR (aT (aT d g c ({o with v:=e.v})) g c ({o with v:=e.v,r:=e.r}))++(T))):=b
  rw [SN (by first|omega|(rw [zu];omega))] at b
  refine dR kr ?_
  refine qe kr ?_
  refine Jb Z b ((JG∘JR∘dx 1∘Jp 1∘aI∘Jq) λa Z b=>?_)
  exact ⟨_,om,i+1,(aT d g c {o with v:=e.v,r:=e.r}),by omega,by rw [zu];exact hl2,G.put {o with v:=e.v,r:=e.r} ⟨hev,her,I.1.floor⟩ (by rw [Q];have:=S.1.1;rw [S.2] at this;exact this),by rw [q2q X,<-V,hge];exact q72 (x:=(⟨cp,cr,some ⟨rU,0,none⟩,gc,gs,lA,lc,cl,uA,uc,cu,tA,tc,ts,some ⟨rV,0,none⟩,sc,d⟩:aF)) (by show g<abr d;omega) Y H hpp (by show p<abr d;omega) hp hpz Q N,rfl,Z.sub kr,b.pt 8 [2,3,4,5,6,7]⟩
 refine (JF∘JX) λa Z b=>?_
 exact iD rfl Z (zir (x:=(⟨cp,cr,some ⟨rU,0,none⟩,gc,gs,lA,lc,cl,uA,uc,cu,tA,tc,ts,some ⟨rV,0,none⟩,sc,rs⟩:aF)) hl2 G (by rw [show ({(⟨cp,cr,some ⟨rU,0,none⟩,gc,gs,lA,lc,cl,uA,uc,cu,tA,tc,ts,some ⟨rV,0,none⟩,sc,rs⟩:aF) with rs:=d}:aF)=(⟨cp,cr,some ⟨rU,0,none⟩,gc,gs,lA,lc,cl,uA,uc,cu,tA,tc,ts,some ⟨rV,0,none⟩,sc,d⟩:aF) from rfl,V,abM om]) b)
end Go.Proofs.YtekiimhdnigmcaaGreatDoor
