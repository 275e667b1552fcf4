/- Parts. -/
import Derived.RangeFuncNested
import Derived.RangeFuncCalls
import Derived.WalkKit
import Derived.Deep.Draws
import Derived.Maps.AppendAt
import Derived.OwnWalkIn
import Derived.Deep.AppendLies
import Derived.Test.YtekiimhdnigmcaaGreatDoorRows
import Derived.WalkSpells
import Derived.WalkLawsBesides
import Derived.Deep.QuietTactic
import Derived.BigQuiet
import Derived.Deep.MidRow
import Derived.Deep.RegionHeld3
import Derived.RangeFuncBound
import Derived.Shelf.Abstract
import Derived.Shelf.RegionOpen
import Derived.TacticsInMore
import Derived.LoopNIn
import Derived.LoopIn
import Derived.Laws.BytesString
import Derived.Laws.BytesArg
import Derived.ProofKit
import Derived.Below
import Derived.Carry
import Derived.LaidMore
import Derived.Lib.LaidU8
import Derived.Lib.SmallJoins
set_option linter.all false
namespace Go.Proofs.YtekiimhdnigmcaaGreatDoor
open Go.RowKit
open List renaming length→abn
open _root_.Go.Proofs.Tryz renaming prog→abo
open _root_.List renaming length_append→abp,getElem?_eq_getElem→abq,getD_eq_getElem?_getD→abt,length_take→abv,length_map→abx,getElem?_eq_some_iff→abB,mem_of_getElem?→abH,length_set→abJ,flatMap_cons→abK,append_nil→abP,mem_cons→abS,length_cons→abT,mem_map→ab0,all_eq_true→ab3,drop_of_length_le→ab9,mem_cons_of_mem→acd,drop_eq_getElem_cons→ace,eq_nil_of_length_eq_zero→ach,getElem_of_mem→aco,range→acp,map_cons→acu,pairwise_iff_getElem→acv,lookup_cons→acM,getElem_mem→ac5,getElem?_drop→ade,getElem?_take→adv,getElem?_eq_none→adL,pairwise_cons→aek,any_eq_true→aen,of_mem_zip→aew,mem_range→aeA,cons_append→aeD,getElem_set→ae8,mem_filterMap→afe,nodup_cons→afi,map_map→afm,drop_zero→afS,getD_cons_zero→af5,drop_succ_cons→af6,map_fst_zip→ags
open Nat renaming le_refl→abr,lt_or_ge→ab5,zero_add→ab7,mul_le_mul_right→acn,eq_zero_or_pos→acr,pow_le_pow_right→adk,succ_mul→adD,mod_two_eq_zero_or_one→adE,xor_assoc→aei,add_sub_cancel→aeI,add_assoc→aeW,testBit_zero→afd,testBit_xor→afn,eq_of_testBit_eq→af4,lt_or_gt_of_ne→agl,pow_succ→agG,xor_comm→ahd,or_comm→ahj
open Result renaming andThen_ok→abz
open Sem renaming run_bind→abF
open Bool renaming and_eq_true→abG,eq_iff_iff→abY,not_eq_true'→acF,or_eq_true→adM
open Value renaming int→abO,slice→afp
open BitVec renaming ofInt→abV
open Fence renaming wide→ab4,inRound→agP
open Go renaming IntKind→acj
open Region renaming ready→acz,wanted→acV,Mode→adY,noSelect_spec→aeB,binds→aeU,free_spec→ae0,noSelect→agn,free→ag2
open Addr renaming add_mid→acC,add→agr
open _root_.Array renaming getD_eq_getD_getElem?→acL,getElem?_eq_some_iff→acP,getElem_toList→ad3,getElem?_modify→aeH,setIfInBounds_comm→afv
open Oper renaming wp→acN
open Builtin renaming append_→ac7,lenOf→afr,firstCells→afQ
open Instr renaming sliceAt→ady,sureAddr→aee,typeAssert→aev,sliceBounds→afc,sliceBound→afl,slice→agi,fieldAt→agQ,loadAt→ag3
open DataW renaming trod→adI,trod_struct→aga,TrodAll→agO
open IntKind renaming wrap_u64→adS,signed→ad1,bits→aej,min→aex,max→aey,wrap_i64→af2
open Below renaming refl→adX,heap_setCell→afZ
open World renaming alloc_heap_new→ad2,cell?→aea,setCell→aft,cell?_alloc_lt→afP
open Code renaming region→ad5
open Lit renaming int→aeM,wf→agk
open UInt8 renaming ofNat→ae7
open Int renaming tmod→afu,le_refl→afM
open IntWalk renaming i64_left→af0
open Ne renaming symm→agH
open Act renaming put→ahf
variable {p:Nat->Bool} {w W:World} {k:IntKind} {o:Oper} {c n B b i g m cpu:Nat} {xs:List Value} {a:Act} {x:Operand} {l ex:List Nat} {P:Program} {t:TypeId} {C:Array Value} {A:Option Addr}
theorem hide {p:Prop} (h:p):Hid p:=h
def zN {k:Nat} {o:Obj} (h:w.heap[k]?=some o):k<w.heap.size:=(acP.1 h).1
section
variable {P:Program} {g:Operand} {ps:Array Tmp} {assign body:Code} {Q:Exit->Act->World->Prop} {a:Act} {w:World} {gf:Nat} {lb:Array Value} {xs:List (Array Value)} {S:List Nat} {N:Nat->Prop}
end
def add_block (a:Addr) (n:Nat):(a.add n).block=a.block:=by unfold agr;split<;>rfl
def Vi (a:Addr) (i j:Nat):(a.add i).add j=a.add (i+j):=by
 unfold agr
 by_cases hi:i=0<;>by_cases b:j=0<;>simp [hi,b,aeW]
structure Rd (w:World) (B size:Nat) (A:Option Addr) (n:Nat) (xs:List Value):Prop where
 len:abn xs=n*size
 row:0<n->∃ad,A=some ad/\ad.block<B/\∀j u,xs[j]?=some u->w.cell? (ad.add j)=some u
section
variable {w w':World} {B B' size n:Nat} {A:Option Addr} {xs:List Value}
theorem Rd.nil:Rd w B size A 0 []:=⟨by simp,λh=>by omega⟩
theorem Rd.xX (h:Rd w B size A n xs) (hk:∀p:Addr,p.block<B->w'.cell? p=w.cell? p):Rd w' B size A n xs:=
 ⟨h.len,λb=>by
  obtain ⟨c,e,a,hc⟩:=h.row b
  exact ⟨c,e,a,λj u d=>(hk _ (by rw [add_block];exact a)).trans (hc j u d)⟩⟩
theorem Rd.more (h:Rd w B size A n xs) (c:B<=B'):Rd w B' size A n xs:=
 ⟨h.len,λa=>by
  obtain ⟨b,e,d,hc⟩:=h.row a
  exact ⟨b,e,by omega,hc⟩⟩
theorem Rd.below (h:Rd w B size A n xs) (hb:Below B w w'):Rd w' B size A n xs:=h.xX λ_ a=>hb.cell a
theorem Rd.drewN (h:Rd w B size A n xs) (k:Nat):Rd (w.drewN k) B size A n xs:=⟨h.len,h.row⟩
theorem Rd.alloc (h:Rd w B size A n xs) (a:B<=w.heap.size) (o:Obj):Rd (w.alloc o) B size A n xs:=h.xX λp b=>afP w o p (by omega)
theorem Rd.from (h:Rd w B size A n xs) {k cap:Nat} (hk:k<=n) (hc:n<=cap):
  Rd w B size (if cap=k then A else A.map (·.add (k*size))) (n-k) (xs.drop (k*size)):=by
 refine ⟨by rw [List.length_drop,h.len,Nat.sub_mul],λf=>?_⟩
 obtain ⟨b,rfl,c,a⟩:=h.row (by omega)
 rw [if_neg (by omega)]
 refine ⟨b.add (k*size),rfl,by rw [add_block];exact c,λj u d=>?_⟩
 rw [Vi]
 exact a _ u (by rw [<-d,ade])
theorem Rd.upto (h:Rd w B size A n xs) {k:Nat} (hk:k<=n):Rd w B size A k (xs.take (k*size)):=by
 refine ⟨by rw [abv,h.len];exact Nat.min_eq_left (acn _ hk),λf=>?_⟩
 obtain ⟨c,rfl,d,a⟩:=h.row (by omega)
 refine ⟨c,rfl,d,λj u b=>a j u ?_⟩
 rw [adv] at b
 split at b
 ·exact b
 ·cases b
def abj {base:Nat} {e:TypeId} {v:Value} (h:w.ownsRow base e size v n xs) (b:v= .slice A n c):Rd w w.heap.size size A n xs:=by
 subst b
 refine ⟨h.1,λk=>?_⟩
 rcases h.2 with ⟨a,l⟩|⟨g,cap,cur,a,m,d,_,_,_,ht⟩
 ·omega
 ·injection a with f o p
  subst f
  refine ⟨_,rfl,zN d,λj u i=>?_⟩
  exact h.cells (g:=g) rfl j u i
theorem Rd.at {k:Nat} (h:Rd w B 1 A n xs) (hk:k<n):∃a,A=some a/\a.block<B/\∃b:k<abn xs,w.cell? (a.add k)=some xs[k]:=by
 obtain ⟨a,e,c,hc⟩:=h.row (by omega)
 have b:k<abn xs:=by have:=h.len;omega
 exact ⟨a,e,c,b,hc k _ (abq b)⟩
end
def B8 (b:Nat):Value:= .int .u8 (b:Int)
def bD (x:Nat):Value:= .int .u64 (x:Int)
def NW {base:Nat} {e:TypeId} {size:Nat} {v:Value} (h:w.ownsRow base e size v n xs) (hb:c<=base):w.ownsRow c e size v n xs:=by
 refine ⟨h.1,?_⟩
 rcases h.2 with a|⟨g,cap,cur,a,d,b⟩
 ·exact .inl a
 ·exact .inr ⟨g,cap,cur,a,by omega,b⟩
structure EI (P:Program) (t e:TypeId) (z:Value) (size bytes:Nat):Prop where
 ht:P.underlying t=some (.slice e)
 hi:(P.info? e).map (λi=>(i.zero,i.size,i.bytes))=some (some z,size,bytes)
 hz:z.cells.size=size
 hs:0<size
section
variable {P:Program} {w:World} {base:Nat} {t e:TypeId} {z:Value} {size bytes:Nat}
def qmi (b:EI P t e z size bytes) (f:TypeId) {v:Value} {n:Nat} {xs:List Value} (a:w.ownsRow base e size v n xs) (c:Nat):(ac7 #[t,t] f #[v,.slice none 0 c]).run P w= .ok v w:=by
 obtain ⟨i,hi,_⟩:=info_parts b.hi
 rcases a.2 with ⟨rfl,rfl⟩|⟨g,cap,cur,rfl,_,_,d,_⟩
 ·simp [ac7,run_underlying b.ht,sizeOf,typeInfo,hi,afr,afQ]
 ·simp [ac7,run_underlying b.ht,sizeOf,typeInfo,hi,afr,afQ,d,storeCells]
def qzi (p:EI P t e z size bytes) (r:TypeId) {v:Value} {n:Nat} {xs:List Value} (a:w.ownsRow base e size v n xs)
  {B:Nat} {A:Option Addr} {m c:Nat} {news:List Value} (hr:Rd w B size A m news) (h1:∀u∈news,u.oneCell'=true)
  (b:(n+m)*bytes<=140737488355328) (h63:n+m<=9223372036854775807) (o:base<=w.heap.size):
  ∃k l w',(ac7 #[t,t] r #[v,.slice A m c]).run P w= .ok (.slice k (n+m) l) w'/\w'.ownsRow base e size (.slice k (n+m) l) (n+m) (xs++news)/\w.grownBy w' v.ownBlock/\
   ((afp k (n+m) l).ownBlock=v.ownBlock\/(afp k (n+m) l).ownBlock=some w.heap.size):=by
 obtain ⟨i,hi,hz,s,x⟩:=info_parts p.hi
 rcases A with _|y
 ·have hm:m=0:=by
   rcases acr m with d|d
   ·exact d
   ·obtain ⟨y,h,_⟩:=hr.row d
    cases h
  subst hm
  have C:news=[]:=ach (by simpa using hr.len)
  subst C
  obtain ⟨k,l,rfl⟩:∃A c,v= .slice A n c:=by
   rcases a.2 with ⟨rfl,rfl⟩|⟨g,cap,cur,rfl,_⟩<;>exact ⟨_,_,rfl⟩
  exact ⟨k,l,w,qmi p r a c,by simpa using a,World.grownBy.refl w _,.inl rfl⟩
 ·have f:∀j u,news[j]?=some u->w.cell? (y.add j)=some u:=by
   intro j u D
   rcases acr m with d|d
   ·subst d
    have C:news=[]:=ach (by simpa using hr.len)
    subst C
    simp at D
   ·obtain ⟨F,h,_,hc⟩:=hr.row d
    injection h with h
    subst h
    exact hc j u D
  obtain ⟨H,w',q,E,I,_,J⟩:=run_append_own_at (P:=P) w base t r e i z size bytes p.ht hi hz s x p.hz p.hs v n xs a y m c news hr.len f h1 (by unfold maxLen;exact h63) b o
  obtain ⟨k,l,rfl⟩:∃A c,H= .slice A (n+m) c:=by
   rcases E.2 with ⟨rfl,d⟩|⟨g,cap,cur,rfl,_⟩
   ·rw [d];exact ⟨_,_,rfl⟩
   ·exact ⟨_,_,rfl⟩
  exact ⟨k,l,w',q,E,I,J⟩
def Vj {K:Act->World->Prop} {Q:Exit->Act->World->Prop} {s:Operand}
  (k:o.op= .call {callee:= .builtin .append,args:= #[s,x],argTypes:= #[t,t]}) (l:EI P t e z size bytes)
  {v:Value} {n:Nat} {xs:List Value} (i:w.ownsRow base e size v n xs) (hs:a.eval s=v)
  {B:Nat} {A:Option Addr} {m c:Nat} {news:List Value} (hr:Rd w B size A m news) (p:a.eval x= .slice A m c) (h1:∀u∈news,u.oneCell'=true)
  (b:(n+m)*bytes<=140737488355328) (h63:n+m<=9223372036854775807) (d:base<=w.heap.size)
  (h:∀f g w',w'.ownsRow base e size (.slice f (n+m) g) (n+m) (xs++news)->w.grownBy w' v.ownBlock->((Value.slice f (n+m) g).ownBlock=v.ownBlock\/(Value.slice f (n+m) g).ownBlock=some w.heap.size)->K (a.put o.dst (.slice f (n+m) g)) w'):o.wp P a w K Q:=by
 obtain ⟨f,g,w',j,q,r,y⟩:=qzi (P:=P) l o.type i hr h1 (c:=c) b h63 d
 unfold acN execOp
 simp only [k,resolve,invoke,builtin,abF,Sem.run_pure,abz,List.map_toArray,acu,List.map_nil,hs,p,j]
 exact h f g w' q r y
def Vk {ops:Array Oper} {d:List Oper} {Q:Exit->Act->World->Prop} {s:Operand} (k:o.guard=none)
  (l:o.op= .call {callee:= .builtin .append,args:= #[s,x],argTypes:= #[t,t]}) (p:EI P t e z size bytes)
  {v:Value} {n:Nat} {xs:List Value} (j:w.ownsRow base e size v n xs) (hs:a.eval s=v)
  {B:Nat} {A:Option Addr} {m c:Nat} {news:List Value} (hr:Rd w B size A m news) (q:a.eval x= .slice A m c) (h1:∀u∈news,u.oneCell'=true)
  (b:(n+m)*bytes<=140737488355328) (h63:n+m<=9223372036854775807) (f:base<=w.heap.size)
  (h:∀g i w',w'.ownsRow base e size (.slice g (n+m) i) (n+m) (xs++news)->w.grownBy w' v.ownBlock->((Value.slice g (n+m) i).ownBlock=v.ownBlock\/(Value.slice g (n+m) i).ownBlock=some w.heap.size)->wpList P ops Q d (a.put o.dst (.slice g (n+m) i)) w'):
  wpList P ops Q (o::d) a w:=
 wpList_plain k λ_ r=>Vj l p j hs hr q h1 b h63 f λg i w' y C D=>r _ _ (h g i w' y C D)
end
theorem Rd.one (w:World) (x:Value) (e:TypeId):Rd (w.alloc (.cells #[x] e)) (w.heap.size+1) 1 (some ⟨w.heap.size,0,none⟩) 1 [x]:=
 ⟨rfl,λ_=>⟨_,rfl,by simp,λj u a=>cell_one_new w x e j u a⟩⟩
section
variable {bx:Nat} {t:TypeId} {base:Nat} {e:TypeId} {size:Nat} {G:Nat->Prop} {n:Nat} {xs:List Value} {W W':World} {v:Value}
end
def qoc {α:Type} {l:List α} {k:Nat} {u:α} (f:α->Value) (h:l[k]?=some u):(l.take k).map f++[f u]=(l.take (k+1)).map f:=by
 rw [List.take_add_one,h];simp
def below_drewN {a:World} (h:Below B a w) (n:Nat):Below B a (w.drewN n):=⟨h.os,h.tape,h.output,h.size,h.block⟩
def own_drewN {base:Nat} {e:TypeId} {size:Nat} {v:Value} (h:w.ownsRow base e size v n xs) (m:Nat):(w.drewN m).ownsRow base e size v n xs:=h
section
def bn:EI abo 30 5 (.int .u8 0) 1 1:=⟨by kernel_rfl,by kernel_rfl,rfl,by omega⟩
def kD:EI abo 117 41 (.int .u64 0) 1 8:=⟨by kernel_rfl,by kernel_rfl,rfl,by omega⟩
def kE:EI abo 38 3 (.int .i64 0) 1 8:=⟨by kernel_rfl,by kernel_rfl,rfl,by omega⟩
def zk1:EI abo 319 9 (.string ⟨#[]⟩) 1 16:=⟨by kernel_rfl,by kernel_rfl,rfl,by omega⟩
end
def aW (x:Int):Prop:= -9223372036854775808<=x/\x<=9223372036854775807
def dM (n:Nat):Value:= .int .i64 (n:Int)
structure Ev where
 seq:Int
 time:Int
 cpu:Nat
 kind:Nat
 task:Int
 group:Int
 to:Int
 weight:Int
 ticks:Int
 mask:Nat
 got:Int
structure Ev.Ok (e:Ev):Prop where
 seq:aW e.seq
 time:aW e.time
 cpu:e.cpu<256
 kind:e.kind<256
 task:aW e.task
 group:aW e.group
 to:aW e.to
 weight:aW e.weight
 ticks:aW e.ticks
 mask:e.mask<18446744073709551616
 got:aW e.got
def Ev.cells (e:Ev):Array Value:= #[.int .i64 e.seq,.int .i64 e.time,.int .u8 (e.cpu:Int),.int .u8 (e.kind:Int),.int .i64 e.task,.int .i64 e.group,.int .i64 e.to,.int .i64 e.weight,.int .i64 e.ticks,.int .u64 (e.mask:Int),.int .i64 e.got]
structure jN (w:World) (b:Nat) (e:Ev):Prop where
 seq:w.cell? ⟨b,0,none⟩=some (.int .i64 e.seq)
 time:w.cell? ⟨b,1,none⟩=some (.int .i64 e.time)
 cpu:w.cell? ⟨b,2,none⟩=some (.int .u8 (e.cpu:Int))
 kind:w.cell? ⟨b,3,none⟩=some (.int .u8 (e.kind:Int))
 task:w.cell? ⟨b,4,none⟩=some (.int .i64 e.task)
 group:w.cell? ⟨b,5,none⟩=some (.int .i64 e.group)
 to:w.cell? ⟨b,6,none⟩=some (.int .i64 e.to)
 weight:w.cell? ⟨b,7,none⟩=some (.int .i64 e.weight)
 ticks:w.cell? ⟨b,8,none⟩=some (.int .i64 e.ticks)
 mask:w.cell? ⟨b,9,none⟩=some (.int .u64 (e.mask:Int))
 got:w.cell? ⟨b,10,none⟩=some (.int .i64 e.got)
variable {e:Ev}
def jN.keep (h:jN w b e) (hk:∀(o:Nat) (v:Value),w.cell? ⟨b,o,none⟩=some v->W.cell? ⟨b,o,none⟩=some v):jN W b e:=
 ⟨hk _ _ h.seq,hk _ _ h.time,hk _ _ h.cpu,hk _ _ h.kind,hk _ _ h.task,hk _ _ h.group,hk _ _ h.to,hk _ _ h.weight,hk _ _ h.ticks,hk _ _ h.mask,hk _ _ h.got⟩
theorem jN.below (h:jN w b e) (hk:Below B w W) (hb:b<B):jN W b e:=h.keep λo _ a=>(hk.cell (p:=⟨b,o,none⟩) hb).trans a
def jN.new (w:World) (e:Ev) (t:TypeId):jN (w.alloc (.cells e.cells t)) w.heap.size e:=by
 constructor<;>rw [World.cell?_alloc_new]<;>rfl
def aB:Nat->List Nat
 |1=>[0,1,3,5]|2=>[0]|3=>[6]|4=>[6]|5=>[4,6]|6=>[6]|7=>[0,3]|8=>[1,3]|9=>[0,2]|10=>[6]|_=>[]
def Ev.gT (e:Ev):Nat->Int
 |0=>e.task|1=>e.group|2=>e.to|3=>e.weight|4=>e.ticks|5=>(e.mask:Int)|_=>e.got
def Ev.within (e:Ev):Nat->Bool
 |0=>decide (1<=e.task/\e.task<=65535)
 |1=>decide ((if e.kind=8 then 1 else 0)<=e.group/\e.group<=255)
 |2=>decide (0<=e.to/\e.to<=63/\e.to≠(e.cpu:Int))
 |3=>decide (1<=e.weight/\e.weight<=65536)
 |4=>decide (1<=e.ticks/\e.ticks<=4294967295)
 |5=>decide (e.mask/2^e.cpu%2=1)
 |_=>decide ((if e.kind=5\/e.kind=6 then 0 else 1)<=e.got/\e.got<=65535)
def Ev.check (e:Ev):Nat:=
 if e.kind=0\/10<e.kind then 60
 else if e.seq<1\/281474976710656<e.seq\/e.time<0\/281474976710656<e.time\/64<=e.cpu then 61
 else if (aB e.kind).all e.within=false then 61
 else if (acp 7).all (λi=>decide (e.gT i=0)||(aB e.kind).contains i)=false then 62
 else 0
def Ev.vals (e:Ev):List Nat:=(aB e.kind).map λi=>(e.gT i).toNat
structure Laid (B:Nat) (w:World):Prop where
 uses:∀k,k<11->∃A c,w.cell? ⟨2,k,none⟩=some (.slice A (abn (aB k)) c)/\Rd w B 1 A (abn (aB k)) ((aB k).map dM)
 big:2<B
 names:∀i,i<7->∃s:ByteArray,w.cell? ⟨3,i,none⟩=some (.string s)
 EM:3<B
def Laid.xX (h:Laid B w) (hk:∀p:Addr,p.block<B->W.cell? p=w.cell? p):Laid B W:=
 ⟨λk a=>by obtain ⟨A,c,b,d⟩:=h.uses k a;exact ⟨A,c,(hk _ h.big).trans b,d.xX hk⟩,h.big,λi hi=>by obtain ⟨s,b⟩:=h.names i hi;exact ⟨s,(hk _ h.EM).trans b⟩,h.EM⟩
theorem Laid.below (h:Laid B w) (hb:Below c w W) (a:B<=c):Laid B W:=h.xX λp b=>hb.cell (by omega)
def Laid.alloc (h:Laid B w) (a:B<=w.heap.size) (o:Obj):Laid B (w.alloc o):=h.xX λp b=>afP w o p (by omega)
def Vv (a:Value) (w:World):(aev (.iface 439 a) 20 439 true).run abo w= .ok (.tuple #[a,.bool true]) w:=by kernel_rfl
def Vz (a:Value) (w:World):(aev (.iface 442 a) 20 439 true).run abo w= .ok (.tuple #[.pointer none,.bool false]) w:=by kernel_rfl
def VB (a:Value) (w:World):(aev (.iface 442 a) 20 442 true).run abo w= .ok (.tuple #[a,.bool true]) w:=by kernel_rfl
def Ev.num (e:Ev) (i:Nat):Int:=IntKind.u64.wrap (e.gT i)
set_option maxRecDepth 100000 in
set_option maxHeartbeats 1000000 in
theorem KX (e:Ev) (a:e.Ok) (b i:Nat) (hi:i<7) (w:World) (hb:jN w b e):
  Calls Tryz.prog 285 #[.pointer (some ⟨b,0,none⟩),.int .i64 (i:Int)] w λr c=>r= .returned (.tuple #[.int .u64 (e.num i),.bool (decide (0<=e.gT i))])/\∃n,c=w.drewN n:=by
 obtain ⟨g,h,j,k,l,m,o,p,q,s,d⟩:=hb
 have t:=Vv
 have u:=Vz
 have v:=VB
 have hm:IntKind.u64.wrap (e.mask:Int)=(e.mask:Int):=by have:=a.mask;rw [IntKind.wrap_u64];omega
 have f:=hide hm
 clear hm a
 obtain rfl|rfl|rfl|rfl|rfl|rfl|rfl:i=0\/i=1\/i=2\/i=3\/i=4\/i=6\/i=5:=by omega
 case inr.inr.inr.inr.inr.inr=>
  go_enter Tryz.func285,Tryz.ntmps285
  go_wp2
  go_ret2
  exact ⟨by unfold Ev.num Ev.gT;simp [f.out],0,rfl⟩
 all_goals
  go_enter Tryz.func285,Tryz.ntmps285
  go_wp2
  go_quiet (fail)
  go_wp2
  go_ret2
  exact ⟨rfl,_,rfl⟩
def Ev.lim (e:Ev):Nat->Nat×Nat
 |0=>(1,65535)
 |1=>(if e.kind=8 then 1 else 0,255)
 |2=>(0,63)
 |3=>(1,65536)
 |4=>(1,4294967295)
 |5=>(1,18446744073709551615)
 |_=>(if e.kind=5\/e.kind=6 then 0 else 1,65535)
set_option maxRecDepth 100000 in
set_option maxHeartbeats 1000000 in
theorem N7 (e:Ev) (b i:Nat) (hi:i<7) (w:World) (hb:jN w b e):
  Calls Tryz.prog 306 #[.pointer (some ⟨b,0,none⟩),.int .i64 (i:Int)] w λr h=>r= .returned (.tuple #[.int .u64 ((e.lim i).1:Int),.int .u64 ((e.lim i).2:Int)])/\h=w:=by
 have j:=hb.kind
 clear hb
 obtain rfl|rfl|rfl|rfl|rfl|rfl|rfl:i=0\/i=2\/i=3\/i=4\/i=5\/i=1\/i=6:=by omega
 case inr.inr.inr.inr.inr.inl=>
  by_cases f:e.kind=8
  ·have c:((e.kind:Int)==8)=true:=by rw [beq_iff_eq];omega
   have H:=hide f
   clear f
   go_enter Tryz.func306,Tryz.ntmps306
   go_wp2
   go_ret2
   exact ⟨by rw [show e.lim 1=(1,255) by have:=H.out;simp [Ev.lim,this]];rfl,rfl⟩
  ·have c:((e.kind:Int)==8)=false:=by rw [beq_eq_false_iff_ne];omega
   have H:=hide f
   clear f
   go_enter Tryz.func306,Tryz.ntmps306
   go_wp2
   go_ret2
   exact ⟨by rw [show e.lim 1=(0,255) by have:=H.out;simp [Ev.lim,this]];rfl,rfl⟩
 case inr.inr.inr.inr.inr.inr=>
  by_cases a:e.kind=5
  ·have c:((e.kind:Int)==5)=true:=by rw [beq_iff_eq];omega
   have H:=hide a
   clear a
   go_enter Tryz.func306,Tryz.ntmps306
   go_wp2
   go_ret2
   exact ⟨by rw [show e.lim 6=(0,65535) by have:=H.out;simp [Ev.lim,this]];rfl,rfl⟩
  ·have c:((e.kind:Int)==5)=false:=by rw [beq_eq_false_iff_ne];omega
   by_cases d:e.kind=6
   ·have g:((e.kind:Int)==6)=true:=by rw [beq_iff_eq];omega
    have H:=hide d
    clear a d
    go_enter Tryz.func306,Tryz.ntmps306
    go_wp2
    go_ret2
    exact ⟨by rw [show e.lim 6=(0,65535) by have:=H.out;simp [Ev.lim,this]];rfl,rfl⟩
   ·have g:((e.kind:Int)==6)=false:=by rw [beq_eq_false_iff_ne];omega
    have H:=hide (show ¬(e.kind=5\/e.kind=6) by omega)
    clear a d
    go_enter Tryz.func306,Tryz.ntmps306
    go_wp2
    go_ret2
    exact ⟨by rw [show e.lim 6=(1,65535) by have:=H.out;simp [Ev.lim,this]];rfl,rfl⟩
 all_goals
  go_enter Tryz.func306,Tryz.ntmps306
  go_wp2
  go_ret2
  exact ⟨rfl,rfl⟩
set_option maxRecDepth 100000 in
set_option maxHeartbeats 1000000 in
theorem q2r (e:Ev) (m:e.Ok) (b i:Nat) (hi:i<7) (w:World) (hb:jN w b e) (f:¬(0<=e.gT i/\((e.lim i).1:Int)<=e.num i/\e.num i<=((e.lim i).2:Int))):
  Calls Tryz.prog 284 #[.pointer (some ⟨b,0,none⟩),.int .i64 (i:Int)] w λr a=>r= .returned (.bool false)/\∃n,a=w.drewN n:=by
 have c:=hide (KX e m b i hi w hb)
 have o:∀a,jN a b e->_:=λa g=>N7 e b i hi a g
 have d:∀n,Hid (Calls Tryz.prog 306 #[.pointer (some ⟨b,0,none⟩),.int .i64 (i:Int)] (w.drewN n) λr a=>r= .returned (.tuple #[.int .u64 ((e.lim i).1:Int),.int .u64 ((e.lim i).2:Int)])/\a=w.drewN n):=λn=>hide (N7 e b i hi _ (hb.keep λ_ _ h=>h))
 clear o
 generalize e.gT i=x at f c
 generalize e.num i=y at f c
 generalize e.lim i=z at f d
 obtain ⟨k,j⟩:=z
 simp only at f d
 by_cases p:0<=x
 ·by_cases q:(k:Int)<=y
  ·have l:(j:Int)<y:=by omega
   go_enter Tryz.func284,Tryz.ntmps284
   go_wp2_with (first|(go_at_call 285;refine c.out.mono ?_;rintro r a ⟨rfl,n,rfl⟩)|(go_at_call 306;refine (d _).out.mono ?_;rintro r a ⟨rfl,rfl⟩))
   go_ret
   exact ⟨rfl,_,rfl⟩
  ·have l:y<(k:Int):=by omega
   go_enter Tryz.func284,Tryz.ntmps284
   go_wp2_with (first|(go_at_call 285;refine c.out.mono ?_;rintro r a ⟨rfl,n,rfl⟩)|(go_at_call 306;refine (d _).out.mono ?_;rintro r a ⟨rfl,rfl⟩))
   go_ret
   exact ⟨rfl,_,rfl⟩
 ·have l:x<0:=by omega
  go_enter Tryz.func284,Tryz.ntmps284
  go_wp2_with (first|(go_at_call 285;refine c.out.mono ?_;rintro r a ⟨rfl,n,rfl⟩)|(go_at_call 306;refine (d _).out.mono ?_;rintro r a ⟨rfl,rfl⟩))
  go_ret
  exact ⟨rfl,_,rfl⟩
def N8 (a:e.Ok) (i:Nat) (h:0<=e.gT i):e.num i=e.gT i:=by
 have b:e.gT i<18446744073709551616:=by
  unfold Ev.gT
  split
  ·have:=a.task.2;omega
  ·have:=a.group.2;omega
  ·have:=a.to.2;omega
  ·have:=a.weight.2;omega
  ·have:=a.ticks.2;omega
  ·have:=a.mask;omega
  ·have:=a.got.2;omega
 unfold Ev.num
 rw [adS]
 omega
def q9u (m c:Nat) (hm:m<18446744073709551616):(bits .and .u64 ((m:Int)/2^c) 1==1)=decide (m/2^c%2=1):=by
 have e1:(m:Int)/2^c=((m/2^c:Nat):Int):=by simp
 have a:m/2^c<18446744073709551616:=Nat.lt_of_le_of_lt (Nat.div_le_self _ _) hm
 have e2:bits .and .u64 ((m/2^c:Nat):Int) 1=_:=u64_and_nat (m/2^c) 1 a (by omega)
 rw [e1,e2,nat_mask1]
 by_cases h:m/2^c%2=1
 ·rw [h];rfl
 ·have:m/2^c%2=0:=by omega
  rw [this];rfl
set_option maxRecDepth 100000 in
set_option maxHeartbeats 2000000 in
theorem qzj (e:Ev) (k:e.Ok) (hc:e.cpu<64) (b i:Nat) (hi:i<7) (w:World) (hb:jN w b e) (d:0<=e.gT i/\((e.lim i).1:Int)<=e.num i/\e.num i<=((e.lim i).2:Int)):
  Calls Tryz.prog 284 #[.pointer (some ⟨b,0,none⟩),.int .i64 (i:Int)] w λr a=>r= .returned (.bool (if i=2 then decide (e.to≠(e.cpu:Int)) else if i=5 then decide (e.mask/2^e.cpu%2=1) else true))/\∃n,a=w.drewN n:=by
 have f:=hide (KX e k b i hi w hb)
 have g:∀n,Hid (Calls Tryz.prog 306 #[.pointer (some ⟨b,0,none⟩),.int .i64 (i:Int)] (w.drewN n) λr a=>r= .returned (.tuple #[.int .u64 ((e.lim i).1:Int),.int .u64 ((e.lim i).2:Int)])/\a=w.drewN n):=λn=>hide (N7 e b i hi _ (hb.keep λ_ _ h=>h))
 have s:=hb.to
 have t:=hb.cpu
 have j:=N8 k i d.1
 have hm:=k.mask
 clear hb k
 have c:i=5->e.num i=(e.mask:Int):=by rintro rfl;exact j
 clear j
 generalize e.gT i=x at d f
 generalize e.num i=y at d f c
 generalize e.lim i=z at d g
 obtain ⟨u,m⟩:=z
 obtain ⟨v,hb,l⟩:=d
 simp only at hb l g
 have o:=hide c
 clear c
 obtain rfl|rfl|rfl|rfl|rfl|rfl|rfl:i=2\/i=5\/i=0\/i=1\/i=3\/i=4\/i=6:=by omega
 ·go_enter Tryz.func284,Tryz.ntmps284
  go_wp2_with (first|(go_at_call 285;refine f.out.mono ?_;rintro r a ⟨rfl,n,rfl⟩)|(go_at_call 306;refine (g _).out.mono ?_;rintro r a ⟨rfl,rfl⟩))
  go_quiet (fail)
  go_wp2
  go_ret
  exact ⟨by by_cases h:e.to=(e.cpu:Int)<;>simp [h],_,rfl⟩
 ·have p:y=(e.mask:Int):=o.out rfl
  subst p
  go_enter Tryz.func284,Tryz.ntmps284
  go_wp2_with (first|(go_at_call 285;refine f.out.mono ?_;rintro r a ⟨rfl,n,rfl⟩)|(go_at_call 306;refine (g _).out.mono ?_;rintro r a ⟨rfl,rfl⟩))
  go_ret
  exact ⟨by have q:=q9u e.mask e.cpu hm;simpa using q,_,rfl⟩
 all_goals
  go_enter Tryz.func284,Tryz.ntmps284
  go_wp2_with (first|(go_at_call 285;refine f.out.mono ?_;rintro r a ⟨rfl,n,rfl⟩)|(go_at_call 306;refine (g _).out.mono ?_;rintro r a ⟨rfl,rfl⟩))
  go_ret
  exact ⟨rfl,_,rfl⟩
def VD (e:Ev) (b:e.Ok) (i:Nat) (hi:i<7):e.within i=(decide (0<=e.gT i/\((e.lim i).1:Int)<=e.num i/\e.num i<=((e.lim i).2:Int))&& (if i=2 then decide (e.to≠(e.cpu:Int)) else if i=5 then decide (e.mask/2^e.cpu%2=1) else true)):=by
 by_cases a:0<=e.gT i
 ·rw [N8 b i a]
  have hm:=b.mask
  obtain rfl|rfl|rfl|rfl|rfl|rfl|rfl:i=0\/i=1\/i=2\/i=3\/i=4\/i=5\/i=6:=by omega
  all_goals simp only [Ev.gT,Ev.lim,Ev.within] at*
  ·rw [abY];simp;omega
  ·rw [abY];by_cases h:e.kind=8<;>simp [h]<;>omega
  ·rw [abY];simp;omega
  ·rw [abY];simp;omega
  ·rw [abY];simp;omega
  ·rw [abY];simp
   intro h
   have c:e.mask≠0:=by rintro a;rw [a] at h;simp at h
   omega
  ·rw [abY];by_cases h:e.kind=5\/e.kind=6<;>simp [h]<;>omega
 ·have:decide (0<=e.gT i/\((e.lim i).1:Int)<=e.num i/\e.num i<=((e.lim i).2:Int))=false:=by simp;intro h;omega
  rw [this]
  obtain rfl|rfl|rfl|rfl|rfl|rfl|rfl:i=0\/i=1\/i=2\/i=3\/i=4\/i=5\/i=6:=by omega
  all_goals simp only [Ev.gT,Ev.within] at*
  ·simp;omega
  ·simp;intro h;split at h<;>omega
  ·simp;omega
  ·simp;omega
  ·simp;omega
  ·omega
  ·simp;intro h;split at h<;>omega
def qzk (e:Ev) (a:e.Ok) (hc:e.cpu<64) (b i:Nat) (hi:i<7) (w:World) (hb:jN w b e):
  Calls abo 284 #[.pointer (some ⟨b,0,none⟩),.int .i64 (i:Int)] w λr d=>r= .returned (.bool (e.within i))/\∃n,d=w.drewN n:=by
 by_cases c:0<=e.gT i/\((e.lim i).1:Int)<=e.num i/\e.num i<=((e.lim i).2:Int)
 ·refine (qzj e a hc b i hi w hb c).mono ?_
  rintro r d ⟨rfl,h⟩
  exact ⟨by rw [VD e a i hi];simp [c],h⟩
 ·refine (q2r e a b i hi w hb c).mono ?_
  rintro r d ⟨rfl,h⟩
  exact ⟨by rw [VD e a i hi];simp [c],h⟩
def zk4 (l:List Nat) (x:Nat) (i:Value):Prop:=∃k,k<=abn l/\i= .int .i64 (k:Int)/\x∉l.take k
set_option maxHeartbeats 400000 in
theorem q2t (A:Option Addr) (n c B x:Nat) (l:List Nat) (w:World) (hr:Rd w B 1 A n (l.map dM)) (u:n<=140737488355328):
  Calls Tryz.prog 268 #[.slice A n c,.int .i64 (x:Int)] w λr m=>(∃k:Int,r= .returned (.int .i64 k)/\(0<=k↔x∈l))/\m=w:=by
 have j:l.length=n:=by simpa using hr.len
 go_enter Tryz.func268,Tryz.ntmps268
 go_wp2
 go_loop [8] (zk4 l x) (λi=>n- (intOf i).toNat)
 case atStart=>exact ⟨0,by omega,rfl,by simp⟩
 case round=>
  obtain ⟨k,v,rfl,d⟩:=hrel
  by_cases e:k<n
  ·obtain ⟨z,rfl,o,p,a⟩:=hr.at e
   simp only [List.getElem_map] at a
   have f:l.take (k+1)=l.take k++[l[k]]:=List.take_succ_eq_append_getElem (by omega)
   have hm:l[k]∈l:=List.getElem_mem _
   generalize l[k]=y at a f hm
   unfold dM at a
   have q:=hide f
   clear f
   by_cases g:x=y
   ·have s:((x:Int)==(y:Int))=true:=by rw [beq_iff_eq];omega
    have H:=hide g
    clear g
    go_wp2
    go_ret
    exact ⟨⟨_,rfl,by rw [H.out];exact ⟨λ_=>hm,λ_=>by omega⟩⟩,rfl⟩
   ·have s:((x:Int)==(y:Int))=false:=by rw [beq_eq_false_iff_ne];omega
    go_wp2
    refine ⟨⟨k+1,by omega,by go_num,?_⟩,by simp [intOf];omega⟩
    rw [q.out]
    simp [d,g]
  ·have:k=n:=by omega
   have b:x∉l:=by rwa [List.take_of_length_le (by omega)] at d
   have t:=hide b
   clear this d b
   go_wp2
   go_ret
   exact ⟨⟨-1,rfl,⟨λh=>by omega,λh=>absurd h t.out⟩⟩,rfl⟩
set_option maxHeartbeats 400000 in
theorem qqf (A:Option Addr) (n c B x:Nat) (l:List Nat) (w:World) (hr:Rd w B 1 A n (l.map dM)) (b:n<=140737488355328):
  Calls Tryz.prog 213 #[.slice A n c,.int .i64 (x:Int)] w λr a=>r= .returned (.bool (l.contains x))/\a=w:=by
 have H:=hide (q2t A n c B x l w hr b)
 go_enter Tryz.func213,Tryz.ntmps213
 go_wp2_with (go_at_call 268;refine H.out.mono ?_;rintro r a ⟨⟨k,rfl,d⟩,rfl⟩)
 go_ret
 refine ⟨?_,rfl⟩
 have:(l.contains x)=decide (x∈l):=by rw [Bool.eq_iff_iff];simp
 rw [this]
 rfl
def Bl:∀(k i:Nat),i∈aB k->i<7:=by
 intro k i h
 unfold aB at h
 split at h<;>simp at h<;>omega
theorem zO (k:Nat):abn (aB k)<=4:=by
 unfold aB;split<;>simp
def q9v (a:e.Ok) (i:Nat):e.num i=0↔e.gT i=0:=by
 have b: -9223372036854775808<=e.gT i/\e.gT i<18446744073709551616:=by
  unfold Ev.gT
  split
  ·have:=a.task;unfold aW at this;omega
  ·have:=a.group;unfold aW at this;omega
  ·have:=a.to;unfold aW at this;omega
  ·have:=a.weight;unfold aW at this;omega
  ·have:=a.ticks;unfold aW at this;omega
  ·have:=a.mask;omega
  ·have:=a.got;unfold aW at this;omega
 unfold Ev.num
 rw [adS]
 omega
def zgm (e:Ev) (w:World) (i:Value) (wr:World):Prop:=
 ∃k m,k<=abn (aB e.kind)/\i= .int .i64 (k:Int)/\((aB e.kind).take k).all e.within=true/\wr=w.drewN m
def zgn (e:Ev) (w:World) (i:Value) (wr:World):Prop:=
 ∃k m:Nat,k<=7/\i= .int .i64 (k:Int)/\(acp k).all (λi=>decide (e.gT i=0)||(aB e.kind).contains i)=true/\wr=w.drewN m
set_option maxRecDepth 100000 in
set_option maxHeartbeats 2000000 in
theorem N9 (e : Ev) (M : e.Ok) (B : Nat) (w : World) (hL : Laid B w) (hB : B <= w.heap.size) :
  Calls Tryz.prog 243 #[.agg e.cells] w λr l=>r= .returned (.int .i64 (e.check:Int))/\Below w.heap.size w l:=by
 have g:=jN.new w e 73
 have d:Below w.heap.size w (w.alloc (.cells e.cells 73)):=(Below.refl _ _).alloc (Nat.le_refl _) _
 have x:=hL.alloc hB (.cells e.cells 73)
 obtain ⟨s,N⟩:∃s,Hid (e.cells=s):=⟨_,hide rfl⟩
 rw [N.out] at g d x⊢
 by_cases o:e.kind=0\/10<e.kind
 ·have h3:=g.kind
  have j:e.check=60:=by unfold Ev.check;rw [if_pos o]
  have p:=hide j
  clear j
  rcases o with o|o
  ·have y:((e.kind:Int)==0)=true:=by rw [beq_iff_eq];omega
   clear o
   go_enter Tryz.func243,Tryz.ntmps243
   go_wp2
   go_ret
   exact ⟨by rw [p.out];rfl,d⟩
  ·have y:((e.kind:Int)==0)=false:=by rw [beq_eq_false_iff_ne];omega
   have z:10<(e.kind:Int):=by omega
   clear o
   go_enter Tryz.func243,Tryz.ntmps243
   go_wp2
   go_ret
   exact ⟨by rw [p.out];rfl,d⟩
 ·obtain ⟨h0, h1, h2, h3, h4, h5, h6, h7, h8, h9, O⟩ := id g
  have y:((e.kind:Int)==0)=false:=by rw [beq_eq_false_iff_ne];omega
  have z:(e.kind:Int)<=10:=by omega
  clear h4 h5 h6 h7 h8 h9 O
  by_cases P:e.seq<1\/281474976710656<e.seq\/e.time<0\/281474976710656<e.time\/64<=e.cpu
  ·have j:e.check=61:=by unfold Ev.check;rw [if_neg o,if_pos P]
   have p:=hide j
   have t:(e.seq<1)\/(1<=e.seq/\281474976710656<e.seq)\/(1<=e.seq/\e.seq<=281474976710656/\e.time<0)\/(1<=e.seq/\e.seq<=281474976710656/\0<=e.time/\281474976710656<e.time)\/(1<=e.seq/\e.seq<=281474976710656/\0<=e.time/\e.time<=281474976710656/\(64:Int)<=e.cpu):=by omega
   clear j o P
   rcases t with F|⟨F,Q⟩|⟨F,Q,Y⟩|⟨F,Q,Y,a4⟩|⟨F,Q,Y,a4,a5⟩
   all_goals
    go_enter Tryz.func243,Tryz.ntmps243
    go_wp2
    go_ret
    exact ⟨by rw [p.out];rfl,d⟩
  ·have hr1 : 1 <= e.seq := by omega
   have hr2:e.seq<=281474976710656:=by omega
   have hr3:0<=e.time:=by omega
   have hr4:e.time<=281474976710656:=by omega
   have R:e.cpu<64:=by omega
   clear P
   obtain ⟨A,c,hu,C⟩:=x.uses e.kind (by omega)
   have Z:=zO e.kind
   go_enter Tryz.func243,Tryz.ntmps243
   go_wp2
   go_loopw [44] (zgm e (w.alloc (.cells s 73))) (λi _=>(aB e.kind).length- (intOf i).toNat)
   case atStart=>exact ⟨0,0,by omega,rfl,by simp,rfl⟩
   case round =>
    obtain ⟨k,m,o,rfl,a,rfl⟩:=hrel
    by_cases u:k<(aB e.kind).length
    ·obtain ⟨ad,rfl,hbl,hl',f⟩:=C.at u
     simp only [List.getElem_map] at f
     have hi:=Bl e.kind _ (List.getElem_mem u)
     have v:(aB e.kind).take (k+1)=(aB e.kind).take k++[(aB e.kind)[k]]:=List.take_succ_eq_append_getElem u
     have hm:(aB e.kind)[k]∈aB e.kind:=List.getElem_mem _
     generalize (aB e.kind)[k]=i at f hi v hm
     unfold dM at f
     have G:=hide (qzk e M R w.heap.size i hi ((w.alloc (.cells s 73)).drewN m) (g.keep λ_ _ h=>h))
     have H:=hide v
     have I:=hide a
     clear v a
     by_cases J:e.within i=true
     ·rw [J] at G
      go_wp2_with (go_at_call 284;refine G.out.mono ?_;rintro r l ⟨rfl,n,rfl⟩)
      refine ⟨⟨k+1,m+n,by omega,by go_num,?_,by simp⟩,by simp [intOf];omega⟩
      rw [H.out];simp [J];simpa using I.out
     ·rw [show e.within i=false by simpa using J] at G
      go_wp2_with (go_at_call 284;refine G.out.mono ?_;rintro r l ⟨rfl,n,rfl⟩)
      go_ret
      refine ⟨?_,below_drewN d _⟩
      have:e.check=61:=by
       have:(aB e.kind).all e.within=false:=by rw [List.all_eq_false];exact ⟨i,hm,by simpa using J⟩
       unfold Ev.check;rw [if_neg (by omega),if_neg (by omega),if_pos this]
      rw [this];rfl
    ·have S : (aB e.kind).length <= k := by omega
     have D:(aB e.kind).all e.within=true:=by rwa [List.take_of_length_le S] at a
     have I:=hide D
     clear D a
     have hz1:(0:Int)<7:=by omega
     go_wp2
     go_loopw [52] (zgn e (w.alloc (.cells s 73))) (λi _=>7- (intOf i).toNat)
     case atStart=>exact ⟨0,m,by omega,rfl,by simp,rfl⟩
     case round =>
      obtain ⟨b,T,hk2,rfl,a,rfl⟩:=hrel
      by_cases E:b<7
      ·have U:=hide (KX e M w.heap.size b E ((w.alloc (.cells s 73)).drewN T) (g.keep λ_ _ h=>h))
       have HN:=hide (q9v M b)
       have v:List.range (b+1)=List.range b++[b]:=List.range_succ
       have H:=hide v
       have K:=hide a
       clear v a
       have p:∀L,Hid (Calls Tryz.prog 213 #[.slice A (aB e.kind).length c,.int .i64 (b:Int)] ((w.alloc (.cells s 73)).drewN L) λr l=>r= .returned (.bool ((aB e.kind).contains b))/\l=(w.alloc (.cells s 73)).drewN L):=λL=>hide (qqf A _ c B b (aB e.kind) _ (C.drewN L) (by omega))
       by_cases hz:e.gT b=0
       ·have V:(e.num b !=0)=false:=by simp [HN.out,hz]
        have W:=hide hz
        clear hz
        go_wp2_with (go_at_call 285;refine U.out.mono ?_;rintro r l ⟨rfl,n,rfl⟩)
        refine ⟨⟨b+1,T+n,by omega,by go_num,?_,by simp⟩,by simp [intOf];omega⟩
        rw [H.out,List.all_append,K.out];simp [W.out]
       ·have V:(e.num b !=0)=true:=by simp [HN.out,hz]
        have W:=hide hz
        clear hz
        by_cases q:(aB e.kind).contains b=true
        ·rw [q] at p
         go_wp2_with (first|(go_at_call 285;refine U.out.mono ?_;rintro r l ⟨rfl,n,rfl⟩)|(go_at_call 213;refine (p _).out.mono ?_;rintro r l ⟨rfl,rfl⟩))
         refine ⟨⟨b+1,T+n,by omega,by go_num,?_,by simp⟩,by simp [intOf];omega⟩
         rw [H.out,List.all_append,K.out];simp only [List.all_cons,List.all_nil,q];simp
        ·rw [show (aB e.kind).contains b=false by simpa using q] at p
         go_wp2_with (first|(go_at_call 285;refine U.out.mono ?_;rintro r l ⟨rfl,n,rfl⟩)|(go_at_call 213;refine (p _).out.mono ?_;rintro r l ⟨rfl,rfl⟩))
         go_ret
         refine ⟨?_,below_drewN d _⟩
         have:e.check=62:=by
          have X:(List.range 7).all (λi=>decide (e.gT i=0)||(aB e.kind).contains i)=false:=by
           rw [List.all_eq_false];exact ⟨b,by simp;omega,by simp [W.out];simpa using q⟩
          unfold Ev.check;rw [if_neg (by omega),if_neg (by omega),if_neg (by rw [I.out];simp),if_pos X]
         rw [this];rfl
      ·have aeh:(7:Int)<=b:=by omega
       obtain rfl:b=7:=by omega
       have K:=hide a
       clear a
       go_wp2
       go_ret
       refine ⟨?_,below_drewN d _⟩
       have:e.check=0:=by
        unfold Ev.check;rw [if_neg (by omega),if_neg (by omega),if_neg (by rw [I.out];simp),if_neg (by rw [K.out];simp)]
       rw [this];rfl
def q2u (w:World) (kind:Nat) (v i:Value) (wr:World):Prop:=
 ∃k xs,k<=abn (aB kind)/\i= .int .i64 (k:Int)/\wr.ownsRow w.heap.size 9 1 v k xs/\Below w.heap.size w wr
set_option maxRecDepth 100000 in
set_option maxHeartbeats 1000000 in
theorem qzl (kind:Nat) (x:kind<256) (B:Nat) (w:World) (o:Laid B w) (p:B<=w.heap.size):
  Calls Tryz.prog 317 #[.int .u8 (kind:Int)] w λr q=>∃v xs,r= .returned v/\q.ownsRow w.heap.size 9 1 v (aB kind).length xs/\Below w.heap.size w q:=by
 by_cases y:10<kind
 ·have l:(10:Int)<(kind:Int):=by omega
  have m:aB kind=[]:=by unfold aB;split<;>first|rfl|omega
  have z:=hide m
  clear m
  go_enter Tryz.func317,Tryz.ntmps317
  go_wp2
  go_ret
  exact ⟨_,[],rfl,by rw [z.out];exact World.ownsRow_nil _ _ _ _,Below.refl _ _⟩
 ·have l:(kind:Int)<=10:=by omega
  obtain ⟨A,c,m,f⟩:=o.uses kind (by omega)
  have t:=zO kind
  go_enter Tryz.func317,Tryz.ntmps317
  go_wp2
  go_loopw [3,12] (q2u w kind) (λ_ i _=>(aB kind).length- (intOf i).toNat)
  case atStart=>exact ⟨0,[],by omega,rfl,World.ownsRow_nil _ _ _ _,Below.refl _ _⟩
  case round=>
   obtain ⟨k,xs,y,rfl,b,d⟩:=hrel
   have n:=o.below d p
   by_cases h:k<(aB kind).length
   ·obtain ⟨F,rfl,C,D,a⟩:=(f.below (d.mono p)).at h
    simp only [List.getElem_map] at a
    have hi:=Bl kind _ (List.getElem_mem h)
    generalize (aB kind)[k]=i at a hi
    unfold dM at a
    obtain ⟨s,hs⟩:=n.names i hi
    go_wp2_with (at_builtin;refine Vk rfl rfl zk1 (b.alloc _) rfl (Rd.one wr _ _) rfl (by simp [Value.oneCell']) (by omega) (by omega) (by simp;have:=d.size;omega) ?_;intro G H I e j u)
    refine ⟨⟨k+1,_,by omega,by go_num,e,(d.alloc d.size _).grown j (by simp;have:=d.size;omega) (λg E=>(b.lt g E).1)⟩,by simp [intOf];omega⟩
   ·obtain rfl:k=(aB kind).length:=by omega
    clear f
    go_wp2
    go_ret
    exact ⟨_,_,rfl,b,d⟩
def aao (i x:Nat):Value:=if i=5 then .int .u64 (x:Int) else .int .i64 (wrap64 (x:Int))
def Ev.fits (i x:Nat):Bool:=i=5||decide (0<=wrap64 (x:Int))
set_option maxRecDepth 100000 in
set_option maxHeartbeats 1000000 in
theorem VE (b i:Nat) (hi:i<7) (w:World):
  Calls Tryz.prog 307 #[.pointer (some ⟨b,0,none⟩),.int .i64 (i:Int)] w λr a=>r= .returned (.iface (if i=5 then 442 else 439) (.pointer (some ⟨b,4+i,none⟩)))/\a=w:=by
 obtain rfl|rfl|rfl|rfl|rfl|rfl|rfl:i=0\/i=1\/i=2\/i=3\/i=4\/i=6\/i=5:=by omega
 all_goals
  go_enter Tryz.func307,Tryz.ntmps307
  go_wp2
  go_ret
  exact ⟨rfl,rfl⟩
set_option maxRecDepth 100000 in
set_option maxHeartbeats 1000000 in
theorem zgo (b i x:Nat) (hi:i<7) (w:World) (u:Value) (hb:w.cell? ⟨b,4+i,none⟩=some u) (a:w.frozen? ⟨b,4+i,none⟩=false):
  Calls Tryz.prog 321 #[.pointer (some ⟨b,0,none⟩),.int .i64 (i:Int),.int .u64 (x:Int)] w λr c=>r= .returned (.bool (Ev.fits i x))/\c=w.setCell ⟨b,4+i,none⟩ (aao i x):=by
 have e:=Vv
 have f:=Vz
 have g:=VB
 have hs:=World.cell?_setCell_same w ⟨b,4+i,none⟩ (.int .i64 (wrap64 (x:Int))) hb
 obtain rfl|rfl|rfl|rfl|rfl|rfl|rfl:i=0\/i=1\/i=2\/i=3\/i=4\/i=6\/i=5:=by omega
 case inr.inr.inr.inr.inr.inr=>
  go_enter Tryz.func321,Tryz.ntmps321
  go_wp2_with (go_at_call 307;refine (VE b 5 (by omega) _).mono ?_;rintro r d ⟨rfl,rfl⟩;simp only [reduceIte])
  go_ret
  exact ⟨by simp [Ev.fits],by simp [aao]⟩
 all_goals
  simp only [Nat.reduceAdd] at hs hb a
  go_enter Tryz.func321,Tryz.ntmps321
  go_wp2_with (go_at_call 307;refine (VE b _ (by omega) _).mono ?_;rintro r d ⟨rfl,rfl⟩;simp only [reduceIte,Nat.reduceEqDiff])
  go_ret
  exact ⟨by simp [Ev.fits],by simp [aao]⟩
def zgp (e:Ev) (base:Nat) (a:World) (v i:Value) (wr:World):Prop:=
 ∃k,k<=abn (aB e.kind)/\i= .int .i64 (k:Int)/\wr.ownsRow base 41 1 v k ((e.vals.take k).map bD)/\Below base a wr
def qc5 (h:e.check=0):(e.kind=0\/10<e.kind)=False/\(aB e.kind).all e.within=true/\e.cpu<64/\1<=e.seq/\e.seq<=281474976710656/\0<=e.time/\e.time<=281474976710656:=by
 unfold Ev.check at h
 split at h
 ·cases h
 ·split at h
  ·cases h
  ·split at h
   ·cases h
   ·rename_i a c b
    exact ⟨by simp only [a],by simpa using b,by omega,by omega,by omega,by omega,by omega⟩
def KY {e:Ev}:∀{i:Nat},e.within i=true->0<=e.gT i
 |0,h=>by simp only [Ev.within,decide_eq_true_eq] at h;show 0<=e.task;omega
 |1,h=>by simp only [Ev.within,decide_eq_true_eq] at h;show 0<=e.group;have:=h.1;split at this<;>omega
 |2,h=>by simp only [Ev.within,decide_eq_true_eq] at h;show 0<=e.to;omega
 |3,h=>by simp only [Ev.within,decide_eq_true_eq] at h;show 0<=e.weight;omega
 |4,h=>by simp only [Ev.within,decide_eq_true_eq] at h;show 0<=e.ticks;omega
 |5,_=>by show 0<=(e.mask:Int);omega
 |n+6,h=>by simp only [Ev.within,decide_eq_true_eq] at h;show 0<=e.got;have:=h.1;split at this<;>omega
def VF (b:e.Ok) (h:e.check=0) {i:Nat} (hi:i∈aB e.kind):e.num i=(((e.gT i).toNat:Nat):Int):=by
 have a:=(qc5 h).2.1
 rw [ab3] at a
 have c:=KY (a i hi)
 rw [N8 b i c]
 omega
def Ev.tZ (e:Ev):List Nat:=if e.check=0 then e.vals else []
structure uG (w:World) (err:Nat) (xs:List Nat) (r:Ending) (w':World):Prop where
 ret:∃v,r= .returned (.tuple #[v,.int .i64 (err:Int)])/\w'.ownsRow w.heap.size 41 1 v (abn xs) (xs.map bD)
 below:Below w.heap.size w w'
set_option maxRecDepth 100000 in
set_option maxHeartbeats 1000000 in
theorem qzm (e:Ev) (z:e.Ok) (B:Nat) (w:World) (S:Laid B w) (T:B<=w.heap.size):
  Calls Tryz.prog 286 #[.agg e.cells] w (uG w e.check e.tZ):=by
 have j:=jN.new w e 73
 have l:Below w.heap.size w (w.alloc (.cells e.cells 73)):=(Below.refl _ _).alloc (Nat.le_refl _) _
 have m:=S.alloc T (.cells e.cells 73)
 have C:=hide (N9 e z B _ m (by simp;omega))
 obtain ⟨U,D,V,N,W,X,Y,Z,h8,h9,E⟩:=id j
 unfold Ev.cells at*
 by_cases f:e.check=0
 ·have F:((e.check:Int) !=0)=false:=by rw [bne_eq_false_iff_eq];omega
  have G:=hide (show e.tZ=e.vals by unfold Ev.tZ;rw [if_pos f])
  have HN:=hide (λi (hi:i∈aB e.kind)=>VF z f hi)
  have O:e.kind<=10:=by have:=(qc5 f).1;simp at this;omega
  have P:=zO e.kind
  have s:Hid (e.vals.length=(aB e.kind).length):=by unfold Ev.vals;rw [List.length_map];exact hide rfl
  have H:=hide f
  clear f
  go_enter Tryz.func286,Tryz.ntmps286
  go_wp2_with (go_at_call 243;refine C.out.mono ?_;rintro r x ⟨rfl,a⟩;have I:=(a.cell (p:=⟨w.heap.size,3,none⟩) (by simp)).trans N;obtain ⟨A,c,hu,t⟩:=(m.below a (by simp;omega)).uses e.kind (by omega))
  have hbz:w.heap.size+1<=x.heap.size:=by have:=a.size;simpa using this
  have u:=j.below a (by simp)
  have J:Below w.heap.size w x:=l.trans (a.mono (by simp))
  clear U D V N W X Y Z h8 h9 E j l C m
  go_loopw [5,20] (zgp e (w.heap.size+1) x) (λ_ i _=>(aB e.kind).length- (intOf i).toNat)
  case atStart=>exact ⟨0,by omega,rfl,World.ownsRow_nil _ _ _ _,Below.refl _ _⟩
  case round=>
   obtain ⟨k,f,rfl,d,n⟩:=hrel
   by_cases o:k<(aB e.kind).length
   ·obtain ⟨ad,rfl,hbl,hl',b⟩:=(t.below (n.mono (by omega))).at o
    simp only [List.getElem_map] at b
    have hi:=Bl e.kind _ (List.getElem_mem o)
    have hm:(aB e.kind)[k]∈aB e.kind:=List.getElem_mem _
    have Q:e.vals[k]?=some (e.gT (aB e.kind)[k]).toNat:=by unfold Ev.vals;rw [List.getElem?_map,List.getElem?_eq_getElem o];rfl
    have K:=hide (qoc bD Q)
    clear Q
    generalize (aB e.kind)[k]=i at b hi hm K
    unfold dM at b
    have h:=HN.out i hm
    have L:=hide (KX e z w.heap.size i hi wr (u.below n (by omega)))
    rw [h] at L
    clear h
    generalize (e.gT i).toNat=y at L K
    go_wp2_with (first|(go_at_call 285;refine L.out.mono ?_;rintro r w' ⟨rfl,M,rfl⟩)|(at_builtin;refine Vk rfl rfl kD ((own_drewN d M).alloc _) rfl (Rd.one (wr.drewN M) _ _) rfl (by simp [Value.oneCell']) (by omega) (by omega) (by simp;have:=n.size;omega) ?_;intro A2 c2 w2 q v R))
    refine ⟨⟨k+1,by omega,by go_num,by rw [<-K.out];exact q,((below_drewN n M).alloc (by simp;have:=n.size;omega) _).grown v (by simp;have:=n.size;omega) (λg hg=>(d.lt g hg).1)⟩,by simp [intOf];omega⟩
   ·obtain rfl:k=(aB e.kind).length:=by omega
    clear t
    go_wp2
    go_ret2
    have D:=H.out
    refine ⟨⟨_,by rw [D];rfl,?_⟩,J.trans (n.mono (by omega))⟩
    rw [G.out,s.out]
    rw [List.take_of_length_le (by rw [s.out];omega)] at d
    exact NW d (by omega)
 ·have F:((e.check:Int) !=0)=true:=by rw [bne_iff_ne];omega
  have G:=hide (show e.tZ=[] by unfold Ev.tZ;rw [if_neg f])
  clear f
  go_enter Tryz.func286,Tryz.ntmps286
  go_wp2_with (go_at_call 243;refine C.out.mono ?_;rintro r x ⟨rfl,a⟩)
  go_ret2
  exact ⟨⟨_,rfl,by rw [G.out];exact World.ownsRow_nil _ _ _ _⟩,l.trans (a.mono (by simp))⟩
theorem Qo {α β:Type} {f g:α->Option β}:∀{l:List α},(∀x∈l,f x=g x)->l.filterMap f=l.filterMap g:=by intro x;induction x<;>grind
def iw (n:Nat) (p:Nat->Bool):Bool:=(acp n).all p
theorem vD (h:∀i,i<n->p i=true):iw n p=true:=ab3.2 λi hi=>h i (aeA.1 hi)
theorem xK (h:iw n p=true) {i:Nat} (hi:i<n):p i=true:=ab3.1 h i (aeA.2 hi)
theorem Ak (hi:i<n) (h:p i=false):iw n p=false:=by grind [iw,xK]
def fQ (k:Nat) (p:Nat->Bool):Prop:=∀i,i<k->p i=true
theorem fQ.zero {p:Nat->Bool}:fQ 0 p:=λi h=>by omega
def fQ.succ {k:Nat} (h:fQ k p) (hk:p k=true):fQ (k+1) p:=λi hi=>by
 rcases ab5 i k with a|a
 ·exact h i a
 ·obtain rfl:i=k:=by omega
  exact hk
theorem fQ.all (h:fQ n p):iw n p=true:=vD h
structure Gr where
 parent:Int
 weight:Int
structure Tk where
 id:Int
 group:Int
 weight:Int
 cpu:Int
 mask:Nat
 ready:Bool
 v:Nat
 r:Nat
structure Sp where
 v:Nat
 r:Nat
 floor:Nat
def Gr.zero:Gr:=⟨0,0⟩
def Tk.zero:Tk:=⟨0,0,0,0,0,false,0,0⟩
def Sp.zero:Sp:=⟨0,0,0⟩
instance Y3:DecidableEq Gr:=λ⟨a,b⟩ ⟨c,d⟩=>decidable_of_iff (a=c/\b=d) (by rw [Gr.mk.injEq])
instance Y4:DecidableEq Tk:=λ⟨a,b,c,d,e,f,g,h⟩ ⟨i,j,k,l,m,n,o,p⟩=>decidable_of_iff (a=i/\b=j/\c=k/\d=l/\e=m/\f=n/\g=o/\h=p) (by rw [Tk.mk.injEq])
instance Y5:DecidableEq Sp:=λ⟨a,b,c⟩ ⟨d,e,f⟩=>decidable_of_iff (a=d/\b=e/\c=f) (by rw [Sp.mk.injEq])
structure Gr.Ok (x:Gr):Prop where
 parent:aW x.parent
 weight:aW x.weight
structure Tk.Ok (x:Tk):Prop where
 id:aW x.id
 group:aW x.group
 weight:aW x.weight
 cpu:aW x.cpu
 mask:x.mask<18446744073709551616
 v:x.v<18446744073709551616
 r:x.r<4294967296
structure Sp.Ok (x:Sp):Prop where
 v:x.v<18446744073709551616
 r:x.r<4294967296
 floor:x.floor<18446744073709551616
structure bE where
 au:Int
 aj:Nat
 gs:List Gr
 cl:List Int
 cu:List Int
 ts:List Tk
 sp:List (List Sp)
structure bE.Ok (s:bE):Prop where
 au:aW s.au
 aj:s.aj<18446744073709551616
 gs:∀x∈s.gs,x.Ok
 cl:∀x∈s.cl,aW x
 cu:∀x∈s.cu,aW x
 ts:∀x∈s.ts,x.Ok
 sp:∀l∈s.sp,∀x∈l,x.Ok
def bE.spot (s:bE) (g c:Nat):Sp:=(s.sp.getD g []).getD c Sp.zero
def bE.par (s:bE) (g:Nat):Int:=(s.gs.getD g Gr.zero).parent
def jy (l:List Gr):Nat->Nat->Nat
 |0,_=>0
 |f+1,g=>if g=0 then 0 else jy l f (l.getD g Gr.zero).parent.toNat+1
def iV (l:List Gr) (g:Nat):Nat:=jy l g g
def d9 (l:List Gr) (g:Nat):Prop:=0<=(l.getD g Gr.zero).parent/\(l.getD g Gr.zero).parent<g
def l9 (w:Int):Bool:=decide (1<=w/\w<=65536)
def pO (l:List Gr) (g:Nat):Bool:=g==0||decide (0<=(l.getD g Gr.zero).parent/\(l.getD g Gr.zero).parent<g/\(l9 (l.getD g Gr.zero).weight=true)/\iV l g<=4)
def dF (l:List Gr):Bool:=decide (1<=abn l/\abn l<=256/\l.getD 0 Gr.zero=⟨0,1⟩)&&iw (abn l) (pO l)
theorem q5b {l:List Gr}:∀(f g:Nat),(∀i,0<i->i<=g->d9 l i)->g<=f->jy l f g=jy l g g:=by
 have key:∀(g f a:Nat),(∀i,0<i->i<=g->d9 l i)->g<=f->g<=a->jy l f g=jy l a g:=by
  intro g
  induction g using Nat.strongRecOn with
  | _ g d =>
   intro f a b e h
   by_cases c:g=0
   ·subst c
    cases f<;>cases a<;>simp [jy]
   ·obtain ⟨f,rfl⟩:∃k,f=k+1:=⟨f-1,by omega⟩
    obtain ⟨a,rfl⟩:∃k,a=k+1:=⟨a-1,by omega⟩
    have j:=b g (by omega) (abr _)
    grind [Gr.zero,d9,jy]
 grind
def q5c (l:List Gr):iV l 0=0:=rfl
def Qp {l:List Gr} (h:∀i,0<i->i<=g->d9 l i) (a:0<g):iV l g=iV l (l.getD g Gr.zero).parent.toNat+1:=by
 obtain ⟨k,rfl⟩:∃k,g=k+1:=⟨g-1,by omega⟩
 have b:=h (k+1) a (abr _)
 unfold d9 at b
 show jy l (k+1) (k+1)=_
 rw [jy,if_neg (by omega),q5b k _ (λi hi c=>h i hi (by omega)) (by omega)]
 rfl
def Mk {l:List Gr} (h:pO l g=true) (a:0<g):d9 l g:=by
 unfold pO at h
 rw [adM,beq_iff_eq,decide_eq_true_eq] at h
 rcases h with h|h
 ·omega
 ·exact ⟨h.1,h.2.1⟩
theorem qw {l:List Gr} (h:dF l=true):1<=abn l/\abn l<=256/\l.getD 0 Gr.zero=⟨0,1⟩/\∀g,g<abn l->pO l g=true:=by grind [xK,dF]
def bV (v r:Nat) (w:Int):Bool:=decide (1<=w/\w<=65536/\(r:Int)<w/\(v<18446744073709551615\/r=0))
def xL (mask:Nat) (au:Int):Bool:=decide (2^au.toNat<=mask)
def dX (s:bE) (t:Tk):Bool:=
 decide (1<=t.id/\t.id<=65535/\0<=t.group/\t.group<abn s.sp/\0<=t.cpu/\t.cpu<s.au)&& (l9 t.weight&& (!xL t.mask s.au&& (decide (t.mask/2^t.cpu.toNat%2=1)&&bV t.v t.r t.weight)))
def fU (s:bE):Bool:=decide (1<=s.au/\s.au<=64/\s.aj<=1099511627776)&&dF s.gs
def iG (t:Int):Bool:=decide (0<=t/\t<=281474976710656)
def eu (s:bE) (g:Nat) (x:Sp):Bool:=bV x.v x.r (s.gs.getD g Gr.zero).weight&& (g !=0||decide (x.v=0/\x.r=0))
def rowOk (s:bE) (g:Nat):Bool:=decide (abn (s.sp.getD g [])=s.au)&&iw (abn (s.sp.getD g [])) λc=>eu s g (s.spot g c)
def jg (s:bE) (i:Nat):Bool:=(i==0||decide ((s.ts.getD (i-1) Tk.zero).id<(s.ts.getD i Tk.zero).id))&&dX s (s.ts.getD i Tk.zero)
def Ml (s:bE):Bool:=decide ((abn s.cl:Int)=s.au/\(abn s.cu:Int)=s.au/\abn s.sp=abn s.gs)
def nI (s:bE):Bool:=(fU s&&Ml s)&& (iw (abn s.cl) (λc=>iG (s.cl.getD c 0))&& (iw (abn s.sp) (rowOk s)&&iw (abn s.ts) (jg s)))
structure Mb where
 v:Nat
 k:Nat
 id:Nat
def Mb.lt (a b:Mb):Bool:=decide (a.v<b.v\/a.v=b.v/\(a.k<b.k\/a.k=b.k/\a.id<b.id))
def aM (b:Mb) (l:List Mb):Mb:=l.foldl (λb x=>if x.lt b then x else b) b
def bJ:Mb:=⟨18446744073709551615,18446744073709551615,18446744073709551615⟩
def Tk.here (t:Tk) (g c:Nat):Bool:=t.ready&& (decide (t.group=g)&&decide (t.cpu=c))
def vE (t:Tk) (g c:Nat):Option Mb:=if t.here g c then some ⟨t.v,0,t.id.toNat⟩ else none
def lD (s:bE) (c:Nat) (m:Nat->List Mb) (g h:Nat):Option Mb:=if s.par h=g/\m h≠[] then some ⟨(s.spot h c).v,1,h⟩ else none
def lF (s:bE) (c:Nat):Nat->Nat->List Mb
 |0,g=>s.ts.filterMap (vE · g c)
 |f+1,g=>s.ts.filterMap (vE · g c)++((acp (abn s.sp)).drop (g+1)).filterMap (lD s c (lF s c f) g)
def aR (s:bE) (g c:Nat):List Mb:=lF s c (abn s.sp-g) g
def kK (s:bE) (g c:Nat):Bool:=decide (aR s g c=[]\/(aM bJ (aR s g c)).v<=(s.spot g c).floor)
def gF (l:List Tk) (id:Int):Option Nat:=l.findIdx? λt=>t.id==id
def eB (s:bE) (c:Nat):Bool:=decide (s.cu.getD c 0=0)||match gF s.ts (s.cu.getD c 0) with
 |some i=>(s.ts.getD i Tk.zero).ready&&decide ((s.ts.getD i Tk.zero).cpu=c)
 |none=>false
def lT (s:bE):Bool:=nI s&&iw (abn s.cu) λc=>eB s c&&iw (abn s.sp) λg=>kK s g c
theorem q5d {s:bE} {c:Nat}:∀(n f a g:Nat),abn s.sp-g<=n->n<=f->n<=a->lF s c f g=lF s c a g:=by
 intro n
 induction n with
 | zero =>
  intro f a g b _ _
  have e:∀f,lF s c f g=s.ts.filterMap (vE · g c):=by
   intro f
   cases f with
   |zero=>rfl
   |succ f=>
    rw [lF,ab9 (by simp;omega)]
    simp
  rw [e f,e a]
 | succ n j =>
  intro f a g b l m
  obtain ⟨f,rfl⟩:∃k,f=k+1:=⟨f-1,by omega⟩
  obtain ⟨a,rfl⟩:∃k,a=k+1:=⟨a-1,by omega⟩
  rw [lF,lF]
  congr 1
  refine Qo λh d=>?_
  have o:g<h:=by
   obtain ⟨i,hi,rfl⟩:=aco d
   grind
  grind [lD]
theorem Mq (s:bE) (g c:Nat):aR s g c=s.ts.filterMap (vE · g c)++((acp (abn s.sp)).drop (g+1)).filterMap (lD s c (λh=>aR s h c) g):=by
 unfold aR
 rcases ab5 g (abn s.sp) with a|a
 ·obtain ⟨k,b⟩:∃k,abn s.sp-g=k+1:=⟨abn s.sp-g-1,by omega⟩
  rw [b,lF]
  congr 1
  refine Qo λh d=>?_
  have e:g<h:=by
   obtain ⟨i,hi,rfl⟩:=aco d
   grind
  unfold lD
  rw [q5d (abn s.sp-h) k (abn s.sp-h) h (abr _) (by omega) (abr _)]
 ·rw [show abn s.sp-g=0 by omega,lF,ab9 (by simp;omega)]
  simp
structure SI (P:Program) (t:TypeId) (n:Nat):Prop where
 row:(P.underlying t).map TypeDesc.isRow=some true
 size:(P.info? t).map (·.size)=some n
def SI.desc (b:SI P t n):∃d,P.underlying t=some d/\d.isRow=true:=by
 have h:=b.row
 cases hu:P.underlying t with
 |none=>rw [hu] at h;cases h
 |some d=>rw [hu] at h;exact ⟨d,rfl,by simpa using h⟩
section
variable {P:Program} {ops:Array Oper} {rest:List Oper} {op:Oper} {a:Act} {w:World} {Q:Exit->Act->World->Prop} {t:TypeId} {n:Nat} {F:Fence} {fn:Nat}
end
section
variable {P:Program} {ops:Array Oper} {rest:List Oper} {op:Oper} {a:Act} {w:World} {Q:Exit->Act->World->Prop} {t e:TypeId} {z:Value} {size bytes:Nat} {F:Fence} {fn:Nat} {xs:List Value}
def qmj (b:EI P t e z size bytes) {A:Option Addr} {n c j:Nat} {k:IntKind} (d:j<=n):
  (ady t (.slice A n c) (some (.int k (j:Int))) none none).run P w= .ok (.slice (if c=j then A else A.map (·.add (j*size))) (n-j) (c-j)) w:=by
 obtain ⟨i,hi,_,hs,_⟩:=info_parts b.hi
 simp [ady,run_underlying b.ht,agi,afc,afl,asIntOf,d,sizeOf,typeInfo,hi,hs]
def qmk (b:EI P t e z size bytes) {A:Option Addr} {n c j:Nat} {k:IntKind} (d:j<=c):
  (ady t (.slice A n c) none (some (.int k (j:Int))) none).run P w= .ok (.slice A j c) w:=by
 obtain ⟨i,hi,_,hs,_⟩:=info_parts b.hi
 have f:A.map (·.add 0)=A:=by cases A<;>simp [agr]
 simp [ady,run_underlying b.ht,agi,afc,afl,asIntOf,d,sizeOf,typeInfo,hi,f]
end
def qj {fr:Nat×Nat} (hb:w.heap[b]?=some (.cells C t fr)):w.rangeAt b 0 C.toList:=λj v c=>by
 unfold aea;rw [hb];simpa using c
def Vt (hb:w.heap[b]?=some (.cells C t (0,0))) (o n:Nat) (c:o+n<=C.size):w.there b o n:=λj d=>by
 refine ⟨?_,?_⟩
 ·unfold aea;rw [hb]
  simp [Array.getElem?_eq_getElem (by omega:o+j<C.size)]
 ·unfold World.frozen?;rw [hb];simp
def NY (b:Nat) (t:TypeId):∀(g:List Value) (w:World) (pre d:List Value) (cs:List Value),w.heap[b]?=some (.cells (pre++cs++d).toArray t (0,0))->abn cs=abn g->
  (w.setCells b (abn pre) g).heap[b]?=some (.cells (pre++g++d).toArray t (0,0))
 |[],w,pre,d,cs,h,i=>by
  have:cs=[]:=ach i
  subst this
  exact h
 | v :: g, w, pre, d, cs, h, i => by
  obtain ⟨c,f,rfl⟩:∃c f,cs=c::f:=by
   cases cs with
   |nil=>simp at i
   |cons c f=>exact ⟨c,f,rfl⟩
  have k:(w.setCell ⟨b,abn pre,none⟩ v).heap[b]?=some (.cells ((pre++[v])++f++d).toArray t (0,0)):=by
   simp [aft,aeH,h]
  have j:=NY b t g _ (pre++[v]) d f k (by simpa using i)
  rw [abp] at j
  simpa [World.setCells] using j
def qg2 (h:w.heap[b]?=some (.cells C t (0,0))) (vs:List Value) (c:C.size=abn vs):(w.setCells b 0 vs).heap[b]?=some (.cells vs.toArray t (0,0)):=by
 have:=NY b t vs w [] [] C.toList (by simpa using h) (by simpa using c)
 simpa using this
def KW (b:Nat):∀(c:List Value) (o:Nat) (w:World) (k:Nat),k≠b->(w.setCells b o c).heap[k]?=w.heap[k]?
 |[],_,_,_,_=>rfl
 |v::c,o,w,k,d=>by
  have:=KW b c (o+1) (w.setCell ⟨b,o,none⟩ v) k d
  exact this.trans (afZ _ _ _ _ d)
def NZ (b:Nat):∀(c:List Value) (o:Nat) (w:World),(w.setCells b o c).os=w.os/\(w.setCells b o c).tape=w.tape/\(w.setCells b o c).output=w.output/\(w.setCells b o c).heap.size=w.heap.size
 |[],_,_=>⟨rfl,rfl,rfl,rfl⟩
 |v::c,o,w=>by
  obtain ⟨d,f,g,h⟩:=NZ b c (o+1) (w.setCell ⟨b,o,none⟩ v)
  exact ⟨d.trans rfl,f.trans rfl,g.trans rfl,h.trans (by simp [aft])⟩
def below_setCells {a:World} (h:Below B a w) {b:Nat} (hb:B<=b) (o:Nat) (vs:List Value):Below B a (w.setCells b o vs):=by
 obtain ⟨c,d,f,g⟩:=NZ b vs o w
 refine ⟨c.trans h.os,d.trans h.tape,f.trans h.output,by rw [g];exact h.size,λk i=>?_⟩
 rw [KW b vs o w k (by omega)]
 exact h.block k i
@[simp] theorem size_setCells (w:World) (b o:Nat) (vs:List Value):(w.setCells b o vs).heap.size=w.heap.size:=(NZ b vs o w).2.2.2
def qik (t:TypeId) (w:World):∀(f pre b cs:List Value),abn cs=abn f->(w.alloc (.cells (pre++cs++b).toArray t)).setCells w.heap.size (abn pre) f=w.alloc (.cells (pre++f++b).toArray t)
 |[],pre,b,cs,g=>by
  have:cs=[]:=ach g
  subst this;rfl
 | v :: f, pre, b, cs, g => by
  obtain ⟨c,d,rfl⟩:∃c d,cs=c::d:=by
   cases cs with
   |nil=>simp at g
   |cons c d=>exact ⟨c,d,rfl⟩
  have i:(w.alloc (.cells (pre++(c::d)++b).toArray t)).setCell ⟨w.heap.size,abn pre,none⟩ v=w.alloc (.cells ((pre++[v])++d++b).toArray t):=by
   rw [World.setCell_alloc_new];simp
  have h:=qik t w f (pre++[v]) b d (by simpa using g)
  rw [abp] at h
  show ((w.alloc _).setCell ⟨w.heap.size,abn pre,none⟩ v).setCells w.heap.size (abn pre+1) f=_
  rw [i]
  simpa using h
section
variable {P:Program} {ops:Array Oper} {rest:List Oper} {op:Oper} {a:Act} {w:World} {Q:Exit->Act->World->Prop} {t tt:TypeId} {n:Nat} {F:Fence} {fn:Nat} {C cs:Array Value} {x y:Operand}
end
def Dx {α:Type} (f:α->List Value) (sz:Nat) (b:∀x,abn (f x)=sz):∀(l:List α) (k j:Nat) (c:k<abn l),j<sz->(l.flatMap f)[k*sz+j]?=(f l[k])[j]?
 |[],k,_,c,_=>by simp at c
 |x::l,0,j,_,d=>by
  rw [abK,Nat.zero_mul,ab7,List.getElem?_append_left (by rw [b];exact d)];rfl
 |x::l,k+1,j,c,d=>by
  rw [abK,List.getElem?_append_right (by rw [b,adD];omega),b]
  have:=Dx f sz b l k j (by simpa using c) d
  rw [show (k+1)*sz+j-sz=k*sz+j by rw [adD];omega,this]
  rfl
def qQ {α:Type} (f:α->List Value) (sz:Nat) (b:∀x,abn (f x)=sz) (l:List α):abn (l.flatMap f)=abn l*sz:=by
 induction l with
 |nil=>simp
 |cons x l c=>rw [abK,abp,b,c,abT,adD];omega
def q2p {a:Addr} {v:Value} (h:w.cell? a=some v):a.spot=none:=by
 unfold aea at h
 split at h
 ·split at h
  ·cases h
  ·rename_i hs;simpa using hs
 ·cases h
section
open Go.Shelf
attribute [local go_sem] Oper.semAt_some
def iL:Nat->Nat->List (Nat×Bool)
 |0,_=>[]
 |f+1,x=>if x<128 then [(x,false)] else (x%128,true)::iL f (x/128)
theorem Dv (f y:Nat) (h:y<128):iL (f+1) y=[(y,false)]:=by rw [iL,if_pos h]
theorem Dw (f y:Nat) (h:128<=y):iL (f+1) y=(y%128,true)::iL f (y/128):=by rw [iL,if_neg (by omega)]
def zk2 (y:Nat) (h:y<18446744073709551616):bits .and .u64 (y:Int) 127=((y%128:Nat):Int):=by
 have:bits .and .u64 (y:Int) 127=_:=u64_and_nat y 127 h (by omega)
 rw [this,nat_mask7]
def zk3 (y:Nat) (h:y<256):((y:Nat):Int)%256=(y:Int):=by omega
def bH (p:Nat×Bool):Nat:=if p.2 then p.1+128 else p.1
def ak (x:Nat):List Nat:=(iL 10 x).map bH
def Vm:∀(f x:Nat),∀p∈iL f x,p.1<128
 |0,_,p,h=>by simp [iL] at h
 | f + 1, x, p, h => by
  by_cases a:x<128
  ·rw [Dv f x a] at h;simp at h;subst h;exact a
  ·rw [Dw f x (by omega)] at h
   simp at h
   rcases h with rfl|h
   ·show x%128<128;omega
   ·exact Vm f _ p h
theorem Vr:∀(f x:Nat),abn (iL f x)<=f
 |0,_=>by simp [iL]
 |f+1,x=>by
  by_cases a:x<128
  ·rw [Dv f x a];simp
  ·rw [Dw f x (by omega)];simp;exact Vr f _
def EL (y:Nat) (h:y<128):bits .or .u8 (y:Int) 128=((y+128:Nat):Int):=by
 have:bits .or .u8 (y:Int) 128=_:=u8_or_nat y 128 (by omega) (by omega)
 rw [this,ahj,nat_join 7 128 y (by decide) (by omega)];omega
theorem Bj (x:Nat):abn (ak x)<=10:=by unfold ak;rw [abx];exact Vr 10 x
theorem zq (a:List Nat):abn (a.flatMap ak)<=10*abn a:=by
 induction a with
 |nil=>simp
 |cons x r b=>have:=Bj x;simp only [abK,abp,abT];omega
end
def oQ (l:List Nat) (i:Nat):Nat×Nat:=
 if abn l<=i then (0,10) else if i=9/\1<l.getD i 0 then (0,11) else if 0<i/\l.getD i 0=0 then (0,12) else (l.getD i 0,0)
def Oc {x:Nat} (h:l[i]?=some x):oQ l i=if i=9/\1<x then (0,11) else if 0<i/\x=0 then (0,12) else (x,0):=by
 have hi:i<abn l:=(abB.1 h).1
 unfold oQ;rw [if_neg (by omega),abt,h];rfl
set_option maxHeartbeats 400000 in
theorem q21 (A:Option Addr) (n c i B j:Nat) (l:List Nat) (w:World) (hr:Rd w B 1 A n (l.map B8)) (hb:w.cell? ⟨j,0,none⟩=some (.slice A n c)) (k:∀b∈l,b<256) (v:n<=200000000000000) (hi:i<=200000000000000):
  Calls Tryz.prog 111 #[.int .i64 (i:Int),.pointer (some ⟨j,0,none⟩)] w λe o=>e= .returned (.tuple #[.int .u8 ((oQ l i).1:Int),.int .i64 ((oQ l i).2:Int)])/\o=w:=by
 have d:l.length=n:=by simpa using hr.len
 by_cases f:i<n
 ·obtain ⟨m,rfl,p,g,a⟩:=hr.at f
  have q:=k _ (List.getElem_mem (by omega:i<l.length))
  have h:l[i]?=some l[i]:=List.getElem?_eq_getElem (by omega:i<l.length)
  simp only [List.getElem_map] at a
  generalize l[i]=x at a q h
  unfold B8 at a
  clear hr k d g
  by_cases r:i=9
  ·subst r
   have s:w.cell? ⟨m.block,m.off+9,none⟩=some (.int .u8 (x:Int)):=a
   go_enter Tryz.func111,Tryz.ntmps111
   go_wp2
   all_goals
    go_ret2
    refine ⟨?_,rfl⟩
    try simp only [beq_iff_eq,beq_eq_false_iff_ne,ne_eq] at*
    rw [Oc h]
    first|(rw [if_pos (by omega)];rfl)|(rw [if_neg (by omega),if_pos (by omega)];rfl)|(rw [if_neg (by omega),if_neg (by omega)];rfl)
  ·go_enter Tryz.func111,Tryz.ntmps111
   go_wp2
   all_goals
    go_ret2
    refine ⟨?_,rfl⟩
    try simp only [beq_iff_eq,beq_eq_false_iff_ne,ne_eq] at*
    rw [Oc h]
    first|(rw [if_pos (by omega)];rfl)|(rw [if_neg (by omega),if_pos (by omega)];rfl)|(rw [if_neg (by omega),if_neg (by omega)];rfl)
 ·have t:(n:Int)<=(i:Int):=by omega
  have u:=hide (show oQ l i=(0,10) by unfold oQ;rw [if_pos (by omega)])
  go_enter Tryz.func111,Tryz.ntmps111
  go_wp2
  go_ret2
  exact ⟨by rw [u.out];rfl,rfl⟩
def nk:Nat->Nat->List Nat->Nat×Nat×Nat
 |_,_,[]=>(0,0,10)
 |i,a,b::r=>
  if i=9/\1<b then (0,0,11) else if 0<i/\b=0 then (0,0,12) else
  if b<128 then (a+b*128^i,i+1,0) else nk (i+1) (a+(b-128)*128^i) r
def aD (l:List Nat):Nat×Nat×Nat:=nk 0 0 l
def zgq (n:Nat) (l:List Nat) (x i:Value):Prop:=
 ∃k a:Nat,k<=n/\k<10/\a<128^k/\x= .int .u64 (a:Int)/\i= .int .i64 (k:Int)/\aD l=nk k a (l.drop k)
def q9x (y:Nat) (h:y<256):bits .and .u8 (y:Int) 127=((y%128:Nat):Int):=by
 have:bits .and .u8 (y:Int) 127=_:=u8_and_nat y 127 h (by omega)
 rw [this,nat_mask7]
def q22 (k:Nat):(128:Nat)^k=2^ (7*k):=by rw [Nat.pow_mul]
def VO (k:Nat) (hk:k<=9):(128:Nat)^k<=9223372036854775808:=Nat.le_trans (adk (by omega) hk) (by decide)
def zgr (a y k:Nat) (b:a<128^k) (hk:k<10) (hy:y<256) (c:k=9->y<=1):
  bits .or .u64 (a:Int) (IntKind.u64.wrap (IntKind.u64.wrap (bits .and .u8 (y:Int) 127)*2^ (7*k)))=((a+y%128*128^k:Nat):Int):=by
 have hz:y%128*128^k<18446744073709551616:=by
  by_cases h:k=9
  ·have:=c h;subst h
   have:y%128*128^9<=1*128^9:=acn _ (by omega)
   omega
  ·have d:=adk (show 0<128 by omega) (show k<=8 by omega)
   have:y%128*128^k<=127*128^8:=Nat.mul_le_mul (by omega) d
   omega
 have e:a<18446744073709551616:=by have:=VO k (by omega);omega
 have e1:IntKind.u64.wrap ((y%128:Nat):Int)=((y%128:Nat):Int):=by rw [adS];omega
 have e2:((y%128:Nat):Int)*2^ (7*k)=((y%128*128^k:Nat):Int):=by rw [q22];simp
 rw [q9x y hy,e1,e2]
 have e3:IntKind.u64.wrap ((y%128*128^k:Nat):Int)=((y%128*128^k:Nat):Int):=by rw [adS];omega
 rw [e3,u64_or_nat a _ e hz,ahj,nat_join (7*k) _ a (by rw [q22];exact Nat.mul_mod_left _ _) (by rw [<-q22];exact b)]
 omega
def VP (a y k:Nat) (b:a<128^k):a+y%128*128^k<128^ (k+1):=by
 have c:y%128*128^k<=127*128^k:=acn _ (by omega)
 rw [agG];omega
def zk6 (a:∀b∈l,b<256) (k:Nat):(oQ l k).1<256:=by
 unfold oQ
 by_cases h:abn l<=k
 ·rw [if_pos h];show 0<256;omega
 ·rw [if_neg h]
  have:=a _ (ac5 (by omega:k<abn l))
  have e:l.getD k 0=l[k]:=by rw [abt,abq (by omega:k<abn l)];rfl
  rw [e]
  split
  ·show 0<256;omega
  ·split
   ·show 0<256;omega
   ·exact this
def q9y (l:List Nat) (k a:Nat):
  ((oQ l k).2≠0->nk k a (l.drop k)=(0,0,(oQ l k).2))/\
  ((oQ l k).2=0->k<abn l/\(k=9->(oQ l k).1<=1)/\nk k a (l.drop k)=if (oQ l k).1<128 then (a+(oQ l k).1*128^k,k+1,0) else nk (k+1) (a+((oQ l k).1-128)*128^k) (l.drop (k+1))):=by
 by_cases h:k<abn l
 ·have d:l[k]?=some l[k]:=abq h
  rw [Oc d,ace h]
  generalize l[k]=x
  rw [nk]
  by_cases b:k=9/\1<x
  ·rw [if_pos b,if_pos b];simp
  ·rw [if_neg b,if_neg b]
   by_cases c:0<k/\x=0
   ·rw [if_pos c,if_pos c];simp
   ·rw [if_neg c,if_neg c]
    refine ⟨λh=>absurd rfl h,λ_=>⟨h,λf=>?_,rfl⟩⟩
    show x<=1
    omega
 ·have e:oQ l k=(0,10):=by unfold oQ;rw [if_pos (by omega)]
  rw [e,List.drop_eq_nil_of_le (by omega)]
  exact ⟨λ_=>rfl,λh=>by simp at h⟩
set_option maxRecDepth 100000 in
set_option maxHeartbeats 400000 in
theorem K3 (A:Option Addr) (n c:Nat) (l:List Nat) (w:World) (hr:Rd w w.heap.size 1 A n (l.map B8)) (x:∀b∈l,b<256) (F:n<=200000000000000):
  Calls Tryz.prog 52 #[.slice A n c] w λe r=>e= .returned (.tuple #[.int .u64 ((aD l).1:Int),.int .i64 ((aD l).2.1:Int),.int .i64 ((aD l).2.2:Int)])/\Below w.heap.size w r:=by
 have z:l.length=n:=by simpa using hr.len
 go_enter Tryz.func52,Tryz.ntmps52
 go_wp2
 have j:(w.alloc (.cells #[.slice A n c] 30)).cell? ⟨w.heap.size,0,none⟩=some (.slice A n c):=by simp
 have t:=hr.alloc (Nat.le_refl _) (.cells #[.slice A n c] 30)
 go_loop [5,7] (zgq n l) (λ_ i=>10- (intOf i).toNat)
 case atStart=>exact ⟨0,0,by omega,by omega,by omega,rfl,rfl,rfl⟩
 case round=>
  obtain ⟨k,g,J,m,h,rfl,rfl,B⟩:=hrel
  have f:=q9y l k g
  rw [<-B] at f
  have u:=zk6 x k
  have C:=q21 A n c k w.heap.size w.heap.size l _ t j x F (by omega)
  have o:=hide C
  clear C B
  generalize oQ l k=p at f u o
  obtain ⟨y,e⟩:=p
  obtain ⟨a,d⟩:=f
  simp only at a d u o
  by_cases D:e=0
  ·subst D
   obtain ⟨G,H,f⟩:=d rfl
   have s:=hide f
   have E:=hide (zgr g y k h m u H)
   have v:=VP g y k h
   clear f a d
   by_cases q:y<128
   ·go_wp2_with (go_at_call 111;refine (o.out).mono ?_;rintro e r ⟨rfl,rfl⟩)
    go_ret3
    refine ⟨?_,(Below.refl _ _).alloc (Nat.le_refl _) _⟩
    rw [s.out,if_pos q]
    have e1:y%128=y:=by omega
    have:=E.out
    rw [e1] at this
    simp [this]
   ·go_wp2_with (go_at_call 111;refine (o.out).mono ?_;rintro e r ⟨rfl,rfl⟩)
    have e1:y%128=y-128:=by omega
    refine ⟨⟨k+1,g+y%128*128^k,by omega,by omega,v,by rw [E.out],by go_num,?_⟩,by simp [intOf];omega⟩
    rw [s.out,if_neg q,e1]
  ·have s:=hide (a D)
   have I:((e:Int) !=0)=true:=by rw [bne_iff_ne];omega
   clear a d
   go_wp2_with (go_at_call 111;refine (o.out).mono ?_;rintro e r ⟨rfl,rfl⟩)
   go_ret3
   exact ⟨by rw [s.out];rfl,(Below.refl _ _).alloc (Nat.le_refl _) _⟩
def Ev.zero:Ev:=⟨0,0,0,0,0,0,0,0,0,0,0⟩
def Ev.base (e:Ev):Ev:={Ev.zero with seq:=e.seq,time:=e.time,cpu:=e.cpu,kind:=e.kind}
def Ev.sH (e:Ev) (i:Nat) (v:Int) (m:Nat):Ev:=
 match i with
 |0=>{e with task:=v}
 |1=>{e with group:=v}
 |2=>{e with to:=v}
 |3=>{e with weight:=v}
 |4=>{e with ticks:=v}
 |5=>{e with mask:=m}
 |_=>{e with got:=v}
def Ev.put (e:Ev) (i x:Nat):Ev:=e.sH i (wrap64 (x:Int)) x
def Ev.fill (e:Ev) (l:List (Nat×Nat)):Ev:=l.foldl (λe p=>e.put p.1 p.2) e
def Ev.made (e:Ev) (vs:List Nat):Ev:=e.base.fill ((aB e.kind).zip vs)
def Ev.cK (e:Ev) (vs:List Nat):Nat:=
 if e.kind=0\/10<e.kind then 60 else if abn vs≠abn (aB e.kind) then 2 else if (e.made vs).check≠0 then 61 else 0
def Ev.dQ (e:Ev) (vs:List Nat):Ev:=if e.cK vs=0 then e.made vs else Ev.zero
def q2w (e:Ev) (i x:Nat) (hi:i<7):e.cells.setIfInBounds (4+i) (aao i x)=(e.put i x).cells:=by
 obtain rfl|rfl|rfl|rfl|rfl|rfl|rfl:i=0\/i=1\/i=2\/i=3\/i=4\/i=6\/i=5:=by omega
 all_goals simp [Ev.cells,Ev.put,Ev.sH,aao,Array.setIfInBounds]
def qc4 (x:Int):aW (wrap64 x):=by unfold aW;rw [<-af0,af2];omega
def zk5 (h:e.Ok) (i x:Nat) (a:x<18446744073709551616):(e.put i x).Ok:=by
 unfold Ev.put Ev.sH
 split
 ·exact {h with task:=qc4 _}
 ·exact {h with group:=qc4 _}
 ·exact {h with to:=qc4 _}
 ·exact {h with weight:=qc4 _}
 ·exact {h with ticks:=qc4 _}
 ·exact {h with mask:=a}
 ·exact {h with got:=qc4 _}
theorem zy:aW 0:=⟨by omega,by omega⟩
def VG (h:e.Ok):e.base.Ok:=⟨h.seq,h.time,h.cpu,h.kind,zy,zy,zy,zy,zy,by show 0<18446744073709551616;omega,zy⟩
def Oa {e:Ev} (h:e.Ok):∀(l:List (Nat×Nat)),(∀p∈l,p.2<18446744073709551616)->(e.fill l).Ok
 |[],_=>h
 |p::l,a=>Oa (zk5 h p.1 p.2 (a p (by simp))) l (λq b=>a q (by simp [b]))
structure mO (w:World) (e:Ev) (err:Nat) (r:Ending) (w':World):Prop where
 ret:r= .returned (.tuple #[.agg e.cells,.int .i64 (err:Int)])
 below:Below w.heap.size w w'
def VJ (e:Ev) (l:List (Nat×Nat)) (p:Nat×Nat):e.fill (l++[p])=(e.fill l).put p.1 p.2:=by unfold Ev.fill;rw [List.foldl_append];rfl
def qtl (k:Nat):k=1\/k=2\/k=3\/k=4\/k=5\/k=6\/k=7\/k=8\/k=9\/k=10\/(aB k=[]/\(k=0\/10<k)):=by
 by_cases h:k=0\/10<k
 ·have:aB k=[]:=by unfold aB;split<;>first|rfl|omega
  simp [this,h]
 ·omega
def VL (e:Ev) (vs:List Nat):(e.made vs).kind=e.kind/\(e.made vs).seq=e.seq/\(e.made vs).time=e.time/\(e.made vs).cpu=e.cpu:=by
 have:∀(l:List (Nat×Nat)) (o:Ev),(o.fill l).kind=o.kind/\(o.fill l).seq=o.seq/\(o.fill l).time=o.time/\(o.fill l).cpu=o.cpu:=by
  intro l
  induction l with
  |nil=>intro o;exact ⟨rfl,rfl,rfl,rfl⟩
  |cons p l b=>
   intro o
   have h:=b (o.put p.1 p.2)
   have a:(o.put p.1 p.2).kind=o.kind/\(o.put p.1 p.2).seq=o.seq/\(o.put p.1 p.2).time=o.time/\(o.put p.1 p.2).cpu=o.cpu:=by unfold Ev.put Ev.sH;split<;>exact ⟨rfl,rfl,rfl,rfl⟩
   rw [a.1,a.2.1,a.2.2.1,a.2.2.2] at h
   exact h
 exact this _ _
theorem q2y (o:Ev) (i:Nat) (v:Int) (m:Nat) (a:i≠5) (hi:i<7):(o.sH i v m).gT i=v:=by
 obtain rfl|rfl|rfl|rfl|rfl|rfl:i=0\/i=1\/i=2\/i=3\/i=4\/i=6:=by omega
 all_goals rfl
theorem qzn (o:Ev) (i j:Nat) (v:Int) (m:Nat) (hi:i<7) (a:j<7) (h:j≠i):(o.sH i v m).gT j=o.gT j:=by
 obtain rfl|rfl|rfl|rfl|rfl|rfl|rfl:i=0\/i=1\/i=2\/i=3\/i=4\/i=5\/i=6:=by omega
 all_goals
  obtain rfl|rfl|rfl|rfl|rfl|rfl|rfl:j=0\/j=1\/j=2\/j=3\/j=4\/j=5\/j=6:=by omega
  all_goals first|rfl|(exact absurd rfl h)
def q9w (o:Ev) (i x:Nat) (a:i≠5) (hi:i<7):(o.put i x).gT i=wrap64 (x:Int):=by
 unfold Ev.put;exact q2y o i _ x a hi
def q2z (o:Ev) (i j x:Nat) (hi:i<7) (a:j<7) (h:j≠i):(o.put i x).gT j=o.gT j:=by
 unfold Ev.put;exact qzn o i j _ x hi a h
def KZ (j:Nat) (a:j<7):∀(l:List (Nat×Nat)) (o:Ev),(∀p∈l,p.1<7/\p.1≠j)->(o.fill l).gT j=o.gT j
 |[],_,_=>rfl
 |p::l,o,h=>by
  have b:=h p (by simp)
  have c:=KZ j a l (o.put p.1 p.2) (λq d=>h q (by simp [d]))
  exact c.trans (q2z o p.1 j p.2 b.1 a (λe=>b.2 e.symm))
def Ob (i x:Nat) (d:i≠5):∀(l:List (Nat×Nat)) (o:Ev),(∀p∈l,p.1<7)->(l.map (·.1)).Nodup->(i,x)∈l->(o.fill l).gT i=wrap64 (x:Int)
 |[],_,_,_,h=>by simp at h
 | p :: l, o, b, c, h => by
  rw [acu,afi] at c
  rcases abS.1 h with rfl|h
  ·have hi:i<7:=b (i,x) (by simp)
   have f:=KZ i hi l (o.put i x) (λq a=>⟨b q (by simp [a]),λe=>c.1 (by rw [<-e];exact ab0.2 ⟨q,a,rfl⟩)⟩)
   exact f.trans (q9w o i x d hi)
  ·exact Ob i x d l (o.put p.1 p.2) (λq a=>b q (by simp [a])) c.2 h
def VN (k:Nat):(aB k).Nodup:=by
 unfold aB;split<;>decide
def Bn (e:Ev) (vs:List Nat) (j:abn vs=abn (aB e.kind)) (h:(((aB e.kind).zip vs).all λp=>Ev.fits p.1 p.2)=false):(e.made vs).check≠0:=by
 intro hc
 have a:=(qc5 hc).2.1
 rw [(VL e vs).1,ab3] at a
 rw [List.all_eq_false] at h
 obtain ⟨⟨i,x⟩,hm,b⟩:=h
 have hi:=(aew hm).1
 have d:=KY (a i hi)
 have c:i≠5:=by rintro rfl;simp [Ev.fits] at b
 have f:(e.made vs).gT i=wrap64 (x:Int):=by
  refine Ob i x c _ _ (λp g=>Bl _ _ (aew g).1) ?_ hm
  rw [ags (by omega)]
  exact VN _
 rw [f] at d
 simp [Ev.fits,c] at b
 omega
structure Bs where
 seq:Int
 time:Int
structure Bs.Ok (b:Bs):Prop where
 seq:aW b.seq
 time:aW b.time
def Bs.cells (b:Bs):Array Value:= #[.int .i64 b.seq,.int .i64 b.time]
def Bs.right (b:Bs):Bool:=decide (1<=b.seq/\b.seq<=281474976710656/\0<=b.time/\b.time<=281474976710656)
def Bs.behind (b:Bs) (e:Ev):Bool:=decide (b.seq<=e.seq/\b.time<=e.time)
def Ev.at (e:Ev):Bs:=⟨e.seq,e.time⟩
def sI (b:Bs) (e:Ev):Nat:=if e.check≠0 then e.check else if b.right=true/\b.behind e=true then 0 else 70
def xY (b:Bs) (e:Ev):List Nat:=(e.seq-b.seq).toNat::(e.time-b.time).toNat::e.vals
def zh (b:Bs) (e:Ev):List Nat:=e.kind::(xY b e).flatMap ak
def wZ (b:Bs) (e:Ev):List Nat:=if sI b e=0 then zh b e else []
def aV:Nat->List Nat->List Nat×Nat×Nat
 |0,_=>([],0,0)
 |k+1,l=>
  if (aD l).2.2≠0 then ([],0,(aD l).2.2)
  else if (aV k (l.drop (aD l).2.1)).2.2≠0 then ([],0,(aV k (l.drop (aD l).2.1)).2.2)
  else ((aD l).1::(aV k (l.drop (aD l).2.1)).1,(aD l).2.1+(aV k (l.drop (aD l).2.1)).2.1,0)
def Bs.ev (b:Bs) (cpu kind a c:Nat):Ev:={Ev.zero with seq:=b.seq+(a:Int),time:=b.time+(c:Int),cpu:=cpu,kind:=kind}
def sJ (b:Bs) (cpu kind:Nat) (q:List Nat×Nat×Nat):Ev×Nat×Nat:=
 if q.2.2≠0 then (Ev.zero,0,q.2.2)
 else if 281474976710656-b.seq<(q.1.getD 0 0:Nat)\/281474976710656-b.time<(q.1.getD 1 0:Nat) then (Ev.zero,0,61)
 else if (b.ev cpu kind (q.1.getD 0 0) (q.1.getD 1 0)).cK (q.1.drop 2)≠0 then (Ev.zero,0,61)
 else ((b.ev cpu kind (q.1.getD 0 0) (q.1.getD 1 0)).made (q.1.drop 2),1+q.2.1,0)
def bq (b:Bs) (cpu:Nat) (l:List Nat):Ev×Nat×Nat:=
 if b.right=false then (Ev.zero,0,70)
 else if l=[] then (Ev.zero,0,10)
 else if abn (aB (l.getD 0 0))=0 then (Ev.zero,0,60)
 else sJ b cpu (l.getD 0 0) (aV (2+abn (aB (l.getD 0 0))) (l.drop 1))
def Ev.after (e q:Ev):Bool:=decide (e.cpu=q.cpu/\q.seq<e.seq/\q.time<=e.time)
def iD:Option Ev->Nat->List Ev->Int×Nat
 |_,_,[]=>(-1,0)
 |p,i,e::r=>
  if e.check≠0 then ((i:Int),e.check)
  else if p.all (λq=>e.after q)=false then ((i:Int),71)
  else iD (some e) (i+1) r
def iU (l:List Ev):Int×Nat:=iD none 0 l
def recs:Bs->List Ev->List Nat
 |_,[]=>[]
 |b,e::r=>zh b e++recs e.at r
def rJ (b:Bs) (l:List Ev):Nat:=
 if (iU l).2≠0 then (iU l).2 else if b.right=true/\l.head?.all b.behind=true then 0 else 70
def uH (b:Bs) (l:List Ev):List Nat:=if rJ b l=0 then recs b l else []
def qy (cpu:Nat):Nat->Bs->Option Ev->List Nat->List Ev×Nat×Nat
 |0,_,_,_=>([],0,0)
 |n+1,b,p,l=>
  if (bq b cpu l).2.2≠0 then ([],0,(bq b cpu l).2.2)
  else if p.any (λq=>decide ((bq b cpu l).1.seq=q.seq))=true then ([],0,71)
  else if (qy cpu n (bq b cpu l).1.at (some (bq b cpu l).1) (l.drop (bq b cpu l).2.1)).2.2≠0 then ([],0,(qy cpu n (bq b cpu l).1.at (some (bq b cpu l).1) (l.drop (bq b cpu l).2.1)).2.2)
  else ((bq b cpu l).1::(qy cpu n (bq b cpu l).1.at (some (bq b cpu l).1) (l.drop (bq b cpu l).2.1)).1,(bq b cpu l).2.1+(qy cpu n (bq b cpu l).1.at (some (bq b cpu l).1) (l.drop (bq b cpu l).2.1)).2.1,0)
def gL (b:Bs) (cpu:Nat) (n:Int) (l:List Nat):List Ev×Nat×Nat:=
 if n<0 then ([],0,2) else if b.right=false then ([],0,70) else qy cpu n.toNat b none l
theorem VQ:∀(l:List Nat) (i a:Nat),(nk i a l).2.1<=i+abn l/\((nk i a l).2.2=0->i<(nk i a l).2.1):=by intro x;induction x<;>grind [nk]
theorem xg (l:List Nat):(aD l).2.1<=abn l:=by have:=(VQ l 0 0).1;unfold aD;omega
theorem VR (l:List Nat) (h:(aD l).2.2=0):0<(aD l).2.1:=(VQ l 0 0).2 h
def VT:∀(l:List Nat) (i a:Nat),(∀b∈l,b<256)->a<128^i->i<=9->(nk i a l).1<18446744073709551616
 |[],i,a,_,_,_=>by simp [nk]
 | b :: r, i, a, c, d, hi => by
  have g:=c b (by simp)
  have j:=VO i hi
  rw [nk]
  split
  ·show 0<_;omega
  ·rename_i k
   split
   ·show 0<_;omega
   ·split
    ·show a+b*128^i<_
     rcases ab5 i 9 with h|h
     ·have m:(128:Nat)^i<=128^8:=adk (by omega) (by omega)
      have n:(128:Nat)^8=72057594037927936:=by decide
      have e:b*128^i<=127*128^i:=acn _ (by omega)
      omega
     ·have e:b*128^i<=1*128^i:=acn _ (by omega)
      omega
    ·rcases ab5 i 9 with h|h
     ·refine VT r (i+1) _ (λx f=>c x (by simp [f])) ?_ (by omega)
      have:=VP a (b-128) i d
      rwa [show (b-128)%128=b-128 by omega] at this
     ·omega
theorem qc6 (l:List Nat) (a:∀b∈l,b<256):(aD l).1<18446744073709551616:=VT l 0 0 a (by omega) (by omega)
def jM (l:List Nat):ByteArray:=⟨(l.map λb=>ae7 b).toArray⟩
def q9s {P:Program} {ts te:TypeId} (hs:P.underlying t=some (.slice te)) (k:P.underlying te=some (.int .u8)) (m:P.underlying ts=some .string) {w:World} {B:Nat} {A:Option Addr} {n c:Nat} {l:List Nat} (hr:Rd w B 1 A n (l.map B8)):
  (convert t ts (.slice A n c)).run P w= .ok (.string (jM l)) w:=by
 have f:abn l=n:=by simpa using hr.len
 cases A with
 | none =>
  have r:n=0:=by
   rcases acr n with h|h
   ·exact h
   ·obtain ⟨p,g,_⟩:=hr.row h;cases g
  have i:l=[]:=ach (by omega)
  subst i
  rw [run_convert_bytes_nil w t te hs k n c ts m]
  rfl
 | some a =>
  have d:∀j u,(l.map B8)[j]?=some u->w.cell? (a.add j)=some u:=by
   intro j u o
   rcases acr n with h|h
   ·have:l=[]:=ach (by omega)
    subst this;simp at o
   ·obtain ⟨p,g,_,q⟩:=hr.row h
    injection g with g;subst g
    exact q j u o
  have i:=run_loadCells_list (P:=P) w a (l.map B8) d
  have e:l.map B8=(l.map (λb:Nat=>(b:Int))).map (abO .u8):=by rw [afm];rfl
  rw [abx,f,e] at i
  rw [run_convert_bytes_string w t ts te _ n c hs k m,run_bytesToString w a n c _ i,foldl_push_bytes]
  simp [jM,ByteArray.empty,ByteArray.emptyWithCapacity]
  rfl
def zgl {n c:Nat} (hr:Rd w B 1 A n (l.map B8)):(convert 30 9 (.slice A n c)).run abo w= .ok (.string (jM l)) w:=
 q9s (te:=5) (by kernel_rfl) (by kernel_rfl) (by kernel_rfl) hr
def q9t {m:List Nat} (a:∀b∈l,b<256) (hm:∀b∈m,b<256) (h:jM l=jM m):l=m:=by
 unfold jM at h
 injection h with h
 have d:(l.map λb=>ae7 b)=(m.map λb=>ae7 b):=by simpa using h
 have c:=congrArg (List.map λx:UInt8=>x.toNat) d
 rw [afm,afm] at c
 have e:∀l:List Nat,(∀b∈l,b<256)->l.map ((λx:UInt8=>x.toNat)∘λb=>ae7 b)=l:=λl a=>by
  conv=>rhs;rw [<-List.map_id l]
  exact List.map_congr_left (λb f=>by have:=a b f;simp;omega)
 rwa [e l a,e m hm] at c
section
def BD:Nat:=3988292384
def mH (c:Nat):Nat:=if c%2=1 then (c/2)^^^BD else c/2
def sQ:List Nat:=[0,498536548,997073096,651767980,1994146192,1802195444,1303535960,1342533948,3988292384,4027552580,3604390888,3412177804,2607071920,2262029012,2685067896,3183342108]
def qW (c:Nat):Nat:=(c/16)^^^ (sQ.getD (c%16) 0)
def DR (c x:Nat):Nat:=qW (qW (c^^^x))
def zi (c:Nat) (l:List Nat):Nat:=l.foldl DR c
def zu (l:List Nat):Nat:=4294967295-zi 4294967295 l
def yj (y:Nat):Nat:=mH (mH (mH (mH (mH (mH (mH (mH y)))))))
def q95 (a b:Nat):(a^^^b)/2=a/2^^^b/2:=by
 have:=Nat.shiftRight_xor_distrib (a:=a) (b:=b) (i:=1)
 simpa [Nat.shiftRight_eq_div_pow] using this
def q96 (a b:Nat):(a^^^b)%2=(a+b)%2:=by
 have h:(a^^^b).testBit 0=((a.testBit 0)^^ (b.testBit 0)):=afn ..
 rw [afd,afd,afd] at h
 rcases adE a with c|c<;>rcases adE b with d|d
 ·rw [c,d] at h
  have:¬(a^^^b)%2=1:=of_decide_eq_false h
  omega
 ·rw [c,d] at h
  have:(a^^^b)%2=1:=of_decide_eq_true h
  omega
 ·rw [c,d] at h
  have:(a^^^b)%2=1:=of_decide_eq_true h
  omega
 ·rw [c,d] at h
  have:¬(a^^^b)%2=1:=of_decide_eq_false h
  omega
def qtq (a b:Nat):mH (a^^^b)=mH a^^^mH b:=by
 unfold mH
 have hm:=q96 a b
 rw [q95]
 rcases adE a with c|c<;>rcases adE b with d|d
 ·rw [if_neg (by omega),if_neg (by omega),if_neg (by omega)]
 ·rw [if_pos (by omega),if_neg (by omega),if_pos (by omega),aei]
 ·rw [if_pos (by omega),if_pos (by omega),if_neg (by omega),aei,aei,ahd BD]
 ·rw [if_neg (by omega),if_pos (by omega),if_pos (by omega)]
  rw [aei,ahd BD,aei,Nat.xor_self,Nat.xor_zero]
def Lp (h:Nat):mH (2*h)=h:=by unfold mH;rw [if_neg (by omega)];omega
def q3l (k c:Nat):c=(2^k*(c/2^k))^^^ (c%2^k):=by
 apply af4
 intro i
 rw [afn,Nat.testBit_mod_two_pow,Nat.testBit_two_pow_mul,Nat.testBit_div_two_pow]
 by_cases h:i<k
 ·simp [h,Nat.not_le.2 h]
 ·simp [h,Nat.le_of_not_lt h]
theorem WJ (c:Nat):qW c=mH (mH (mH (mH c))):=by
 have h:=q3l 4 c
 conv=>rhs;rw [h]
 simp only [qtq]
 rw [show 2^4*(c/2^4)=2*(2*(2*(2*(c/16)))) by omega,Lp,Lp,Lp,Lp]
 unfold qW
 congr 1
 have a:c%2^4<16:=Nat.mod_lt _ (by decide)
 show sQ.getD (c%2^4) 0=_
 generalize c%2^4=y at a
 have:∀y,y<16->sQ.getD y 0=mH (mH (mH (mH y))):=by decide
 exact this y a
def qtr (c x:Nat):DR c x=yj (c^^^x):=by unfold DR yj;rw [WJ,WJ]
def Fq {a:Nat} (c:a<4294967296) (hb:b<4294967296):a^^^b<4294967296:=Nat.xor_lt_two_pow (n:=32) c hb
theorem qzt (h:c<4294967296):mH c<4294967296:=by
 unfold mH
 split
 ·exact Fq (by omega) (by decide)
 ·omega
theorem zgx (h:c<4294967296):yj c<4294967296:=by grind [qzt,yj]
def qts {x:Nat} (hc:c<4294967296) (a:x<256):DR c x<4294967296:=by
 rw [qtr];exact zgx (Fq hc (by omega))
def Lr:∀(l:List Nat) {c:Nat},c<4294967296->(∀x∈l,x<256)->zi c l<4294967296
 |[],_,h,_=>h
 |x::l,_,h,a=>Lr l (qts h (a x List.mem_cons_self)) (λy b=>a y (acd _ b))
def q97 (h:c<4294967296):c^^^4294967295=4294967295-c:=by
 apply af4
 intro i
 rw [show 4294967295-c=2^32- (c+1) by omega,afn,Nat.testBit_two_pow_sub_succ (by omega),show (4294967295:Nat)=2^32-1 from rfl,Nat.testBit_two_pow_sub_one]
 by_cases hi:i<32
 ·simp [hi]
 ·have:c.testBit i=false:=Nat.testBit_lt_two_pow (Nat.lt_of_lt_of_le h (adk (n:=2) (by decide) (by omega:32<=i)))
  simp [hi,this]
end
section
open Go.ChangeShapes Go.WideShapes
section
variable {H:Type} {enc:TypeId×Value->H} {P:Program}
def VU (g:laidOutB P=true) {W w:World} (hb:Below W.heap.size W w):∀{ts:List TypeId} {c:List Value} {e:List (DataW H)} {ps:List MemPlace},
  (ts.all λt=>P.readableRec t&&decide (t<P.types.size))=true->agO enc P W 0 (λ_=>true) true ts c e ps->(∀x∈ps,x.block<W.heap.size)->
  agO enc P w 0 (λb=>decide (b<W.heap.size)) true ts c e ps
 |[],c,e,ps,_,h,_=>by
  obtain ⟨rfl,rfl,rfl⟩:=trodAll_nil h
  rfl
 |t::ts,c,e,ps,ht,h,a=>by
  obtain ⟨v,i,d,j,p,q,rfl,rfl,rfl,k,l⟩:=trodAll_cons h
  simp only [List.all_cons,abG,decide_eq_true_eq] at ht
  exact ⟨p,q,Below.trod g ht.1.1 ht.1.2 k hb (λx f=>a x (List.mem_append_left _ f)),VU g hb (by simpa using ht.2) l (λx f=>a x (List.mem_append_right _ f)),rfl⟩
def q24 {f:Func} {s:ChangeSpec} {args:Array Value} {ds gs:List (DataW H)} {before:List MemPlace} {tb:TypeId}
  (l:laidOutB P=true) (a:(f.params.toList.all λt=>P.readableRec t&&decide (t<P.types.size))=true)
  (hr:f.resultTypes= #[tb]) (b:P.underlying tb=some .bool) (j:s.vars=[])
  (c:DataW.Whole enc P f.params.toList s.vars false W args.toList ds gs before) (hs:s.fn H ds={results:=[.lit (.bool true)],args:=ds}) (hb:Below W.heap.size W w):
  s.post enc P f false true false false W args (.bool true) w:=by
 have g:∀x∈before,x.block<W.heap.size:=λp m=>c.lt p m
 have i:=c
 obtain ⟨p,q,n,k,e,o,r⟩:=c
 rw [j] at k
 obtain ⟨rfl,rfl⟩:=trodVars_none k
 rw [abP] at e
 subst e
 refine ⟨ds,[],before,[],before,[],i,?_,?_,?_,hb.frame _,λh=>by cases h⟩
 ·rw [abP,hs,hr]
  exact trodAll_mk1 (shut_bool b _)
 ·rw [abP,hs]
  exact VU l hb a n g
 ·rw [abP,hs,j]
  rfl
end
def EN:Tryz.prog.underlying 5=some (.int .u8):=by kernel_rfl
def q9z:Tryz.prog.cellsOf 5=1:=by kernel_rfl
def qzo:Tryz.prog.cellsOf 110=2:=by kernel_rfl
section
variable {H:Type} {enc:TypeId×Value->H} {W:World} {b0:Nat} {v:Value} {d:DataW H} {p:List MemPlace}
def VW {a:Int} (h:(aeM .i64 a).wf=true):aW a:=by
 simpa [agk,aex,aey,ad1,aej,aW] using h
def jc {a:Int} (h:(aeM .u8 a).wf=true):0<=a/\a<=255:=by
 simpa [agk,aex,aey,ad1,aej] using h
end
end
theorem XK:∀(l:List Nat) (i a x m:Nat),(∀b∈l,b<256)->i<=9->nk i a l=(x,m,0)->
  ∃y,x=a+y*128^i/\(iL (10-i) y).map bH=l.take (m-i)/\i<m/\(0<i->0<y)
 |[],i,a,x,m,_,_,h=>by simp [nk] at h
 | b :: r, i, a, x, m, e, hi, h => by
  have g:=e b (by simp)
  rw [nk] at h
  split at h
  ·simp at h
  ·rename_i p
   split at h
   ·simp at h
   ·rename_i q
    split at h
    ·rename_i c
     simp only [Prod.mk.injEq] at h
     obtain ⟨rfl,rfl,_⟩:=h
     refine ⟨b,rfl,?_,by omega,λ_=>by omega⟩
     obtain ⟨f,d⟩:∃f,10-i=f+1:=⟨9-i,by omega⟩
     rw [d,Dv f b c,show i+1-i=1 by omega]
     rfl
    ·rename_i c
     obtain ⟨y,s,j,t,n⟩:=XK r (i+1) _ x m (λb g=>e b (by simp [g])) (by omega) h
     have u:=n (by omega)
     refine ⟨(b-128)+128*y,?_,?_,by omega,λ_=>by omega⟩
     ·grind
     ·obtain ⟨f,d⟩:∃f,10-i=f+1:=⟨9-i,by omega⟩
      rw [d,Dw f _ (by omega),show ((b-128)+128*y)%128=b-128 by omega,show ((b-128)+128*y)/128=y by omega]
      rw [show f=10- (i+1) by omega,acu,j]
      obtain ⟨k,o⟩:∃k,m-i=k+1:=⟨m-i-1,by omega⟩
      rw [o,List.take_succ_cons,show m- (i+1)=k by omega]
      congr 1
      show b-128+128=b
      omega
theorem Pq {x:Nat} (a:∀b∈l,b<256) (h:aD l=(x,m,0)):ak x=l.take m:=by
 obtain ⟨y,c,d,e,_⟩:=XK l 0 0 x m a (by omega) h
 grind [ak]
theorem XL:∀(j:Nat) (l xs:List Nat) (u:Nat),(∀b∈l,b<256)->aV j l=(xs,u,0)->xs.flatMap ak=l.take u/\abn xs=j/\(∀x∈xs,x<18446744073709551616)/\u<=abn l:=by intro x;induction x<;>grind [aV,aD,Pq,qc6,xg]
def XM {e:Ev}:∀{i:Nat},i<7->i≠5->e.within i=true->e.gT i<=4294967295
 |0,_,_,h=>by simp only [Ev.within,decide_eq_true_eq] at h;show e.task<=_;omega
 |1,_,_,h=>by simp only [Ev.within,decide_eq_true_eq] at h;show e.group<=_;omega
 |2,_,_,h=>by simp only [Ev.within,decide_eq_true_eq] at h;show e.to<=_;omega
 |3,_,_,h=>by simp only [Ev.within,decide_eq_true_eq] at h;show e.weight<=_;omega
 |4,_,_,h=>by simp only [Ev.within,decide_eq_true_eq] at h;show e.ticks<=_;omega
 |5,_,a,_=>absurd rfl a
 |n+6,_,_,h=>by simp only [Ev.within,decide_eq_true_eq] at h;show e.got<=_;omega
theorem zaw (o:Ev) (i x:Nat) (hi:i<7):(o.put i x).mask=if i=5 then x else o.mask:=by
 obtain rfl|rfl|rfl|rfl|rfl|rfl|rfl:i=0\/i=1\/i=2\/i=3\/i=4\/i=5\/i=6:=by omega
 all_goals rfl
theorem XO (x:Nat):∀(l:List (Nat×Nat)) (o:Ev),(∀p∈l,p.1<7)->(l.map (·.1)).Nodup->(5,x)∈l->(o.fill l).mask=x
 |[],_,_,_,h=>by simp at h
 | p :: l, o, c, b, h => by
  rw [acu,afi] at b
  rcases abS.1 h with rfl|h
  ·have d:=KZ 5 (by omega) l (o.put 5 x) (λq a=>⟨c q (by simp [a]),λe=>b.1 (by rw [<-e];exact ab0.2 ⟨q,a,rfl⟩)⟩)
   have f:((o.fill ((5,x)::l)).mask:Int)=((o.put 5 x).mask:Int):=d
   grind [zaw]
  ·exact XO x l (o.put p.1 p.2) (λq a=>c q (by simp [a])) b.2 h
def zax (i:Nat) (h:i<=8):2^ (64-7*i)=128*2^ (64-7*(i+1)):=by
 rw [show 64-7*i=7+(64-7*(i+1)) by omega,Nat.pow_add]
def zay (a y i:Nat):a+(y%128+128-128)*128^i+y/128*128^ (i+1)=a+y*128^i:=by
 rw [agG,aeI,aeW,Nat.mul_comm (128^i) 128,<-Nat.mul_assoc,<-Nat.add_mul]
 congr 2
 omega
theorem XP:∀(f y i b:Nat) (a:List Nat),i+f=10->1<=f->y<2^ (64-7*i)->(0<i->0<y)->
  nk i b ((iL f y).map bH++a)=(b+y*128^i,i+abn (iL f y),0)
 |0,_,_,_,_,_,h,_,_=>by omega
 | f + 1, y, i, b, a, hi, _, c, k => by
  have j:i=9->y<2:=λe=>by subst e;simpa using c
  by_cases h:y<128
  ·rw [Dv f y h]
   show nk i b (y::a)=_
   rw [nk,if_neg (by omega),if_neg (by omega),if_pos h]
   rfl
  ·rw [Dw f y (by omega)]
   show nk i b ((y%128+128)::((iL f (y/128)).map bH++a))=_
   have d:i<=8:=by
    rcases ab5 i 9 with h|h
    ·omega
    ·have:=j (by omega);omega
   have g:y/128<2^ (64-7*(i+1)):=by
    rw [zax i d] at c
    exact Nat.div_lt_of_lt_mul c
   rw [nk,if_neg (by omega),if_neg (by omega),if_neg (by omega),XP f (y/128) (i+1) _ a (by omega) (by omega) g (λ_=>by omega),zay]
   simp only [abT,Prod.mk.injEq,and_true,true_and]
   omega
theorem Pt {y:Nat} (a:List Nat) (hy:y<18446744073709551616):aD (ak y++a)=(y,abn (ak y),0):=by grind [ak,XP,aD]
theorem Pw:∀(xs a:List Nat),(∀x∈xs,x<18446744073709551616)->aV (abn xs) (xs.flatMap ak++a)=(xs,abn (xs.flatMap ak),0):=by intro x;induction x<;>grind [aV,Pt]
theorem zlk {a b:Ev} (h1:a.seq=b.seq) (d:a.time=b.time) (e:a.cpu=b.cpu) (f:a.kind=b.kind) (c:∀i,i<7->a.gT i=b.gT i):a=b:=by
 have g:a.task=b.task:=c 0 (by omega)
 have h:a.group=b.group:=c 1 (by omega)
 have j:a.to=b.to:=c 2 (by omega)
 have k:a.weight=b.weight:=c 3 (by omega)
 have l:a.ticks=b.ticks:=c 4 (by omega)
 have m:(a.mask:Int)=(b.mask:Int):=c 5 (by omega)
 have n:a.got=b.got:=c 6 (by omega)
 cases a
 cases b
 simp only at*
 simp_all
 omega
def wrap_small {x:Int} (a:0<=x) (h1:x<=4294967295):wrap64 ((x.toNat:Nat):Int)=x:=by
 rw [<-af0,af2];omega
def zaz (e:Ev):∀i,i<7->e.base.gT i=0:=by
 intro i hi
 obtain rfl|rfl|rfl|rfl|rfl|rfl|rfl:i=0\/i=1\/i=2\/i=3\/i=4\/i=5\/i=6:=by omega
 all_goals rfl
theorem qt8 (h:e.check=0) (i:Nat) (hi:i<7) (a:i∉aB e.kind):e.gT i=0:=by grind [Ev.check,aB]
def q4c {b:Ev} (hc:e.check=0) (h1:b.seq=e.seq) (r:b.time=e.time) (s:b.cpu=e.cpu) (o:b.kind=e.kind):b.made e.vals=e:=by
 have d:=VL b e.vals
 have m:=(qc5 hc).2.1
 rw [ab3] at m
 have q:abn e.vals=abn (aB e.kind):=by unfold Ev.vals;rw [abx]
 have c:∀p∈(aB e.kind).zip e.vals,p.1<7:=λp k=>Bl _ _ (aew k).1
 have j:(((aB e.kind).zip e.vals).map (·.1)).Nodup:=by rw [ags (by omega)];exact VN _
 have f:∀i∈aB e.kind,(i,(e.gT i).toNat)∈(aB e.kind).zip e.vals:=by
  intro i hi
  unfold Ev.vals
  have hz:∀l:List Nat,i∈l->(i,(e.gT i).toNat)∈l.zip (l.map λi=>(e.gT i).toNat):=by
   intro l
   induction l with
   |nil=>intro h;cases h
   | cons a l t =>
    intro h
    rcases abS.1 h with rfl|h
    ·simp
    ·simp only [acu,List.zip_cons_cons,abS]
     exact Or.inr (t h)
  exact hz _ hi
 refine zlk (d.2.1.trans h1) (d.2.2.1.trans r) (d.2.2.2.trans s) (d.1.trans o) λi hi=>?_
 unfold Ev.made
 rw [o]
 by_cases g:i∈aB e.kind
 ·by_cases n:i=5
  ·subst n
   have:=XO _ _ b.base c j (f 5 g)
   show (((b.base.fill ((aB e.kind).zip e.vals)).mask:Nat):Int)=(e.mask:Int)
   rw [this]
   show (((e.mask:Int).toNat:Nat):Int)=_
   simp
  ·rw [Ob i _ n _ _ c j (f i g)]
   exact wrap_small (KY (m i g)) (XM hi n (m i g))
 ·rw [KZ i hi _ _ (λp k=>⟨c p k,λh=>g (h▸ (aew k).1)⟩),zaz b i hi,qt8 hc i hi g]
def q4d (hc:e.check=0) (c:e.Ok):∀x∈e.vals,x<18446744073709551616:=by
 intro x d
 obtain ⟨i,hi,rfl⟩:=ab0.1 d
 have a:=(qc5 hc).2.1
 rw [ab3] at a
 by_cases b:i=5
 ·subst b
  have:=c.mask
  show ((e.mask:Int)).toNat<_
  simpa using this
 ·have:=XM (Bl _ _ hi) b (a i hi)
  have f:=KY (a i hi)
  show (e.gT i).toNat<_
  omega
def za0 (hc:e.check=0):abn (aB e.kind)≠0:=by
 have:=(qc5 hc).1
 rcases qtl e.kind with h|h|h|h|h|h|h|h|h|h|h
 any_goals (rw [h];decide)
 exact absurd h.2 (by rw [this];exact id)
structure Fit (b:Bs) (e:Ev):Prop where
 right:b.right=true
 check:e.check=0
 ok:e.Ok
 behind:b.behind e=true
theorem Fit.nums {b:Bs} (h:Fit b e):(∀x∈xY b e,x<18446744073709551616)/\abn (xY b e)=2+abn (aB e.kind)/\b.seq+(((e.seq-b.seq).toNat:Nat):Int)=e.seq/\b.time+(((e.time-b.time).toNat:Nat):Int)=e.time/\
  1<=b.seq/\0<=b.time/\e.seq<=281474976710656/\e.time<=281474976710656:=by
 have c:=h.right
 have d:=h.behind
 unfold Bs.right at c
 unfold Bs.behind at d
 simp only [decide_eq_true_eq] at c d
 obtain ⟨_,_,_,f,g,i,j⟩:=qc5 h.check
 refine ⟨λx a=>?_,?_,by omega,by omega,by omega,by omega,by omega,by omega⟩
 ·unfold xY at a
  rcases abS.1 a with rfl|a
  ·omega
  ·rcases abS.1 a with rfl|a
   ·omega
   ·exact q4d h.check h.ok x a
 ·unfold xY Ev.vals
  simp only [abT,abx]
  omega
def q4e {b:Bs} (h:Fit b e) (a:List Nat):bq b e.cpu (zh b e++a)=(e,abn (zh b e),0):=by
 obtain ⟨c,d,f,g,k,l,m,n⟩:=h.nums
 unfold bq zh
 rw [if_neg (by simp [h.right]),if_neg (by simp)]
 simp only [aeD,af5,af6,afS]
 rw [if_neg (za0 h.check),<-d,Pw _ a c]
 unfold sJ
 have hm:(b.ev e.cpu e.kind (e.seq-b.seq).toNat (e.time-b.time).toNat).made e.vals=e:=
  q4c h.check f g rfl rfl
 have i:abn e.vals=abn (aB e.kind):=by unfold Ev.vals;rw [abx]
 have j:(b.ev e.cpu e.kind (e.seq-b.seq).toNat (e.time-b.time).toNat).cK e.vals=0:=by
  unfold Ev.cK
  rw [if_neg (by show ¬(e.kind=0\/10<e.kind);rw [(qc5 h.check).1];exact id),if_neg (by rw [i];show ¬abn (aB e.kind)≠abn (aB e.kind);omega),hm,if_neg (by rw [h.check];omega)]
 simp only [xY,af5,List.getD_cons_succ,af6,afS,ne_eq,not_true_eq_false,if_false]
 rw [if_neg (by omega),j,if_neg (by omega),hm]
 simp only [abT,Prod.mk.injEq,true_and,and_true]
 omega
def Chain (cpu:Nat):Option Ev->Bs->List Ev->Prop
 |_,_,[]=>True
 |p,b,e::r=>Fit b e/\e.cpu=cpu/\(∀q,p=some q->q.seq<e.seq)/\Chain cpu (some e) e.at r
theorem LP (hc:e.check=0):e.at.right=true:=by simp_all [Bs.right,Ev.at,qc5]
def XQ {cpu:Nat}:∀(es:List Ev) (p:Option Ev) (b:Bs) (a:List Nat),Chain cpu p b es->qy cpu (abn es) b p (recs b es++a)=(es,abn (recs b es),0)
 |[],_,_,_,_=>rfl
 | e :: r, p, b, a, h => by
  obtain ⟨c,d,f,g⟩:=h
  subst d
  have i:p.any (λq=>decide (e.seq=q.seq))=false:=by
   cases p with
   |none=>rfl
   |some q=>have:=f q rfl;simp;omega
  rw [abT,qy,recs,List.append_assoc,q4e c]
  simp only [List.drop_left,ne_eq,not_true_eq_false,if_false,i,Bool.false_eq_true]
  rw [XQ r (some e) e.at a g]
  simp
def XR {cpu:Nat}:∀(es:List Ev) (p:Option Ev) (b:Bs) (i:Nat),Chain cpu p b es->(∀q,p=some q->b=q.at/\q.cpu=cpu)->iD p i es=(-1,0)
 |[],_,_,_,_,_=>rfl
 | e :: r, p, b, i, h, j => by
  obtain ⟨f,g,k,l⟩:=h
  rw [iD,if_neg (by simp [f.check]),if_neg]
  ·exact XR r (some e) e.at (i+1) l (λq a=>by injection a with a;subst a;exact ⟨rfl,g⟩)
  ·cases p with
   |none=>simp
   | some q =>
    obtain ⟨rfl,hc⟩:=j q rfl
    have c:=f.behind
    unfold Bs.behind Ev.at at c
    simp only [decide_eq_true_eq] at c
    have:=k q rfl
    have d:e.after q=true:=by
     unfold Ev.after
     rw [decide_eq_true_eq]
     exact ⟨by rw [g,hc],this,c.2⟩
    simp [d]
def XT {es:List Ev} {b:Bs} (hb:b.right=true) (h:Chain cpu none b es):iU es=(-1,0)/\rJ b es=0/\uH b es=recs b es:=by
 have a:iU es=(-1,0):=XR es none b 0 h (λq d=>by cases d)
 have c:rJ b es=0:=by
  unfold rJ
  have f:es.head?.all b.behind=true:=by
   cases es with
   |nil=>rfl
   |cons e r=>simpa using h.1.behind
  rw [a,if_neg (by simp),if_pos ⟨hb,f⟩]
 refine ⟨a,c,?_⟩
 unfold uH
 rw [if_pos c]
theorem q4f {es:List Ev} {b:Bs} (hb:b.right=true) (h:Chain cpu none b es) (a:List Nat):gL b cpu (abn es:Int) (recs b es++a)=(es,abn (recs b es),0):=by simp_all [XQ,gL]
structure Sm where
 kind:Nat
 cpu:Nat
 seq:Nat
 time:Nat
 task:Nat
 group:Nat
 to:Nat
 weight:Nat
 ticks:Nat
 got:Nat
 mask:Nat
structure Sm.Ok (x:Sm):Prop where
 kind:x.kind<256
 cpu:x.cpu<256
 seq:x.seq<4294967296
 time:x.time<4294967296
 task:x.task<4294967296
 group:x.group<4294967296
 to:x.to<4294967296
 weight:x.weight<4294967296
 ticks:x.ticks<4294967296
 got:x.got<4294967296
 mask:x.mask<18446744073709551616
def Sm.cells (x:Sm):Array Value:= #[.int .u8 (x.kind:Int),.int .u8 (x.cpu:Int),.int .u32 (x.seq:Int),.int .u32 (x.time:Int),.int .u32 (x.task:Int),.int .u32 (x.group:Int),.int .u32 (x.to:Int),.int .u32 (x.weight:Int),.int .u32 (x.ticks:Int),.int .u32 (x.got:Int),.int .u64 (x.mask:Int)]
def Sm.ev (x:Sm):Ev where
 seq:=((1+x.seq:Nat):Int)
 time:=(x.time:Int)
 cpu:=x.cpu%64
 kind:=1+x.kind%10
 task:=if x.kind%10=0\/x.kind%10=1\/x.kind%10=6\/x.kind%10=8 then ((1+x.task%65535:Nat):Int) else 0
 group:=if x.kind%10=0 then ((x.group%256:Nat):Int) else if x.kind%10=7 then ((1+x.group%255:Nat):Int) else 0
 to:=if x.kind%10=8 then (((x.cpu%64+1+x.to%63)%64:Nat):Int) else 0
 weight:=if x.kind%10=0\/x.kind%10=6\/x.kind%10=7 then ((1+x.weight%65536:Nat):Int) else 0
 ticks:=if x.kind%10=4 then ((max x.ticks 1:Nat):Int) else 0
 mask:=if x.kind%10=0 then x.mask|||2^ (x.cpu%64) else 0
 got:=if x.kind%10=4\/x.kind%10=5 then ((x.got%65535:Nat):Int) else if x.kind%10=2\/x.kind%10=3\/x.kind%10=9 then ((1+x.got%65535:Nat):Int) else 0
def Ev.moved (e:Ev) (s t:Int):Ev:={e with seq:=s,time:=t}
def zhk (m c:Nat):(m|||2^c)/2^c%2=1:=by
 have h:(m|||2^c).testBit c=true:=by rw [Nat.testBit_or,Nat.testBit_two_pow_self,Bool.or_true]
 rw [Nat.testBit_eq_decide_div_mod_eq,decide_eq_true_eq] at h
 exact h
def Gi (hm:m<18446744073709551616) (hc:c<64):m|||2^c<18446744073709551616:=by
 have:m|||2^c<2^64:=Nat.or_lt_two_pow (by omega) (Nat.pow_lt_pow_right (by omega) hc)
 omega
theorem Sm.check {x:Sm} (h:x.Ok) {s t:Int} (hs:1<=s/\s<=281474976710656) (ht:0<=t/\t<=281474976710656):(x.ev.moved s t).check=0:=by
 have b:=zhk x.mask (x.cpu%64)
 have hc:x.cpu%64<64:=by omega
 have c:=h.ticks
 have a:x.kind%10=0\/x.kind%10=1\/x.kind%10=2\/x.kind%10=3\/x.kind%10=4\/x.kind%10=5\/x.kind%10=6\/x.kind%10=7\/x.kind%10=8\/x.kind%10=9:=by omega
 unfold Ev.check
 rcases a with a|a|a|a|a|a|a|a|a|a
 all_goals
  rw [if_neg (by simp [Ev.moved,Sm.ev,a]),if_neg (by simp [Ev.moved,Sm.ev];omega),if_neg,if_neg]
  ·simp [Ev.moved,Sm.ev,a,aB,Ev.gT,acp,List.range.loop]
  ·simp [Ev.moved,Sm.ev,a,aB,Ev.within,b]
   try omega
def Sm.ok {x:Sm} (h:x.Ok) {s t:Int} (hs:aW s) (ht:aW t):(x.ev.moved s t).Ok:=by
 have:=h.ticks
 have hm:=Gi (c:=x.cpu%64) h.mask (by omega)
 refine ⟨hs,ht,?_,?_,?_,?_,?_,?_,?_,?_,?_⟩
 all_goals (simp only [Ev.moved,Sm.ev,aW])
 all_goals (repeat' split)
 all_goals first|exact hm|omega
def Bs.based (b:Bs):Bs:=⟨1+b.seq%1099511627776,b.time%1099511627776⟩
def rT (k:Nat):Nat:=if k/16%4=0 then 1 else if k/16%4=1 then 3 else if k/16%4=2 then 200 else 4294967296
def stepT (k:Nat):Nat:=if k/64=0 then 1 else if k/64=1 then 300 else if k/64=2 then 100000 else 4294967296
def Bs.step (a:Bs) (x:Sm):Bs:=⟨a.seq+((1+x.seq%rT x.kind:Nat):Int),a.time+((x.time%stepT x.kind:Nat):Int)⟩
def vv (cpu:Nat):Bs->List Sm->List Ev
 |_,[]=>[]
 |a,x::r=>(({x with cpu:=cpu}:Sm).ev.moved (a.step x).seq (a.step x).time)::vv cpu (a.step x) r
def Bs.start (b:Bs):Bs:=⟨b.based.seq-1,b.based.time⟩
def lS (cpu:Nat) (b:Bs) (l:List Sm):List Ev:=vv cpu b.start (l.take 200)
def Qc (b:Bs):b.based.right=true/\1<=b.based.seq/\b.based.seq<=1099511627776/\0<=b.based.time/\b.based.time<1099511627776:=by
 have a:1<=b.based.seq/\b.based.seq<=1099511627776/\0<=b.based.time/\b.based.time<1099511627776:=by
  show 1<=1+b.seq%1099511627776/\1+b.seq%1099511627776<=1099511627776/\0<=b.time%1099511627776/\b.time%1099511627776<1099511627776
  omega
 refine ⟨?_,a⟩
 unfold Bs.right
 rw [decide_eq_true_eq]
 omega
def quj (a:Bs) {x:Sm} (h:x.Ok):a.seq+1<=(a.step x).seq/\(a.step x).seq<=a.seq+4294967296/\a.time<=(a.step x).time/\(a.step x).time<=a.time+4294967296:=by
 have b:x.seq%rT x.kind<=x.seq:=Nat.mod_le _ _
 have c:x.time%stepT x.kind<=x.time:=Nat.mod_le _ _
 have:=h.seq
 have:=h.time
 show a.seq+1<=a.seq+((1+x.seq%rT x.kind:Nat):Int)/\a.seq+((1+x.seq%rT x.kind:Nat):Int)<=a.seq+4294967296/\a.time<=a.time+((x.time%stepT x.kind:Nat):Int)/\a.time+((x.time%stepT x.kind:Nat):Int)<=a.time+4294967296
 omega
def YA {cpu:Nat} (d:cpu<256):∀(l:List Sm) (p:Option Ev) (b a:Bs),(∀x∈l,x.Ok)->b.right=true->b.seq<=a.seq+1->b.time<=a.time->(∀q,p=some q->q.seq<=a.seq)->0<=a.seq->0<=a.time->
  a.seq+4294967296*(abn l:Int)<=281474976710656->a.time+4294967296*(abn l:Int)<=281474976710656->Chain (cpu%64) p b (vv cpu a l)
 |[],_,_,_,_,_,_,_,_,_,_,_,_=>trivial
 | x :: r, p, b, a, g, h, n, o, i, u, v, j, k => by
  have c:=g x (by simp)
  have e:({x with cpu:=cpu}:Sm).Ok:=⟨c.kind,d,c.seq,c.time,c.task,c.group,c.to,c.weight,c.ticks,c.got,c.mask⟩
  obtain ⟨s1,w,z,A⟩:=quj a c
  rw [abT] at j k
  have hc:=Sm.check e (s:=(a.step x).seq) (t:=(a.step x).time) (by omega) (by omega)
  refine ⟨⟨h,hc,Sm.ok e ⟨by omega,by omega⟩ ⟨by omega,by omega⟩,?_⟩,rfl,?_,?_⟩
  ·unfold Bs.behind
   rw [decide_eq_true_eq]
   show b.seq<=(a.step x).seq/\b.time<=(a.step x).time
   omega
  ·intro q f
   have:=i q f
   show q.seq<(a.step x).seq
   omega
  ·refine YA d r _ _ _ (λy m=>g y (by simp [m])) (LP hc) ?_ ?_ ?_ (by omega) (by omega) (by omega) (by omega)
   ·show (a.step x).seq<=(a.step x).seq+1;omega
   ·exact afM _
   ·intro q f
    injection f with f
    subst f
    exact afM _
def quk (a:cpu<256) (b:Bs) {l:List Sm} (d:∀x∈l,x.Ok):Chain (cpu%64) none b.based (lS cpu b l):=by
 obtain ⟨e,i,j,f,k⟩:=Qc b
 have c:abn (l.take 200)<=200:=by rw [abv];omega
 refine YA a _ none b.based b.start (λx g=>d x (List.mem_of_mem_take g)) e ?_ (afM _) (λq h=>by cases h) ?_ f ?_ ?_
 ·show b.based.seq<=b.based.seq-1+1;omega
 ·show 0<=b.based.seq-1;omega
 ·show b.based.seq-1+4294967296*(abn (l.take 200):Int)<=_;omega
 ·show b.based.time+4294967296*(abn (l.take 200):Int)<=_;omega
theorem q0b (cpu:Nat):∀(l:List Sm) (a:Bs),abn (vv cpu a l)=abn l:=by intro x;induction x<;>grind [vv]
def fO (x n:Int):Int:=if n<1 then 0 else x%n
def q4x (x n:Int) (c:1<=n):(afu x n<0->afu x n+n=x%n)/\(0<=afu x n->afu x n=x%n):=by
 have a:= @Int.tmod_eq_emod x n
 have d:=Int.emod_nonneg x (show n≠0 by omega)
 have e:=Int.emod_lt_of_pos x (show 0<n by omega)
 rw [a]
 have b:(n.natAbs:Int)=n:=Int.natAbs_of_nonneg (by omega)
 split
 ·simp;omega
 ·rw [b];omega
set_option maxHeartbeats 400000 in
theorem YB (x n:Int) (_hx:aW x) (d:aW n) (w:World):Calls Tryz.prog 39 #[.int .i64 x,.int .i64 n] w λe f=>e= .returned (.int .i64 (fO x n))/\f=w:=by
 by_cases h:n<1
 ·have g:decide (n<1)=true:=by simpa using h
  have a:fO x n=0:=if_pos h
  rw [a]
  clear a
  go_enter Tryz.func39,Tryz.ntmps39
  go_wp2
  go_ret
  exact ⟨rfl,rfl⟩
 ·have g:decide (n<1)=false:=by simpa using h
  have a:fO x n=x%n:=if_neg h
  rw [a]
  clear a
  have i:=hide (q4x x n (by omega))
  go_enter Tryz.func39,Tryz.ntmps39
  go_wp2
  all_goals
   rename_i b
   have c:=i.out
   have k:=Int.emod_nonneg x (show n≠0 by omega)
   have l:=Int.emod_lt_of_pos x (show 0<n by omega)
   have j:=d.2
   go_ret
   refine ⟨?_,rfl⟩
   first
    |(show Ending.returned (.int .i64 (Int.tmod x n))=_;rw [c.2 b])
    |(show Ending.returned (.int .i64 (wrap64 (Int.tmod x n+n)))=_;rw [c.1 b,<-IntWalk.i64_left,IntKind.wrap_i64];congr 2;omega)
structure tF (b:Bs) (w:World) (r:Ending) (w':World):Prop where
 ret:r= .returned (.agg b.based.cells)
 below:Below w.heap.size w w'
set_option maxRecDepth 100000 in
set_option maxHeartbeats 400000 in
theorem q4y (b:Bs) (hb:b.Ok) (w:World):Calls Tryz.prog 158 #[.agg b.cells] w (tF b w):=by
 have f:=hide (λx m w=>YB x 1099511627776 m ⟨by omega,by omega⟩ w)
 have hs:fO b.seq 1099511627776=b.seq%1099511627776:=if_neg (by omega)
 have ht:fO b.time 1099511627776=b.time%1099511627776:=if_neg (by omega)
 have j:=hide hb.seq
 have k:=hide hb.time
 have n:0<=b.seq%1099511627776:=by omega
 have o:b.seq%1099511627776<1099511627776:=by omega
 obtain ⟨q,g⟩:∃q,b.seq%1099511627776=q:=⟨_,rfl⟩
 obtain ⟨p,h⟩:∃q,b.time%1099511627776=q:=⟨_,rfl⟩
 have l:b.based.cells= #[.int .i64 (1+q),.int .i64 p]:=by rw [<-g,<-h];rfl
 rw [g] at n o hs
 rw [h] at ht
 have s:=hide l
 have a:=hide (λW=>(f.out b.seq j.out W))
 rw [hs] at a
 have c:=hide (λW=>(f.out b.time k.out W))
 rw [ht] at c
 simp only [Bs.cells]
 obtain ⟨u,d⟩:∃q,b.seq=q:=⟨_,rfl⟩
 obtain ⟨y,e⟩:∃q,b.time=q:=⟨_,rfl⟩
 rw [d] at a⊢
 rw [e] at c⊢
 clear g h hs ht d e l f j k
 go_enter Tryz.func158,Tryz.ntmps158
 go_wp2
 go_region_with (first
  |(go_at_call 39;with_reducible refine (a.out _).mono ?_;rintro r t ⟨rfl,rfl⟩)
  |(go_at_call 39;with_reducible refine (c.out _).mono ?_;rintro r t ⟨rfl,rfl⟩))
 all_goals
  go_wp2
  refine bodyPost_ret (v:= .agg #[.int .i64 (1+q),.int .i64 p]) ?g1 rfl ?g2
  case g2=>exact ⟨by rw [s.out],(((Below.refl _ _).alloc (Nat.le_refl _) _).alloc (by simp) _).drew⟩
  case g1=>
   have i:IntKind.i64.wrap (1+q)=1+q:=by rw [IntKind.wrap_i64];omega
   rw [i]
   simp [results,Tryz.results158,go_sem]
section
variable {P:Program} {ops:Array Oper} {Q:Exit->Act->World->Prop} {l:Nat} {md:Region.Mode}
def K4 (ops:Array Oper):Bool:=ops.all λo=>match o.op with| .defer _=>false|_=>true
def VX (h:K4 ops=true) (hi:ops[i]?=some o):∀c,o.op≠ .defer c:=by
 intro c hc
 have hm:o∈ops:=Array.mem_of_getElem? hi
 have:=(Array.all_eq_true_iff_forall_mem.1 h) o hm
 rw [hc] at this
 cases this
def VY {K K':Act->World->Prop} (k:∀c,o.op≠ .defer c) (m:¬LetsOut Q) (b:∀a w,K a w->K' a w) (h:o.wp P a w K Q\/(o.asks P a w/\LetsOut Q)):o.wpIn (Fence.wide.inRound l) 0 P a w K' Q:=by
 rcases h with h|h
 ·refine ⟨λ_ _=>trivial,?_⟩
  rw [show (Fence.wide.inRound l).round=some l from rfl,Oper.semAt_some l _ _ k]
  unfold acN at h
  generalize (execOp a.eval o).run P w=r at h
  cases r with
  | ok x i =>
   cases x with
   |value v=>exact b _ _ h
   |skip=>exact b _ _ h
   |defer d=>exact b _ _ h
   |enter f args=>
    refine ⟨λh=>by simp [ab4,agP] at h,?_⟩
    show CallsIn ab4 0 P f args i _
    refine (callsIn_wide.2 h).mono ?_
    intro e g j
    cases e with
    |returned v=>exact b _ _ j
    |panicked c=>exact j
    |outgrown=>exact j
   |row r args=>
    refine ⟨λh=>by simp [ab4,agP] at h,λc n _=>?_⟩
    obtain ⟨v,g,p,q⟩:=(h:Rows P r args i _) c n
    exact ⟨v,g,b _ _ p,stepsIn_wide.2 q⟩
   |_=>exact (h:False).elim
  |halt s i=>
   cases s with
   |panic v=>exact h
   |_=>exact (h:False).elim
 ·exact absurd h.2 m
def K5 (d:K4 ops=true) (e:¬LetsOut Q):∀(b:Nat) (listed:Array Bool) (a:Act) (w:World),wpAny P md ops Q b listed a w->wpAnyIn (Fence.wide.inRound l) 0 P md ops Q b listed a w
 |0,_,_,_,h=>h
 | b + 1, listed, a, w, h => by
  refine ⟨h.1,λi hi=>?_⟩
  have c:=h.2 i hi
  unfold wpOp at c
  unfold wpOpIn
  split at c
  ·rename_i f
   rw [f]
   exact K5 d e b _ _ _ c
  ·rename_i o f
   rw [f]
   show if acV o (yielded ops a.tmps)=true then _ else _
   split at c
   ·rename_i g
    rw [if_pos g]
    exact VY (VX d f) e (λa w h=>K5 d e b _ a w h) c
   ·rename_i g
    rw [if_neg g]
    exact ⟨λ_ _=>trivial,K5 d e b _ _ _ c⟩
end
def look (σ:List (Nat×Value)):Operand->Option Value
 | .tmp t=>σ.lookup t
 | .const v=>some v
 | .global g=>some (.pointer (some ⟨g,0,none⟩))
 | .func f=>some (.func (.func f) #[] #[])
structure Fr (a:Act) (n:Nat) (D:List Deferred) (σ:List (Nat×Value)):Prop where
 size:a.tmps.size=n
 defers:a.defers=D
 slot:∀t v,σ.lookup t=some v->a.tmps.getD t undef=v
section
variable {a:Act} {n:Nat} {D:List Deferred} {σ σ':List (Nat×Value)}
def Fr.eval (h:Fr a n D σ) {x:Operand} {v:Value} (b:look σ x=some v):a.eval x=v:=by
 cases x with
 |tmp t=>exact h.slot t v b
 |const u=>injection b
 |global g=>injection b
 |func f=>injection b
theorem Fr.put (h:Fr a n D σ) {d:Nat} (c:d<n) (v:Value):Fr (a.put (some d) v) n D ((d,v)::σ):=by
 refine ⟨by simpa [ahf] using h.size,h.defers,λt u b=>?_⟩
 have hs:=h.size
 by_cases e:t=d
 ·subst e
  simp only [acM,beq_self_eq_true,Option.some.injEq] at b
  subst b
  simp [ahf,hs,c]
 ·have f:(t==d)=false:=by simpa using e
  simp only [acM,f] at b
  have g:=h.slot t u b
  simp only [ahf,acL,Array.getElem?_setIfInBounds_ne (agH e)]
  simpa using g
theorem Fr.sub (h:Fr a n D σ) (hs:σ'.map (λp=>σ.lookup p.1)=σ'.map (λp=>some p.2)):Fr a n D σ':=by
 refine ⟨h.size,h.defers,λt v b=>h.slot t v ?_⟩
 induction σ' with
 |nil=>cases b
 | cons p r d =>
  simp only [acu,List.cons.injEq] at hs
  obtain ⟨k,u⟩:=p
  simp only [acM] at b
  split at b
  ·rename_i c
   rw [beq_iff_eq] at c
   subst c
   rw [hs.1,<-b]
  ·exact d hs.2 b
end
def dU (ops:Array Oper) (σ:List (Nat×Value)) (o:Oper):Option Bool:=
 match o.guard with
 |none=>some true
 | some (j, b) => match (ops[j]?).bind (·.dst) with
  |none=>none
  |some t=>match σ.lookup t with
   |some (.bool c)=>some (c==b)
   |some (.tuple _)=>some false
   |_=>none
def qtm:undef= .tuple #[]:=rfl
def Dz {D:List Deferred} {σ:List (Nat×Value)} {ops:Array Oper} {c:Bool} (h:Fr a n D σ) (d:dU ops σ o=some c):acV o (yielded ops a.tmps)=c:=by
 unfold dU at d
 unfold acV
 cases hg:o.guard with
 |none=>rw [hg] at d;simpa using d
 | some e =>
  obtain ⟨j,b⟩:=e
  rw [hg] at d
  simp only at d⊢
  cases ht:(ops[j]?).bind (·.dst) with
  |none=>rw [ht] at d;cases d
  | some t =>
   rw [ht] at d
   simp only at d
   unfold yielded
   rw [ht]
   simp only [Option.bind_some]
   cases hl:σ.lookup t with
   |none=>rw [hl] at d;cases d
   | some v =>
    rw [hl] at d
    have hs:=h.slot t v hl
    rw [acL] at hs
    cases hx:a.tmps[t]? with
    |none=>
     rw [hx] at hs
     simp only [Option.getD_none] at hs
     subst hs
     rw [qtm] at d
     simp only [Option.some.injEq] at d
     subst d
     rfl
    |some u=>
     rw [hx] at hs
     simp only [Option.getD_some] at hs
     subst hs
     cases u<;>simp only [Option.some.injEq,reduceCtorEq] at d
     ·subst d;rfl
     ·subst d;rfl
def DC (op:BinOp) (k:IntKind) (a b:Int):Option Value:=
 match op with
 | .add=>some (.int k (k.wrap (a+b)))
 | .sub=>some (.int k (k.wrap (a-b)))
 | .mul=>some (.int k (k.wrap (a*b)))
 | .quo=>if b=0 then none else some (.int k (k.wrap (a.tdiv b)))
 | .rem=>if b=0 then none else some (.int k (a.tmod b))
 | .and=>some (.int k (k.wrap (abV k.bits a&&&abV k.bits b).toNat))
 | .or=>some (.int k (k.wrap (abV k.bits a|||abV k.bits b).toNat))
 | .xor=>some (.int k (k.wrap (abV k.bits a^^^abV k.bits b).toNat))
 | .eql=>some (.bool (a==b))
 | .neq=>some (.bool (a !=b))
 | .lss=>some (.bool (a<b))
 | .leq=>some (.bool (a<=b))
 | .gtr=>some (.bool (a>b))
 | .geq=>some (.bool (a>=b))
 |_=>none
def sK (op:BinOp):Value->Value->Option Value
 | .int k a,.int c b=>match op with
  | .shl=>if b<0 then none else some (.int k (k.wrap (a*2^ (min b.toNat k.bits))))
  | .shr=>if b<0 then none else some (.int k (a.fdiv (2^ (min b.toNat k.bits))))
  |_=>if k=c then DC op k a b else none
 | .string a,.string b=>match op with
  | .eql=>some (.bool (a.toList==b.toList))
  | .neq=>some (.bool !(a.toList==b.toList))
  |_=>none
 |_,_=>none
def EO {P : Program} {op : BinOp} {x y v : Value} (h : sK op x y = some v) (t : TypeId) (w : World) : (binOp op t x y).run P w = .ok v w := by
  unfold sK at h
  split at h
  · split at h
    · split at h
      · cases h
      · rename_i b;injection h with h;subst h;simp [binOp,Op.shift,b]
    · split at h
      · cases h
      · rename_i b;injection h with h;subst h;simp [binOp,Op.shift,b]
    · split at h
      · rename_i c
        subst c
        unfold DC at h
        split at h<;>first
          |(injection h with h;subst h;simp [binOp,Op.intArith,Op.intBits,Op.intCmp];done)
          | (split at h
             · cases h
             · rename_i b;injection h with h;subst h;simp [binOp,Op.intDiv,b])
          |cases h
      · cases h
  · split at h
    · injection h with h;subst h;simp [binOp,Op.stringOp]
    · injection h with h;subst h;simp [binOp,Op.stringOp]
    · cases h
  · cases h
def EP:Value->Bool
 | .agg _=>false
 | .nilIface=>false
 |_=>true
def xk {P:Program} (op:BinOp) (t:TypeId) (x y:Operand) {a b:Value} (c:EP a=true) (w:World):(eqGuard op t x y a b).run P w= .ok () w:=by
 unfold eqGuard
 cases a<;>first|exact absurd c (by decide)|(split<;>simp;done)|exact absurd c (by simp [EP])
def DF (P:Program) (s f:Nat):Option Nat:=
 match P.underlying s with
 | some (.struct c) => match c[f]? with
  |some b=>match P.info? b.type with
   |some i=>if i.size=0 then none else some b.offset
   |none=>none
  |none=>none
 |_=>none
def qqp {s f off:Nat} (h:DF P s f=some off) (a:Addr) (w:World):(agQ s (.pointer (some a)) f).run P w= .ok (.pointer (some (a.add off))) w:=by
 unfold DF at h
 split at h
 ·rename_i d b
  split at h
  ·rename_i e c
   split at h
   ·rename_i i hi
    split at h
    ·cases h
    ·rename_i hz
     injection h with h;subst h
     simp [agQ,run_underlying b,c,aee,fieldPlace,sizeOf,typeInfo,hi,hz]
   ·cases h
  ·cases h
 ·cases h
def sM (P:Program) (σ:List (Nat×Value)):Op->Option Value
 | .move x=>look σ x
 | .assign x=>look σ x
 | .pick c a b=>match look σ c with
  |some (.bool true)=>look σ a
  |some (.bool false)=>look σ b
  |_=>none
 | .extract t i=>match look σ t with
  |some (.tuple g)=>g[i]?
  |_=>none
 | .unOp .not _ x=>match look σ x with
  |some (.bool b)=>some (.bool !b)
  |_=>none
 | .binOp op _ x y _=>match look σ x,look σ y with
  |some a,some b=>if EP a then sK op a b else none
  |_,_=>none
 | .convert d e x=>match P.underlying d,P.underlying e,look σ x with
  |some _,some (.int k),some (.int _ m)=>some (.int k (k.wrap m))
  |_,_,_=>none
 | .fieldAddr s x f=>match look σ x,DF P s f with
  |some (.pointer (some a)),some off=>some (.pointer (some (a.add off)))
  |_,_=>none
 |_=>none
def VZ {D:List Deferred} {σ:List (Nat×Value)} (h:Fr a n D σ) {o:Oper} {v:Value} (e:sM P σ o.op=some v) (w:World):(execOp a.eval o).run P w= .ok (.value v) w:=by
 unfold execOp
 unfold sM at e
 split at e
 ·rename_i x d;simp only [d,h.eval e];rfl
 ·rename_i x d;simp only [d,h.eval e];rfl
 ·rename_i c x y d
  split at e
  ·rename_i hc;simp only [d,h.eval hc,h.eval e];rfl
  ·rename_i hc;simp only [d,h.eval hc,h.eval e];rfl
  ·cases e
 ·rename_i t i d
  split at e
  ·rename_i C ht;simp only [d,h.eval ht,Instr.extract,e];rfl
  ·cases e
 ·rename_i t x d
  split at e
  ·rename_i b g;injection e with e;subst e;simp only [d,h.eval g,Op.unary];rfl
  ·cases e
 ·rename_i op t x y u d
  split at e
  ·rename_i p q g j
   split at e
   ·rename_i l
    simp [d,h.eval g,h.eval j,xk op t x y l,EO e t]
   ·cases e
  ·cases e
 ·rename_i r z x d
  split at e
  ·rename_i E k F m hs A g
   injection e with e;subst e
   simp [d,h.eval g,convert,run_underlying hs,run_underlying A,Conv.intToInt]
  ·cases e
 ·rename_i s x f d
  split at e
  ·rename_i G off g B
   injection e with e;subst e
   simp [d,h.eval g,qqp B]
  ·cases e
 ·cases e
abbrev vI (x:Int):Value:= .int .i64 x
abbrev vB (x:Int):Value:= .int .u8 x
abbrev vQ (x:Int):Value:= .int .u64 x
abbrev vW (x:Int):Value:= .int .u32 x
abbrev vP (g o:Nat):Value:= .pointer (some ⟨g,o,none⟩)
abbrev vS (g n c:Nat):Value:= .slice (some ⟨g,0,none⟩) n c
abbrev vN:Value:= .slice none 0 0
theorem om {p:Prop} (h:p:=by omega):p:=h
theorem kr {p:Prop} (h:p:=by kernel_rfl):p:=h
theorem de {p:Prop} (h:p:=by decide):p:=h
inductive Fact
 |blk (g:Nat) (cs:Array Value) (t:TypeId)
 |row (v:Value) (n:Nat) (xs:List Value) (e:TypeId) (size:Nat)
 |obj (g:Nat) (o:Obj)
abbrev abk {α:Type} (A:Option Addr) (l:List α) (c:Nat):Value:= .slice A (abn l) c
abbrev abl {α:Type} (A:Option Addr) (l:List α) (c:Nat) (f:α->Value) (e s:Nat):Fact:= .row (.slice A (abn l) c) (abn l) (l.map f) e s
abbrev abm {α:Type} (A:Option Addr) (l:List α) (c:Nat) (f:α->List Value) (e s:Nat):Fact:= .row (.slice A (abn l) c) (abn l) (l.flatMap f) e s
def Fact.block:Fact->Option Nat
 | .obj g _=>some g
 | .blk g _ _=>some g
 | .row v _ _ _ _=>v.ownBlock
def Fact.holds (base:Nat) (w:World):Fact->Prop
 | .obj g o=>base<=g/\w.heap[g]?=some o
 | .blk g a t=>base<=g/\w.heap[g]?=some (.cells a t (0,0))
 | .row v n xs e size=>w.ownsRow base e size v n xs
def Fact.apart (f g:Fact):Prop:=∀x,f.block=some x->g.block≠some x
structure Mem (W w:World) (fs:List Fact):Prop where
 below:Below W.heap.size W w
 holds:∀f∈fs,f.holds W.heap.size w
 apart:fs.Pairwise Fact.apart
variable {f:Fact}
def Fact.apart.symm {g:Fact} (h:f.apart g):g.apart f:=λx a b=>h x b a
def Od {base:Nat} {e:TypeId} {size:Nat} {v:Value} (h:w.ownsRow base e size v n xs) {g:Nat} (b:v.ownBlock=some g):base<=g/\g<w.heap.size:=by
 rcases h.2 with ⟨rfl,_⟩|⟨d,cap,cur,rfl,c,a,_⟩
 ·cases b
 ·cases b;exact ⟨c,zN a⟩
theorem Fact.holds.lt {base:Nat} (h:f.holds base w) {g:Nat} (a:f.block=some g):base<=g/\g<w.heap.size:=by
 cases f with
 |blk b c t=>injection a with a;subst a;exact ⟨h.1,zN h.2⟩
 |row v n xs e size=>exact Od h a
 |obj b o=>injection a with a;subst a;exact ⟨h.1,zN h.2⟩
def Fact.holds.keep {base:Nat} {w':World} (h:f.holds base w) (hk:∀g,f.block=some g->w'.heap[g]?=w.heap[g]?):f.holds base w':=by
 cases f with
 |obj g o=>exact ⟨h.1,(hk g rfl).trans h.2⟩
 |blk g d t=>exact ⟨h.1,(hk g rfl).trans h.2⟩
 |row v n xs e size=>
  refine ⟨h.1,?_⟩
  rcases h.2 with a|⟨g,cap,cur,rfl,b,c,r⟩
  ·exact .inl a
  ·exact .inr ⟨g,cap,cur,rfl,b,(hk g rfl).trans c,r⟩
section
variable {W w w':World} {fs fs':List Fact}
theorem Mem.start (W:World):Mem W W []:=⟨adX _ _,by simp,.nil⟩
theorem Mem.size (h:Mem W w fs):W.heap.size<=w.heap.size:=h.below.size
theorem Mem.call (h:Mem W w fs) (hb:Below w.heap.size w w'):Mem W w' fs:=
 ⟨h.below.trans (hb.mono h.size),λf a=>(h.holds f a).keep λg b=>hb.block g ((h.holds f a).lt b).2,h.apart⟩
theorem Mem.drew (h:Mem W w fs):Mem W w.drew fs:=h.call (adX _ _).drew
theorem Mem.cons (h:Mem W w fs) {f:Fact} (b:f.holds W.heap.size w) (c:∀g,f.block=some g->∀k∈fs,k.block≠some g):Mem W w (f::fs):=
 ⟨h.below,λk a=>by
  rcases abS.1 a with rfl|a
  ·exact b
  ·exact h.holds k a,aek.2 ⟨λk a g d=>c g d k a,h.apart⟩⟩
theorem Mem.nil (h:Mem W w fs) (e:TypeId) (size:Nat):Mem W w (.row (.slice none 0 0) 0 [] e size::fs):=
 h.cons (World.ownsRow_nil _ _ _ _) (λg a=>by cases a)
theorem Mem.bX (h:Mem W w fs) (hb:Below w.heap.size w w') {e:TypeId} {size n:Nat} {v:Value} {xs:List Value} (hr:w'.ownsRow w.heap.size e size v n xs):Mem W w' (.row v n xs e size::fs):=
 (h.call hb).cons (NW hr h.size) (λg b k c a => by
  have d:=(Od hr b).1
  have f:=((h.holds k c).lt a).2
  omega)
theorem Mem.alloc (h:Mem W w fs) (b:Array Value) (t:TypeId):Mem W (w.alloc (.cells b t)) (.blk w.heap.size b t::fs):=
 (h.call ((adX _ _).alloc (abr _) _)).cons ⟨h.size, ad2 w _⟩ (λg c k d a => by
  injection c with c
  have e:=((h.holds k d).lt a).2
  omega)
theorem Mem.mP (h:Mem W w fs) (o:Obj):Mem W (w.alloc o) (.obj w.heap.size o::fs):=
 (h.call ((adX _ _).alloc (abr _) _)).cons ⟨h.size, ad2 w _⟩ (λg b k c a => by
  injection b with b
  have d:=((h.holds k c).lt a).2
  omega)
def picks (fs:List Fact) (a:List Nat):List Fact:=a.filterMap (fs[·]?)
def K6 (h:fs.Pairwise Fact.apart):∀{l:List Nat},l.Nodup->(picks fs l).Pairwise Fact.apart
 |[],_=> .nil
 | i :: l, g => by
  rw [afi] at g
  unfold picks
  rw [List.filterMap_cons]
  cases hi:fs[i]? with
  |none=>exact K6 h g.2
  | some f =>
   refine aek.2 ⟨λk p=>?_,K6 h g.2⟩
   obtain ⟨j,q,m⟩:=afe.1 p
   have n:i≠j:=λe=>g.1 (e▸q)
   obtain ⟨a,b⟩:=abB.1 hi
   obtain ⟨c,d⟩:=abB.1 m
   rcases agl n with o|o
   ·have:=acv.1 h i j a c o
    rwa [b,d] at this
   ·have:=acv.1 h j i c a o
    rw [b,d] at this
    exact this.symm
theorem Mem.picks (h:Mem W w fs) (a:List Nat) (b:a.Nodup) (c:picks fs a=fs'):Mem W w fs':=by
 subst c
 refine ⟨h.below,λf d=>?_,K6 h.apart b⟩
 obtain ⟨j,_,e⟩:=afe.1 d
 exact h.holds f (abH e)
theorem Mem.tail (h:Mem W w (f::fs)):Mem W w fs:=⟨h.below,λk a=>h.holds k (acd _ a),(aek.1 h.apart).2⟩
theorem Mem.turn (h:Mem W w fs) {i:Nat} {f s:Fact} (hi:fs[i]?=some f) (hb:Below W.heap.size W w') (hk:∀g,g<w.heap.size->f.block≠some g->w'.heap[g]?=w.heap[g]?)
  (B:s.holds W.heap.size w') (C:∀g,s.block=some g->f.block=some g\/w.heap.size<=g):Mem W w' (fs.set i s):=by
 obtain ⟨n,o⟩:=abB.1 hi
 have a:∀j (b:j<abn fs),j≠i->Fact.apart fs[j] f/\Fact.apart f fs[j]:=λj b l=>by
  rcases agl l with m|m
  ·have:=acv.1 h.apart j i b n m
   rw [o] at this
   exact ⟨this,this.symm⟩
  ·have:=acv.1 h.apart i j n b m
   rw [o] at this
   exact ⟨this.symm,this⟩
 have d:∀j (b:j<abn fs),j≠i->Fact.apart s fs[j]:=λj b l g t r=>by
  rcases C g t with m|m
  ·exact (a j b l).2 g m r
  ·have:=((h.holds _ (ac5 b)).lt r).2
   omega
 refine ⟨hb,λk u=>?_,?_⟩
 ·obtain ⟨j,b,c⟩:=aco u
  rw [ae8] at c
  rw [abJ] at b
  split at c
  ·subst c;exact B
  ·rename_i v
   subst c
   have A:=h.holds _ (ac5 b)
   exact A.keep λg t=>hk g (A.lt t).2 (λe=>(a j b (agH v)).1 g t e)
 ·rw [acv]
  intro p q x y z
  rw [abJ] at x y
  rw [ae8,ae8]
  split
  ·rename_i e
   subst e
   rw [if_neg (by omega)]
   exact d q y (by omega)
  ·split
   ·rename_i e
    subst e
    exact (d p x (by omega)).symm
   ·exact acv.1 h.apart p q x y z
theorem Mem.blk (h:Mem W w fs) {i g:Nat} {C:Array Value} {t:TypeId} (hi:fs[i]?=some (.blk g C t)):w.heap[g]?=some (.cells C t (0,0)):=(h.holds _ (abH hi)).2
theorem Mem.cell (h:Mem W w fs) {i g o:Nat} {C:Array Value} {t:TypeId} {v:Value} (hi:fs[i]?=some (.blk g C t)) (hc:C[o]?=some v):w.cell? ⟨g,o,none⟩=some v:=by
 simp [aea,h.blk hi,hc]
theorem Mem.own (h:Mem W w fs) {i:Nat} {v:Value} {n:Nat} {xs:List Value} {e:TypeId} {size:Nat} (hi:fs[i]?=some (.row v n xs e size)):w.ownsRow W.heap.size e size v n xs:=h.holds _ (abH hi)
theorem Mem.rd (h:Mem W w fs) {i:Nat} {A:Option Addr} {n c:Nat} {xs:List Value} {e:TypeId} {size:Nat} (hi:fs[i]?=some (.row (.slice A n c) n xs e size)):Rd w w.heap.size size A n xs:=abj (h.own hi) rfl
theorem Mem.old (h:Mem W w fs) {size:Nat} {A:Option Addr} {n:Nat} {xs:List Value} (hr:Rd W W.heap.size size A n xs):Rd w w.heap.size size A n xs:=(hr.below h.below).more h.size
def abe {w:World} (hb:w.heap[g]?=some (.cells C t (0,0))) {size n:Nat} (a:C.size=n*size):Rd w w.heap.size size (some ⟨g,0,none⟩) n C.toList:=
 ⟨by simpa using a,λ_=>⟨_,rfl,zN hb,λj u b=>by
  rw [acC,ab7]
  simp only [aea,hb]
  simpa using b⟩⟩
theorem Mem.bB (h:Mem W w fs) {i g:Nat} {C:Array Value} {t:TypeId} {size n:Nat} (hi:fs[i]?=some (.blk g C t)) (a:C.size=n*size):Rd w w.heap.size size (some ⟨g,0,none⟩) n C.toList:=abe (h.blk hi) a
theorem Mem.fu (h:Mem W w fs) {i g:Nat} {C:Array Value} {e:TypeId} {size n:Nat} (hi:fs[i]?=some (.blk g C e)) (a:C.size=n*size) (hm:n<=9223372036854775807):Mem W w (fs.set i (.row (.slice (some ⟨g,0,none⟩) n n) n C.toList e size)):=by
 have c:=h.holds _ (abH hi)
 refine h.turn hi h.below (λ_ _ _=>rfl) ⟨by simpa using a,.inr ⟨g,n,C,rfl,c.1,c.2,abr _,by unfold maxLen;exact hm,a,?_⟩⟩ (λd b=> .inl b)
 rw [<-a,<-Array.length_toList,List.take_length]
theorem Mem.set (h:Mem W w fs) {i g o:Nat} {C:Array Value} {t:TypeId} (hi:fs[i]?=some (.blk g C t)) (v:Value):Mem W (w.setCell ⟨g,o,none⟩ v) (fs.set i (.blk g (C.setIfInBounds o v) t)):=by
 have a:=h.holds _ (abH hi)
 refine h.turn hi (h.below.setCell (p:=⟨g,o,none⟩) a.1 v) (λk d b=>?_) ⟨a.1,?_⟩ (λf c=> .inl c)
 ·exact afZ _ _ _ _ (λe=>b (by rw [e];rfl))
 ·simp [aft,aeH,a.2]
theorem Mem.Bo (h:Mem W w fs) {i g:Nat} {C ds:Array Value} {t:TypeId} (hi:fs[i]?=some (.blk g C t)) (hs:C.size=ds.size):Mem W (w.setCells g 0 ds.toList) (fs.set i (.blk g ds t)):=by
 have a:=h.holds _ (abH hi)
 refine h.turn hi (below_setCells h.below a.1 0 _) (λk d b=>?_) ⟨a.1,?_⟩ (λf c=> .inl c)
 ·exact KW _ _ _ _ _ (λe=>b (by rw [e];rfl))
 ·have:=qg2 a.2 ds.toList (by simpa using hs)
  simpa using this
theorem Mem.append (h:Mem W w fs) {i n:Nat} {v z:Value} {xs ys:List Value} {e:TypeId} {size c:Nat} (hi:fs[i]?=some (.row v n xs e size)) (l:w'.ownsRow W.heap.size e size z c ys) (k:w.grownBy w' v.ownBlock)
  (hb:z.ownBlock=v.ownBlock\/z.ownBlock=some w.heap.size):Mem W w' (fs.set i (.row z c ys e size)):=by
 have m:=h.own hi
 refine h.turn hi (h.below.grown k h.size (λg b=>(Od m b).1)) (λg d f=>k.block g d (λe=>f e.symm)) l (λg b=>?_)
 have a:z.ownBlock=some g:=b
 rcases hb with j|j
 ·exact .inl (show v.ownBlock=some g by rw [<-j];exact a)
 ·rw [j] at a;injection a with e;exact .inr (by omega)
end
theorem q90 (e:Ev):abn e.vals<=4:=by unfold Ev.vals;rw [abx];exact zO _
def iE:SI abo 110 2:=⟨by kernel_rfl,by kernel_rfl⟩
def qR (e:Ev):∀v∈e.cells.toList,v.oneCell'=true:=by intro v a;simp [Ev.cells] at a;rcases a with rfl|rfl|rfl|rfl|rfl|rfl|rfl|rfl|rfl|rfl|rfl<;>rfl
def K7 (b:Bs):∀v∈b.cells.toList,v.oneCell'=true:=by intro v a;simp [Bs.cells] at a;rcases a with rfl|rfl<;>rfl
def eD (e:Ev):List Value:=e.cells.toList
def qU (e:Ev):abn (eD e)=11:=rfl
def ER (b:Bs) (l:List Ev):Nat->Bs
 |0=>b
 |k+1=>match l[k]? with|some e=>e.at|none=>b
def V3:∀(l:List Ev) (p:Option Ev) (i:Nat),(iD p i l).2=0->(∀e∈l,e.check=0)/\(∀e,l.head?=some e->p.all (λq=>e.after q)=true)/\(∀k (h:k+1<abn l),l[k+1].after l[k]=true)
 |[],_,_,_=>⟨by simp,by simp,by simp⟩
 | e :: r, p, i, h => by
  rw [iD] at h
  split at h
  ·rename_i b;exact absurd h b
  ·rename_i b
   split at h
   ·simp at h
   ·rename_i d
    obtain ⟨f,g,j⟩:=V3 r (some e) (i+1) h
    refine ⟨?_,?_,?_⟩
    ·intro x a
     rcases abS.1 a with rfl|a
     ·simpa using b
     ·exact f x a
    ·intro x a
     simp at a;subst a;simpa using d
    ·intro k c
     cases k with
     |zero=>
      cases r with
      |nil=>simp at c
      |cons y r=>exact by simpa using g y rfl
     |succ k=>exact j k (by simpa using c)
theorem qtn (h:e.check=0):e.at.right=true:=by simp_all [Bs.right,Ev.at,qc5]
theorem qqr {q:Ev} (h:e.after q=true):q.at.behind e=true:=by grind [Bs.behind,Ev.after,Ev.at]
def q91 {b:Bs} {l:List Ev} (hr:(iU l).2=0) (hb:b.right=true) (c:l.head?.all b.behind=true) (k:Nat) (hk:k<abn l):sI (ER b l k) l[k]=0:=by
 obtain ⟨a,_,d⟩:=V3 l none 0 hr
 unfold sI
 rw [if_neg (by simp [a l[k] (ac5 _)]),if_pos]
 cases k with
 |zero=>
  refine ⟨hb,?_⟩
  cases l with
  |nil=>simp at hk
  |cons y r=>show b.behind y=true;simpa using c
 |succ k=>
  have e:ER b l (k+1)=l[k].at:=by show (match l[k]? with|some e=>e.at|none=>b)=_;rw [abq om]
  rw [e]
  exact ⟨qtn (a l[k] (ac5 _)),qqr (d k hk)⟩
theorem zgs (b:Bs) (e:Ev):abn (zh b e)<=61:=by grind [zq,zh,xY,q90]
theorem q25:∀(j:Nat) (l:List Nat),(aV j l).2.1<=abn l:=by intro x;induction x<;>grind [aV,aD,xg]
theorem V4 (b:Bs) (cpu:Nat) (l:List Nat):(bq b cpu l).2.1<=abn l/\((bq b cpu l).2.2=0->0<(bq b cpu l).2.1):=by grind [q25,sJ,bq,aB]
def rM:EI abo 83 73 (.agg Ev.zero.cells) 11 80:=⟨by kernel_rfl,by kernel_rfl,rfl,by omega⟩
def iO (es:List Ev) (a:Nat) (q:List Ev×Nat×Nat):List Ev×Nat×Nat:=if q.2.2≠0 then ([],0,q.2.2) else (es++q.1,a+q.2.1,0)
theorem q26 {cpu j:Nat} {b:Bs} {p:Option Ev} {er:Nat} (d:bq b cpu l=(e,c,er)) (h:er≠0) (es:List Ev) (a:Nat):iO es a (qy cpu (j+1) b p l)=([],0,er):=by grind [iO,qy]
def qzp {cpu j:Nat} {b:Bs} {p:Option Ev} (d:bq b cpu l=(e,c,0)) (f:p.any (λq=>decide (e.seq=q.seq))=true) (es:List Ev) (a:Nat):iO es a (qy cpu (j+1) b p l)=([],0,71):=by
 have e1:qy cpu (j+1) b p l=([],0,71):=by rw [qy,d,if_neg (by simp),if_pos f]
 rw [e1];rfl
theorem qzq {cpu j:Nat} {b:Bs} {p:Option Ev} (d:bq b cpu l=(e,c,0)) (f:p.any (λq=>decide (e.seq=q.seq))=false) (es:List Ev) (a:Nat):iO es a (qy cpu (j+1) b p l)=iO (es++[e]) (a+c) (qy cpu j e.at (some e) (l.drop c)):=by grind [iO,qy]
theorem qzr (cpu:Nat):∀(j:Nat) (b:Bs) (p:Option Ev) (l:List Nat),(qy cpu j b p l).2.2≠0->qy cpu j b p l=([],0,(qy cpu j b p l).2.2):=by intro x;cases x<;>grind [qy]
theorem q27 (cpu j:Nat) (b:Bs) (p:Option Ev) (l:List Nat):iO [] 0 (qy cpu j b p l)=qy cpu j b p l:=by grind [iO,qy,qzr]
def Oe (m:Int) (l:List Nat):Prop:=m<=1000000000000\/abn l<=1000000000000
def V5 {l:List Ev} (h:Rd w B 11 A n (l.flatMap eD)):abn l=n:=by
 have a:=h.len
 have c:abn (l.flatMap eD)=abn l*11:=by
  clear h a
  induction l with
  |nil=>rfl
  |cons e l b=>rw [abK,abp,b,qU,abT];omega
 omega
variable {fs:List Fact}
theorem Laid.mem (h:Laid B W) (a:Mem W w fs) (b:B<=W.heap.size):Laid B w:=h.below a.below b
section
open Go.ChangeShapes Go.WideShapes Go.ChangeAt
def ES (P:Program) (t:TypeId) (a:List acj):Bool:=match P.underlying t with
 |some (.struct b)=>decide (b.size=abn a)&&decide (P.cellsOf t=abn a)&& (acp (abn a)).all λi=>match b[i]?,a[i]? with
  |some f,some k=>decide (f.offset=i)&&decide (P.cellsOf f.type=1)&& (match P.underlying f.type with|some (TypeDesc.int c)=>decide (c=k)|_=>false)
  |_,_=>false
 |_=>false
section
variable {H:Type} {enc:TypeId×Value->H} {P:Program} {W:World} {b0:Nat} {sp:Nat->Bool} {held:Bool}
def Og {g:List acj} (b:ES P t g=true) {c:Nat} {B:List Value} {x:DataW H×List MemPlace} (h:adI enc P W b0 sp held c t B=some x):
  abn B=abn g/\∀(i:Nat) (k:acj),g[i]?=some k->∃z:Int,B[i]?=some (abO k z)/\(aeM k z).wf=true:=by
 unfold ES at b
 split at b
 ·rename_i E s
  simp only [abG,decide_eq_true_eq,ab3,aeA] at b
  obtain ⟨⟨F,G⟩,u⟩:=b
  obtain ⟨xs,n,_,_,I,J,y⟩:=aga s h
  refine ⟨by omega,λi k r=>?_⟩
  have hi:i<abn g:=(abB.1 r).1
  have e:=u i hi
  rw [r] at e
  split at e
  ·rename_i f K j l
   cases l
   simp only [abG,decide_eq_true_eq] at e
   obtain ⟨⟨A,hc⟩,a⟩:=e
   split at a
   ·rename_i C m
    simp only [decide_eq_true_eq] at a
    subst a
    have o:=y i f j
    rw [A,hc] at o
    have q:i<abn xs:=by omega
    rw [abq q] at o
    obtain ⟨z,hz,_,D⟩:=DataW.trod_int m o
    refine ⟨z,?_,D⟩
    have:=congrArg (·[0]?) hz
    simpa [adv,ade] using this
   ·cases a
  ·cases e
 ·cases b
end
def Oh {a:Int} (h:(aeM .u16 a).wf=true):0<=a/\a<=65535:=by
 simpa [agk,aex,aey,ad1,aej] using h
def uI {a:Int} (h:(aeM .u32 a).wf=true):0<=a/\a<=4294967295:=by
 simpa [agk,aex,aey,ad1,aej] using h
def zk7 {a:Int} (h:(aeM .u64 a).wf=true):0<=a/\a<=18446744073709551615:=by
 simpa [agk,aex,aey,ad1,aej] using h
def ET {α:Type} {l m:List α} (h1:abn l=abn m) (h:∀i,i<abn m->l[i]?=m[i]?):l=m:=by
 refine List.ext_getElem? λi=>?_
 by_cases hi:i<abn m
 ·exact h i hi
 ·rw [adL om,adL om]
section
variable {H:Type} {enc:TypeId×Value->H} {W:World} {b0:Nat} {v:Value} {d:DataW H} {p:List MemPlace}
end
section
variable {H:Type} {enc:TypeId×Value->H} {P:Program} {w:World} {base:Nat} {spare:Nat->Bool} {held:Bool}
end
section
variable {H:Type} {enc:TypeId×Value->H} {W:World} {b0:Nat} {v:Value} {d:DataW H} {p:List MemPlace}
end
section
variable {H:Type} {enc:TypeId×Value->H} {W:World} {b0:Nat} {v:Value} {d:DataW H} {p:List MemPlace}
end
def fieldAt (P:Program) (t:TypeId) (i off:Nat) (u:TypeId):Bool:=match P.underlying t with
 |some (.struct a)=>match a[i]? with
  |some f=>decide (f.offset=off)&&decide (f.type=u)
  |none=>false
 |_=>false
section
variable {H:Type} {enc:TypeId×Value->H} {P:Program} {W:World} {b0:Nat} {sp:Nat->Bool} {held:Bool}
def q6 {u:TypeId} {off:Nat} (a:fieldAt P t i off u=true) {c:Nat} {B:List Value} {x:DataW H×List MemPlace} (h:adI enc P W b0 sp held c t B=some x):
  abn B=P.cellsOf t/\∃n y,adI enc P W b0 sp held n u ((B.drop off).take (P.cellsOf u))=some y:=by
 unfold fieldAt at a
 split at a
 ·rename_i g j
  split at a
  ·rename_i f b
   simp only [abG,decide_eq_true_eq] at a
   obtain ⟨xs,n,_,_,k,m,l⟩:=aga j h
   refine ⟨k,n,?_⟩
   have e:=l i f b
   have hi:i<g.size:=(acP.1 b).1
   rw [abq om,a.1,a.2] at e
   exact ⟨_,e⟩
  ·cases a
 ·cases a
end
section
variable {H:Type} {enc:TypeId×Value->H} {W:World} {b0:Nat} {v:Value} {d:DataW H} {p:List MemPlace}
def zgt:List acj:=[.i64,.i64]
def q29:ES abo 110 zgt=true:=by kernel_rfl
def uJ {B:List Value} {off:Nat} {u:Value} (h:(B.drop off).take 1=[u]):B[off]?=some u:=by
 have:=congrArg (·[0]?) h
 simpa [adv,ade] using this
end
end
def qi (P:Program) (ops:Array Oper) (Q:Exit->Act->World->Prop) (i:Nat) (a:Act) (w:World):Prop:=wpList P ops Q (ops.toList.drop i) a w
def Yl (P:Program) (S:World->Prop) (σ:List (Nat×Value)) (o:Oper) (v:Value):Prop:=∀(a:Act) (n:Nat) (D:List Deferred),Fr a n D σ->∀w,S w->(execOp a.eval o).run P w= .ok (.value v) w
section
variable {P:Program} {ops:Array Oper} {Q:Exit->Act->World->Prop} {a:Act} {w:World} {n i j d fuel:Nat} {D:List Deferred} {σ σ':List (Nat×Value)} {o:Oper} {v:Value} {md:Region.Mode} {S:World->Prop} {K:Act->World->Prop} {listed:Array Bool}
def zn {id:Nat} (h:qi P ops Q 0 a w):(ad5 id ops false).wp P Q a w:=wp_region_list (by simpa [qi] using h)
def xZ (hi:ops.size=i) (h:Q .normal a w):qi P ops Q i a w:=by
 unfold qi
 rw [ab9 (by simp [hi])]
 exact h
def EU (Z:Fr a n D σ) (b:ops[i]?=some o) (c:dU ops σ o=some true) (h:o.wp P a w (qi P ops Q (i+1)) Q):qi P ops Q i a w:=by
 obtain ⟨e,f⟩:=acP.1 b
 unfold qi
 rw [ace (by simpa using e),ad3,f]
 unfold wpList
 rw [if_pos (Dz Z c)]
 exact .inl h
def q3a (Z:Fr a n D σ) (e:ops[i]?=some o) (f:dU ops σ o=some false) (g:o.dst=some d) (b:d<n) (k:∀c,Fr c n D ((d,undef)::σ)->qi P ops Q (i+1) c w):qi P ops Q i a w:=by
 obtain ⟨h,l⟩:=acP.1 e
 unfold qi
 rw [ace (by simpa using h),ad3,l]
 unfold wpList
 rw [if_neg (by rw [Dz Z f];simp),g]
 exact k _ (Z.put b _)
def Yl.wp (hy:Yl P S σ o v) (Z:Fr a n D σ) (e:S w) (f:o.dst=some d) (b:d<n) (k:∀c,Fr c n D ((d,v)::σ)->K c w):o.wp P a w K Q:=by
 unfold acN
 rw [hy a n D Z w e,Oper.upon_value,f]
 exact k _ (Z.put b _)
def K8 (Z:Fr a n D σ) (e:S w) (f:ops[i]?=some o) (g:dU ops σ o=some true) (h:o.dst=some d) (b:d<n) (hy:Yl P S σ o v) (k:∀c,Fr c n D ((d,v)::σ)->qi P ops Q (i+1) c w):qi P ops Q i a w:=
 EU Z f g (hy.wp Z e h b k)
def Yl.pure (h:sM P σ o.op=some v):Yl P S σ o v:=λ_ _ _ Z w _=>VZ Z h w
def zP (P:Program) (ops:Array Oper) (n i:Nat) (σ:List (Nat×Value)):Option (List (Nat×Value)):=
 match ops[i]? with
 |none=>none
 | some o => match dU ops σ o, o.dst with
  |some true,some d=>if d<n then match sM P σ o.op with
   |some v=>some ((d,v)::σ)
   |none=>none else none
  |some false,some d=>if d<n then some ((d,undef)::σ) else none
  |_,_=>none
def zt (P:Program) (ops:Array Oper) (n:Nat):Nat->Nat->List (Nat×Value)->Option (List (Nat×Value))
 |0,_,σ=>some σ
 |m+1,i,σ=>match zP P ops n i σ with
  |none=>none
  |some σ'=>zt P ops n m (i+1) σ'
def Oi:∀(m i:Nat) {j:Nat} {a:Act} {σ:List (Nat×Value)},Fr a n D σ->zt P ops n m i σ=some σ'->i+m=j->(∀g,Fr g n D σ'->qi P ops Q j g w)->qi P ops Q i a w
 |0,i,j,a,σ,Z,h,r,k=>by
  injection h with h
  subst h
  have e:i=j:=r
  subst e
  exact k a Z
 | m + 1, i, j, a, σ, Z, h, r, k => by
  unfold zt at h
  split at h
  ·cases h
  ·rename_i σ1 b
   have c:=λg l=>Oi m (i+1) (a:=g) (σ:=σ1) l h om k
   unfold zP at b
   split at b
   ·cases b
   ·rename_i o s
    split at b
    ·rename_i d p q
     split at b
     ·rename_i f
      split at b
      ·rename_i v t
       injection b with b
       subst b
       exact K8 (S:=λ_=>True) Z trivial s p q f (Yl.pure t) c
      ·cases b
     ·cases b
    ·rename_i d p q
     split at b
     ·rename_i f
      injection b with b
      subst b
      exact q3a Z s p q f c
     ·cases b
    ·cases b
def Fr.sp {v:Value} (h:Fr a n D σ) (t:Nat) (u:Value) (c:σ.lookup t=some v) (e:v=u):Fr a n D ((t,u)::σ):=by
 subst e
 refine ⟨h.size,h.defers,λs x b=>?_⟩
 rw [acM] at b
 split at b
 ·rename_i hs
  rw [beq_iff_eq] at hs
  subst hs
  injection b with b
  subst b
  exact h.slot _ _ c
 ·exact h.slot _ _ b
theorem Fr.to (h:Fr a n D σ) (σ':List (Nat×Value)) (hs:σ'.map (λp=>σ.lookup p.1)=σ'.map (λp=>some p.2):=by kernel_rfl):Fr a n D σ':=h.sub hs
def Fr.on {b c:Bool} (h:Fr a n D σ) (t:Nat) (hb:b=c) (f:σ.lookup t=some (.bool b):=by rfl):Fr a n D ((t,.bool c)::σ):=by
 subst hb
 refine ⟨h.size,h.defers,λs x e=>?_⟩
 rw [acM] at e
 split at e
 ·rename_i hs
  rw [beq_iff_eq] at hs
  subst hs
  injection e with e
  subst e
  exact h.slot _ _ f
 ·exact h.slot _ _ e
def Fr.tf {b:Bool} (h:Fr a n D σ) (t:Nat) (c:σ.lookup t=some (.bool b)):(b=true/\Fr a n D ((t,.bool true)::σ))\/(b=false/\Fr a n D ((t,.bool false)::σ)):=by
 cases b
 ·exact .inr ⟨rfl,h.on t rfl c⟩
 ·exact .inl ⟨rfl,h.on t rfl c⟩
def V6 {i:Nat} {s:List (Nat×Value)} (h:zP P ops n i σ=some s):∃p,s=p::σ:=by
 unfold zP at h
 split at h
 ·cases h
 ·split at h
  ·split at h
   ·split at h
    ·injection h with h;exact ⟨_,h.symm⟩
    ·cases h
   ·cases h
  ·split at h
   ·injection h with h;exact ⟨_,h.symm⟩
   ·cases h
  ·cases h
def V7:∀(m i:Nat) {σ s:List (Nat×Value)},zt P ops n m i σ=some s->∃full,s=full++σ
 |0,_,σ,s,h=>by injection h with h;exact ⟨[],h.symm⟩
 | m + 1, i, σ, s, h => by
  cases h1:zP P ops n i σ with
  |none=>rw [zt,h1] at h;cases h
  |some s1=>
   rw [zt,h1] at h
   obtain ⟨p,rfl⟩:=V6 h1
   obtain ⟨full,b⟩:=V7 m (i+1) h
   exact ⟨full++[p],by rw [b];simp⟩
def thin (s σ new:List (Nat×Value)):Bool:=(s.take (abn s-abn σ)).all λp=>(new.any λq=>q.1==p.1)|| !(σ.any λq=>q.1==p.1)
def EW {t:Nat}:∀{l m:List (Nat×Value)},(l++m).lookup t=match l.lookup t with|some v=>some v|none=>m.lookup t
 |[],m=>rfl
 |q::l,m=>by
  rw [aeD,acM,acM]
  split
  ·rfl
  ·exact EW
def qbv {t:Nat} {v:Value}:∀{l:List (Nat×Value)},l.lookup t=some v->(l.any λq=>q.1==t)=true
 |[],h=>by cases h
 | q :: l, h => by
  rw [acM] at h
  split at h
  ·rename_i b
   rw [beq_iff_eq] at b
   simp [b]
  ·simp only [List.any_cons,adM]
   exact .inr (qbv h)
def K9 {t:Nat} {l:List (Nat×Value)} (h:(l.any λq=>q.1==t)=true):∃p∈l,p.1=t:=by
 rw [aen] at h
 obtain ⟨p,b,c⟩:=h
 exact ⟨p,b,by simpa using c⟩
theorem Fr.thin {s full new:List (Nat×Value)} (h:Fr a n D s) (hs:s=full++σ) (ht:Go.Proofs.YtekiimhdnigmcaaGreatDoor.thin s σ new=true) (y:new.map (λp=>s.lookup p.1)=new.map (λp=>some p.2)):Fr a n D (new++σ):=by
 have z:=h.sub y
 refine ⟨h.size,h.defers,λt v b=>?_⟩
 rw [EW] at b
 cases hl:new.lookup t with
 |some u=>
  rw [hl] at b
  injection b with b
  subst b
  exact z.slot t u hl
 | none =>
  rw [hl] at b
  have b:σ.lookup t=some v:=b
  refine h.slot t v ?_
  rw [hs,EW]
  cases hf:full.lookup t with
  |none=>exact b
  | some u =>
   exfalso
   unfold Go.Proofs.YtekiimhdnigmcaaGreatDoor.thin at ht
   have c:s.take (abn s-abn σ)=full:=by rw [hs,abp,aeI];exact List.take_left
   rw [c,ab3] at ht
   obtain ⟨p,f,g⟩:=K9 (qbv hf)
   have:=ht p f
   rw [g,qbv b] at this
   simp only [Bool.not_true,Bool.or_false] at this
   obtain ⟨q,k,m⟩:=K9 this
   have A:new.lookup t≠none:=by
    intro B
    have C:∀(l:List (Nat×Value)),q∈l->l.lookup t≠none:=by
     intro l
     induction l with
     |nil=>intro e;cases e
     | cons r l E =>
      intro e
      rw [acM]
      split
      ·simp
      ·rename_i x
       rcases abS.1 e with rfl|e
       ·exfalso;rw [m] at x;simp at x
       ·exact E e
    exact C new k B
   exact A hl
def fp (Z:Fr a n D σ) (m i:Nat) (new:List (Nat×Value)) (k:∀b,Fr b n D (new++σ)->qi P ops Q (i+m) b w) (h:(zt P ops n m i σ).map (λs=>(thin s σ new,new.map λp=>s.lookup p.1))=some (true,new.map λp=>some p.2):=by kernel_rfl):qi P ops Q i a w:=by
 cases hs:zt P ops n m i σ with
 |none=>rw [hs] at h;cases h
 |some s=>
  rw [hs] at h
  injection h with h
  injection h with e f
  obtain ⟨full,g⟩:=V7 m i hs
  exact Oi m i Z hs rfl λb c=>k b (c.thin g e f)
def fo (Z:Fr a n D σ) (i:Nat) (b:ops[i]?=some o) (c:dU ops σ o=some true) (h:o.wp P a w (qi P ops Q (i+1)) Q):qi P ops Q i a w:=EU Z b c h
def fy (Z:Fr a n D σ) (f:Mem W w fs) (i:Nat) (g:ops[i]?=some o) (h:dU ops σ o=some true) (l:o.dst=some d) (hy:Yl P (λb=>Mem W b fs) σ o v) (k:∀e,Fr e n D ((d,v)::σ)->qi P ops Q (i+1) e w) (c:d<n:=by decide):qi P ops Q i a w:=
 K8 (S:=λb=>Mem W b fs) Z f g h l c hy k
def dV (ex:List Nat) (listed:Array Bool):Bool:=ex.any λj=>listed.getD j false
def qk (P:Program) (md:adY) (ops:Array Oper) (Q:Exit->Act->World->Prop) (S:World->Prop) (ex:List Nat):Nat->Array Bool->Act->World->Prop
 |0,listed,a,w=>acz md ops listed=[]/\Q .normal a w
 |fuel+1,listed,a,w=>
  (acz md ops listed=[]->Q .normal a w)/\
  ∀i∈acz md ops listed,wpOp P ops Q i (λc b=>(dV ex (listed.setIfInBounds i true)=false->S b)/\qk P md ops Q S ex fuel (listed.setIfInBounds i true) c b) a w
theorem La {ex:List Nat}:∀(fuel:Nat) (listed:Array Bool) (a:Act) (w:World),qk P md ops Q S ex fuel listed a w->wpAny P md ops Q fuel listed a w
 |0,_,_,_,h=>h
 |fuel+1,_,_,_,h=>⟨h.1,λi hi=>wpOp_mono (λb c e=>La fuel _ b c e.2) (h.2 i hi)⟩
def Bp (md:adY) (ops:Array Oper) (ex:List Nat) (i:Nat):Bool:=ex.all λj=>match ops[j]? with
 |some o=>o.after.any λe=>aeU md e&&e.on==i
 |none=>true
def V8 {l:Array Bool} {i:Nat} (h:ex.contains i=false):dV ex (l.setIfInBounds i true)=dV ex l:=by
 unfold dV
 rw [abY,aen,aen]
 have c:∀j∈ex,i≠j:=λj b e=>by
  subst e
  have:ex.contains i=true:=by simpa using b
  rw [h] at this;cases this
 constructor
 ·rintro ⟨j,b,f⟩;exact ⟨j,b,by rwa [getD_set_ne false (c j b)] at f⟩
 ·rintro ⟨j,b,f⟩;exact ⟨j,b,by rwa [getD_set_ne false (c j b)]⟩
def Oj {l:Array Bool} {i:Nat} (h:dV ex (l.setIfInBounds i true)=false):dV ex l=false:=by
 cases hp:dV ex l with
 |false=>rfl
 |true=>
  unfold dV at h hp
  obtain ⟨j,b,c⟩:=aen.1 hp
  rw [List.any_eq_false] at h
  exact absurd (getD_set_true (i:=i) c) (h j b)
def Ol {t:Oper} {T:World->Prop} (hi:ops[i]?=some t) (q:∀(j:Nat) (o:Oper) A b,ops[j]?=some o->o.op≠ .select A b)
  (hQ:∀c (a:Act) w,Q (.panic c) (a.put t.dst v) w->Q (.panic c) a w) (B:ex.contains i=false):
  ∀(fuel:Nat) (listed:Array Bool) (a:Act) (w:World),((∀w,T w)\/(T=S/\Bp md ops ex i=true/\dV ex listed=false))->
   (∀j u,ops[j]?=some u->j≠i->listed.getD j true=false->(∀e∈u.after,aeU md e=true->e.on≠i)->t.apart ops u=true)->
   i∈acz md ops listed->YieldsIf P ops T t v a->(dV ex listed=false->S w)->
   qk P md ops Q S ex fuel (listed.setIfInBounds i true) (a.put t.dst v) w->qk P md ops Q S ex (fuel+1) listed a w:=by
 intro fuel
 induction fuel with
 | zero =>
  intro listed a w M _ x N C H
  have R:T w:=by rcases M with h|⟨h,_,l⟩<;>first|exact h w|(rw [h];exact C l)
  refine ⟨λh=>(by rw [h] at x;cases x),λj O=>?_⟩
  by_cases f:j=i
  ·subst f;exact N.wpOp hi R ⟨λl=>C (Oj l),H⟩
  ·have:=ready_mono O f
   rw [H.1] at this
   cases this
 | succ fuel ih =>
  intro listed a w M g x N C H
  have R:T w:=by rcases M with h|⟨h,_,l⟩<;>first|exact h w|(rw [h];exact C l)
  refine ⟨λh=>(by rw [h] at x;cases x),λj O=>?_⟩
  by_cases f:j=i
  ·subst f;exact N.wpOp hi R ⟨λl=>C (Oj l),H⟩
  ·have y:=H.2 j (ready_mono O f)
   obtain ⟨r,u,m,E⟩:=mem_ready.1 O
   have s:∀e∈u.after,aeU md e=true->e.on≠i:=λe U F heq=>by
    have y:=E e U F
    have Z:=(mem_ready.1 x).1
    rw [heq] at y
    rcases ab5 i listed.size with V|V
    ·simp [V] at Z y;rw [Z] at y;cases y
    ·simp [Array.getElem?_eq_none V] at y
   have W:(∀w,T w)\/(T=S/\Bp md ops ex i=true/\dV ex (listed.setIfInBounds j true)=false):=by
    rcases M with h|⟨h,z,G⟩
    ·exact .inl h
    ·refine .inr ⟨h,z,?_⟩
     rw [V8 ?_]
     ·exact G
     ·cases hc:ex.contains j with
      |false=>rfl
      |true=>
       have hm:j∈ex:=by simpa using hc
       have z:=ab3.1 z j hm
       rw [m] at z
       obtain ⟨e,U,F⟩:=Array.any_eq_true'.1 z
       rw [abG,beq_iff_eq] at F
       exact absurd F.2 (s e U F.1)
   have z:=wpOp_putIf m (g j u m f r s) (λA b=>q i t A b hi) (λA b=>q j u A b m) hQ N y
   have p:∀k ok,ops[k]?=some ok->k≠i->(listed.setIfInBounds j true).getD k true=false->
     (∀e∈ok.after,aeU md e=true->e.on≠i)->t.apart ops ok=true:=λk ok hk X I Y=>by
    refine g k ok hk X ?_ Y
    by_cases J:j=k
    ·subst J;exact r
    ·rw [getD_set_ne true J] at I;exact I
   refine wpOp_mono (λa' w' G=>?_) z
   have L:dV ex (listed.setIfInBounds j true)=false->S w':=λl=>G.2.1 (by rw [afv _ _ (agH f),V8 B];exact l)
   refine ⟨L,ih (listed.setIfInBounds j true) a' w' W p (ready_mono x (agH f)) G.1 L ?_⟩
   rw [afv _ _ f]
   exact G.2.2
section
variable {ex:List Nat}
def V9 {id:Nat} (hm:P.follows .mixedOrders=true) (S:World->Prop) (ex:List Nat) (h:qk P .any ops Q S ex ops.size (Array.replicate ops.size false) a w.drew):(ad5 id ops true).wp P Q a w:=
 wp_region_any hm (La _ _ _ _ h)
def EX {id:Nat} (c:Mem W w fs) (fs':List Fact) (b ex:List Nat) (h:Mem W w.drew fs->Mem W w.drew fs'->qk P .any ops Q (λe=>Mem W e fs') ex ops.size (Array.replicate ops.size false) a w.drew)
  (hm:P.follows .mixedOrders=true:=by kernel_rfl) (f:b.Nodup:=by decide) (g:picks fs b=fs':=by rfl):(ad5 id ops true).wp P Q a w:=
 V9 hm _ ex (h c.drew (c.drew.picks b f g))
def sN (md:adY) (ops:Array Oper) (ex:List Nat) (listed:Array Bool) (i:Nat):Bool:=
 agn ops&& (ag2 md ops listed i&& ((acz md ops listed).contains i&& (!ex.contains i&& (Bp md ops ex i&& !dV ex listed))))
def oU (md:adY) (ops:Array Oper) (ex:List Nat) (listed:Array Bool) (i:Nat):Bool:=
 agn ops&& (ag2 md ops listed i&& ((acz md ops listed).contains i&& !ex.contains i))
def DI (Z:Fr a n D σ) (l:S w) (g:ops[i]?=some o) (e:dU ops σ o=some true) (m:o.dst=some d) (f:d<n) (b:sN md ops ex listed i=true) (p:∀c (a:Act) w,Q (.panic c) (a.put o.dst v) w->Q (.panic c) a w) (hy:Yl P S σ o v)
  (k:∀h,Fr h n D ((d,v)::σ)->qk P md ops Q S ex fuel (listed.setIfInBounds i true) h w):qk P md ops Q S ex (fuel+1) listed a w:=by
 simp only [sN,abG,acF] at b
 obtain ⟨q,r,s,t,u,x⟩:=b
 exact Ol (T:=S) g (aeB q) p t fuel listed a w (.inr ⟨rfl,u,x⟩) (ae0 g r) (by simpa using s) (.inl ⟨Dz Z e,λw e=>hy a n D Z w e⟩) (λ_=>l) (by rw [m];exact k _ (Z.put f _))
def pE (Z:Fr a n D σ) (h:dV ex listed=false->S w) (f:ops[i]?=some o) (l:dU ops σ o=some true) (m:o.dst=some d) (e:d<n) (b:oU md ops ex listed i=true) (p:∀c (a:Act) w,Q (.panic c) (a.put o.dst v) w->Q (.panic c) a w) (hy:∀q,Yl P q σ o v)
  (k:∀g,Fr g n D ((d,v)::σ)->qk P md ops Q S ex fuel (listed.setIfInBounds i true) g w):qk P md ops Q S ex (fuel+1) listed a w:=by
 simp only [oU,abG,acF] at b
 obtain ⟨r,s,t,u⟩:=b
 exact Ol (T:=λ_=>True) f (aeB r) p u fuel listed a w (.inl λ_=>trivial) (ae0 f s) (by simpa using t) (.inl ⟨Dz Z l,λw _=>hy (λ_=>True) a n D Z w trivial⟩) h (by rw [m];exact k _ (Z.put e _))
def q92 (Z:Fr a n D σ) (h:dV ex listed=false->S w) (f:ops[i]?=some o) (l:dU ops σ o=some false) (m:o.dst=some d) (e:d<n) (b:oU md ops ex listed i=true) (p:∀c (a:Act) w,Q (.panic c) (a.put o.dst undef) w->Q (.panic c) a w)
  (k:∀g,Fr g n D ((d,undef)::σ)->qk P md ops Q S ex fuel (listed.setIfInBounds i true) g w):qk P md ops Q S ex (fuel+1) listed a w:=by
 simp only [oU,abG,acF] at b
 obtain ⟨q,r,s,t⟩:=b
 exact Ol (T:=λ_=>True) f (aeB q) p t fuel listed a w (.inl λ_=>trivial) (ae0 f r) (by simpa using s) (.inr ⟨Dz Z l,rfl⟩) h (by rw [m];exact k _ (Z.put e _))
def yg (P:Program) (md:adY) (ops:Array Oper) (n:Nat) (ex:List Nat):List Nat->Array Bool->List (Nat×Value)->Option (Array Bool×List (Nat×Value))
 |[],l,σ=>some (l,σ)
 | i :: b, l, σ => if oU md ops ex l i then match zP P ops n i σ with
   |some σ'=>yg P md ops n ex b (l.setIfInBounds i true) σ'
   |none=>none
  else none
def Lb {e : Array Bool} (p : ∀ c (a : Act) d v w, Q (.panic c) (a.put d v) w -> Q (.panic c) a w) :
  ∀(l:List Nat) {a:Act} {σ:List (Nat×Value)} {listed:Array Bool},Fr a n D σ->(dV ex listed=false->S w)->yg P md ops n ex l listed σ=some (e,σ')->(∀m,Fr m n D σ'->qk P md ops Q S ex fuel e m w)->qk P md ops Q S ex (fuel+abn l) listed a w
 |[],a,σ,listed,Z,_,h,k=>by
  injection h with h
  injection h with b x
  subst b;subst x
  exact k a Z
 | i :: l, a, σ, listed, Z, q, h, k => by
  unfold yg at h
  split at h
  ·rename_i hc
   split at h
   ·rename_i σ1 b
    have f:=λm r=>Lb p l (a:=m) (σ:=σ1) r (λy=>q (Oj y)) h k
    unfold zP at b
    split at b
    ·cases b
    ·rename_i o u
     split at b
     ·rename_i d s t
      split at b
      ·rename_i g
       split at b
       ·rename_i v z
        injection b with b
        subst b
        exact pE Z q u s t g hc (λc a w=>p c a _ _ w) (λ_=>Yl.pure z) f
       ·cases b
      ·cases b
     ·rename_i d s t
      split at b
      ·rename_i g
       injection b with b
       subst b
       exact q92 Z q u s t g hc (λc a w=>p c a _ _ w) f
      ·cases b
     ·cases b
   ·cases h
  ·cases h
def Om:∀(b:List Nat) {l c:Array Bool} {σ s:List (Nat×Value)},yg P md ops n ex b l σ=some (c,s)->∃full,s=full++σ
 |[],_,_,σ,s,h=>by injection h with h;injection h with _ h;exact ⟨[],h.symm⟩
 | i :: b, l, c, σ, s, h => by
  unfold yg at h
  split at h
  ·split at h
   ·rename_i s1 e
    obtain ⟨p,rfl⟩:=V6 e
    obtain ⟨full,f⟩:=Om b h
    exact ⟨full++[p],by rw [f];simp⟩
   ·cases h
  ·cases h
def ap (Z:Fr a n D σ) (q:dV ex listed=false->S w) (e:List Nat) (b:Array Bool) (new:List (Nat×Value)) (k:∀f,Fr f n D (new++σ)->qk P md ops Q S ex fuel b f w)
  (t:∀c (a:Act) d v w,Q (.panic c) (a.put d v) w->Q (.panic c) a w:=by intro _ _ d _ _ h;cases d<;>exact h) (h:(yg P md ops n ex e listed σ).map (λr=>(r.1,thin r.2 σ new,new.map λp=>r.2.lookup p.1))=some (b,true,new.map λp=>some p.2):=by kernel_rfl):qk P md ops Q S ex (fuel+abn e) listed a w:=by
 cases hs:yg P md ops n ex e listed σ with
 |none=>rw [hs] at h;cases h
 |some r=>
  obtain ⟨y,s⟩:=r
  rw [hs] at h
  injection h with h
  injection h with m g
  injection g with g u
  simp only at m
  subst m
  obtain ⟨full,x⟩:=Om e hs
  exact Lb t e Z q hs λf l=>k f (l.thin x g u)
def qe (hr:acz md ops listed=[]) (h:Q .normal a w):qk P md ops Q S ex fuel listed a w:=by
 cases fuel with
 |zero=>exact ⟨hr,h⟩
 |succ f=>exact ⟨λ_=>h,by rw [hr];simp⟩
def all_nil {X:Nat->Prop}:∀i∈([]:List Nat),X i:=λ_ h=>by cases h
def all_cons {X:Nat->Prop} {r:List Nat} (h:X i) (t:∀i∈r,X i):∀j∈i::r,X j:=λj b=>by
 rcases abS.1 b with rfl|b
 ·exact h
 ·exact t j b
def zd (rs:List Nat) (hr:acz md ops listed=rs) (b:rs.isEmpty=false) (h:∀i∈rs,wpOp P ops Q i (λf c=>(dV ex (listed.setIfInBounds i true)=false->S c)/\qk P md ops Q S ex fuel (listed.setIfInBounds i true) f c) a w):qk P md ops Q S ex (fuel+1) listed a w:=
 ⟨λe=>(by rw [hr] at e;subst e;cases b),hr▸h⟩
def EY {f:Nat} {l:Array Bool} (J:Act->World->Prop) (h:∀a w,J a w->qk P md ops Q S ex f l a w) (k:(∀a w,J a w->qk P md ops Q S ex f l a w)->qk P md ops Q S ex fuel listed a w):qk P md ops Q S ex fuel listed a w:=k h
def bU {p:Prop} {l:Array Bool} (h:dV ex l=true):dV ex l=false->p:=λe=>by rw [h] at e;cases e
def ay {c p X:Prop} (h:p) (k:p->X):(c->p)/\X:=⟨λ_=>h,k h⟩
def dN {p X:Prop} {l:Array Bool} (h:dV ex l=true) (k:X):(dV ex l=false->p)/\X:=⟨λe=>(by rw [h] at e;cases e),k⟩
def qq (Z:Fr a n D σ) (b:ops[i]?=some o) (c:dU ops σ o=some true) (h:o.wp P a w K Q):wpOp P ops Q i K a w:=by
 unfold wpOp
 rw [b]
 simp only [Dz Z c,if_true]
 exact .inl h
end
def gD (P:Program) (t:TypeId):Bool:=match P.underlying t with
 |some (.struct _)=>false
 |some (.array _ _)=>false
 |some _=>true
 |none=>false
def Bq (P:Program) (t:TypeId):Option Nat:=match P.underlying t with
 |some (.slice e)=>(P.info? e).map (·.size)
 |_=>none
def EZ (h:gD P t=true) (w:World):(isAgg t).run P w= .ok false w:=by
 unfold gD at h
 cases hu:P.underlying t with
 |none=>rw [hu] at h;cases h
 |some d=>rw [hu] at h;simp only [isAgg,abF,run_underlying hu,abz];cases d<;>first|rfl|cases h
def Pd {p:Addr} (b:o.op= .load t x) (c:look σ x=some (.pointer (some p))) (ht:gD P t=true) (hc:∀w,S w->w.cell? p=some v):Yl P S σ o v:=λa n D Z w e=>by
 unfold execOp
 simp [b,Z.eval c,ag3,aee,loadVar,EZ ht,load,Sem.run,hc w e]
def Pe {off:Nat} (c:o.op= .load t x) (f:look σ x=some (.pointer (some ⟨b,off,none⟩))) (e:SI P t m) (hm:C.size=m) (hc:∀w,S w->w.rangeAt b off C.toList):Yl P S σ o (.agg C):=λa n D Z w g=>by
 obtain ⟨h,k,l⟩:=e.desc
 have p:=run_loadVar_mid (P:=P) w b off t C.toList h (hc w g) k l (by rw [e.size,<-hm];simp)
 unfold execOp
 simp [c,Z.eval f,ag3,aee,p]
def Yl.indexAddr {ix:Operand} {ad:Addr} {y sz:Nat} (f:o.op= .indexAddr t x ix) (h:look σ x=some (.slice (some ad) m c)) (hi:look σ ix=some (.int k (y:Int))) (hy:y<m) (b:Bq P t=some sz):Yl P S σ o (.pointer (some (ad.add (y*sz)))):=λa n D Z w p=>by
 unfold Bq at b
 split at b
 ·rename_i e l
  obtain ⟨i,g,rfl⟩:=Option.map_eq_some_iff.1 b
  unfold execOp
  have q:¬m<=y:=by omega
  simp [f,Z.eval h,Z.eval hi,Instr.indexAt,asIntOf,run_underlying l,hy,sizeOf,typeInfo,g]
 ·cases b
def nG (P:Program) (t:TypeId):Bool:=match P.underlying t with
 |some (.slice _)=>true
 |_=>false
def Yl.len (b:o.op= .call {callee:= .builtin .len,args:= #[x],argTypes:= #[t]}) (f:look σ x=some (.slice A m c)) (ht:nG P t=true):Yl P S σ o (.int .i64 (m:Int)):=λa n D Z w h=>by
 unfold nG at ht
 split at ht
 ·rename_i e g
  unfold execOp
  simp [b,resolve,invoke,builtin,Z.eval f,Builtin.len_,run_underlying g,goInt]
 ·cases ht
def Yl.min {y:Operand} {ts:Array TypeId} {p q:Int} (b:o.op= .call {callee:= .builtin .min,args:= #[x,y],argTypes:=ts}) (c:look σ x=some (.int k p)) (hy:look σ y=some (.int k q)):Yl P S σ o (.int k (if q<p then q else p)):=λa n D Z w e=>by
 unfold execOp
 simp [b,resolve,invoke,builtin,Z.eval c,Z.eval hy,Builtin.min_,Builtin.min2]
def Yl.max {y:Operand} {ts:Array TypeId} {p q:Int} (b:o.op= .call {callee:= .builtin .max,args:= #[x,y],argTypes:=ts}) (c:look σ x=some (.int k p)) (hy:look σ y=some (.int k q)):Yl P S σ o (.int k (if q>p then q else p)):=λa n D Z w e=>by
 unfold execOp
 simp [b,resolve,invoke,builtin,Z.eval c,Z.eval hy,Builtin.max_,Builtin.max2]
def Yl.as {u:Value} (h:Yl P S σ o v) (e:v=u):Yl P S σ o u:=e▸h
def Yl.ix {ix:Operand} (g of y sz:Nat) {m c:Nat} {k:IntKind} (b:o.op= .indexAddr t x ix) (e:look σ x=some (.slice (some ⟨g,of,none⟩) m c)) (hi:look σ ix=some (.int k (y:Int))) (hy:y<m:=by omega) (f:Bq P t=some sz:=by kernel_rfl):Yl P S σ o (.pointer (some ⟨g,of+y*sz,none⟩)):=
 (Yl.indexAddr (ad:=⟨g,of,none⟩) b e hi hy f).as (by rw [acC])
def Yl.iK {ix:Operand} (g y sz:Nat) {m c:Nat} {k:IntKind} (b:o.op= .indexAddr t x ix) (e:look σ x=some (.slice (some ⟨g,0,none⟩) m c)) (hi:look σ ix=some (.int k (y:Int))) (hy:y<m:=by omega) (f:Bq P t=some sz:=by kernel_rfl):Yl P S σ o (.pointer (some ⟨g,y*sz,none⟩)):=
 (Yl.indexAddr (ad:=⟨g,0,none⟩) b e hi hy f).as (by rw [acC,ab7])
end
end Go.Proofs.YtekiimhdnigmcaaGreatDoor
