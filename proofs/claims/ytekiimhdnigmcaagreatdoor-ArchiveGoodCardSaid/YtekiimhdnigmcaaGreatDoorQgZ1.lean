/- Parts. -/
import Derived.RangeFuncNested
import Derived.RangeFuncCalls
import Derived.WalkKit
import Derived.Deep.Draws
import Derived.Maps.AppendAt
import Derived.OwnWalkIn
import Derived.Deep.AppendLies
import Derived.Test.YtekiimhdnigmcaaGreatDoorRows
import Derived.WalkSpells
import Derived.WalkLawsBesides
import Derived.Deep.QuietTactic
import Derived.BigQuiet
import Derived.Deep.MidRow
import Derived.Deep.RegionHeld3
import Derived.RangeFuncBound
import Derived.Shelf.Abstract
import Derived.Shelf.RegionOpen
import Derived.TacticsInMore
import Derived.LoopNIn
import Derived.LoopIn
import Derived.Laws.BytesString
import Derived.Laws.BytesArg
import Derived.ProofKit
import Derived.Below
import Derived.Carry
import Derived.LaidMore
import Derived.Lib.LaidU8
import Derived.Lib.SmallJoins
set_option linter.all false
namespace Go.Proofs.YtekiimhdnigmcaaGreatDoor
open Go.RowKit
open Go renaming World→ajg,Value→ajh,Program→aji,TypeId→ajj,Ending→ajk,Operand→ajl,Oper→ajm,IntKind→ajn,Deferred→ajo,Exit→ajp
abbrev ajq:=Option Addr
open List renaming length→abr
open _root_.Go.Proofs.Tryz renaming prog→abt
open _root_.List renaming length_append→abu,getElem?_eq_getElem→abv,getD_eq_getElem?_getD→abw,length_map→abz,length_take→abA,getElem?_eq_some_iff→abF,mem_of_getElem?→abK,length_set→abL,append_nil→abN,flatMap_cons→abO,length_cons→abS,mem_cons→abX,mem_cons_of_mem→ab5,mem_map→ab7,all_eq_true→ace,getElem_of_mem→acn,drop_of_length_le→acu,drop_eq_getElem_cons→acv,range→acw,eq_nil_of_length_eq_zero→acz,map_cons→acE,pairwise_iff_getElem→acF,lookup_cons→acV,getElem_mem→ada,getElem?_drop→adn,getElem?_eq_none→adp,getElem?_take→adE,mem_range→aei,cons_append→aeu,map_map→aew,pairwise_cons→aeC,any_eq_true→aeF,of_mem_zip→aeN,getD_cons_zero→aft,getElem_set→afC,mem_filterMap→afJ,nodup_cons→afO,drop_zero→ags,drop_succ_cons→agE,map_fst_zip→agU
open Nat renaming le_refl→abx,lt_or_ge→ab0,zero_add→ab9,eq_zero_or_pos→ach,mul_le_mul_right→acC,xor_assoc→acS,pow_le_pow_right→ads,add_sub_cancel→adt,succ_mul→adK,testBit_xor→adL,mod_two_eq_zero_or_one→adM,eq_of_testBit_eq→aer,add_assoc→afb,pow_succ→afH,testBit_zero→afI,lt_or_gt_of_ne→agO,xor_comm→ag5,or_comm→ahJ
open Result renaming andThen_ok→abD
open Bool renaming and_eq_true→abH,eq_iff_iff→ab3,not_eq_true'→acP,or_eq_true→adD
open Sem renaming run_bind→abJ
open Value renaming int→abT,slice→afV
open BitVec renaming ofInt→abY
open Fence renaming wide→acf,inRound→ahe
open Go renaming IntKind→acB
open Region renaming ready→acJ,wanted→ac4,Mode→aec,noSelect_spec→aeR,binds→ae9,free_spec→afm,noSelect→agQ,free→aho
open Addr renaming add_mid→acL,add→agT
open _root_.Array renaming getD_eq_getD_getElem?→acU,getElem?_eq_some_iff→ac0,getElem_toList→aeg,getElem?_modify→aeX,setIfInBounds_comm→af4
open Oper renaming wp→acW
open Builtin renaming append_→adf,lenOf→afY,firstCells→agq
open Instr renaming sliceAt→adH,sureAddr→aex,typeAssert→aeM,sliceBounds→afG,sliceBound→afR,slice→agM,fieldAt→ahf,loadAt→ahp
open DataW renaming trod→adO,trod_struct→agI,TrodAll→ahd
open IntKind renaming wrap_u64→ad3,signed→aee,bits→aeB,min→aeO,max→aeP,wrap_i64→agD
open Below renaming refl→aeb,heap_setCell→agB
open World renaming alloc_heap_new→aef,cell?→aep,setCell→af0,cell?_alloc_lt→agp
open Code renaming region→aek
open Lit renaming int→ae1,wf→agN
open UInt8 renaming ofNat→afB
open Int renaming tmod→af3,le_refl→agl
open IntWalk renaming i64_left→agC
open Ne renaming symm→ag6
open Act renaming put→ahE
variable {p:Nat->Bool} {w W:ajg} {k:ajn} {o:ajm} {c n B b i g m cpu:Nat} {xs:List ajh} {a:Act} {x:ajl} {l ex:List Nat} {P:aji} {t:ajj} {C:Array ajh} {A:ajq}
theorem hide {p:Prop} (h:p):Hid p:=h
def AB {k:Nat} {o:Obj} (h:w.heap[k]?=some o):k<w.heap.size:=(ac0.1 h).1
section
variable {P:aji} {g:ajl} {ps:Array Tmp} {assign body:Code} {Q:ajp->Act->ajg->Prop} {a:Act} {w:ajg} {gf:Nat} {lb:Array ajh} {xs:List (Array ajh)} {S:List Nat} {N:Nat->Prop}
end
def add_block (a:Addr) (n:Nat):(a.add n).block=a.block:=by unfold agT;split<;>rfl
def Xc (a:Addr) (i j:Nat):(a.add i).add j=a.add (i+j):=by
 unfold agT
 by_cases hi:i=0<;>by_cases b:j=0<;>simp [hi,b,afb]
structure Rd (w:ajg) (B size:Nat) (A:ajq) (n:Nat) (xs:List ajh):Prop where
 len:abr xs=n*size
 row:0<n->∃ad,A=some ad/\ad.block<B/\∀j u,xs[j]?=some u->w.cell? (ad.add j)=some u
section
variable {w w':ajg} {B B' size n:Nat} {A:ajq} {xs:List ajh}
theorem Rd.nil:Rd w B size A 0 []:=⟨by simp,λh=>by omega⟩
theorem Rd.y7 (h:Rd w B size A n xs) (hk:∀p:Addr,p.block<B->w'.cell? p=w.cell? p):Rd w' B size A n xs:=
 ⟨h.len,λb=>by
  obtain ⟨c,e,a,hc⟩:=h.row b
  exact ⟨c,e,a,λj u d=>(hk _ (by rw [add_block];exact a)).trans (hc j u d)⟩⟩
theorem Rd.more (h:Rd w B size A n xs) (c:B<=B'):Rd w B' size A n xs:=
 ⟨h.len,λa=>by
  obtain ⟨b,e,d,hc⟩:=h.row a
  exact ⟨b,e,by omega,hc⟩⟩
theorem Rd.below (h:Rd w B size A n xs) (hb:Below B w w'):Rd w' B size A n xs:=h.y7 λ_ a=>hb.cell a
theorem Rd.drewN (h:Rd w B size A n xs) (k:Nat):Rd (w.drewN k) B size A n xs:=⟨h.len,h.row⟩
theorem Rd.alloc (h:Rd w B size A n xs) (a:B<=w.heap.size) (o:Obj):Rd (w.alloc o) B size A n xs:=h.y7 λp b=>agp w o p (by omega)
theorem Rd.from (h:Rd w B size A n xs) {k cap:Nat} (hk:k<=n) (hc:n<=cap):
  Rd w B size (if cap=k then A else A.map (·.add (k*size))) (n-k) (xs.drop (k*size)):=by
 refine ⟨by rw [List.length_drop,h.len,Nat.sub_mul],λf=>?_⟩
 obtain ⟨b,rfl,c,a⟩:=h.row (by omega)
 rw [if_neg (by omega)]
 refine ⟨b.add (k*size),rfl,by rw [add_block];exact c,λj u d=>?_⟩
 rw [Xc]
 exact a _ u (by rw [<-d,adn])
theorem Rd.upto (h:Rd w B size A n xs) {k:Nat} (hk:k<=n):Rd w B size A k (xs.take (k*size)):=by
 refine ⟨by rw [abA,h.len];exact Nat.min_eq_left (acC _ hk),λf=>?_⟩
 obtain ⟨c,rfl,d,a⟩:=h.row (by omega)
 refine ⟨c,rfl,d,λj u b=>a j u ?_⟩
 rw [adE] at b
 split at b
 ·exact b
 ·cases b
def aa7 {base:Nat} {e:ajj} {v:ajh} (h:w.ownsRow base e size v n xs) (b:v= .slice A n c):Rd w w.heap.size size A n xs:=by
 subst b
 refine ⟨h.1,λk=>?_⟩
 rcases h.2 with ⟨a,l⟩|⟨g,cap,cur,a,m,d,_,_,_,ht⟩
 ·omega
 ·injection a with f o p
  subst f
  refine ⟨_,rfl,AB d,λj u i=>?_⟩
  exact h.cells (g:=g) rfl j u i
theorem Rd.at {k:Nat} (h:Rd w B 1 A n xs) (hk:k<n):∃a,A=some a/\a.block<B/\∃b:k<abr xs,w.cell? (a.add k)=some xs[k]:=by
 obtain ⟨a,e,c,hc⟩:=h.row (by omega)
 have b:k<abr xs:=by have:=h.len;omega
 exact ⟨a,e,c,b,hc k _ (abv b)⟩
end
def B8 (b:Nat):ajh:= .int .u8 (b:Int)
def bG (x:Nat):ajh:= .int .u64 (x:Int)
def PX {base:Nat} {e:ajj} {size:Nat} {v:ajh} (h:w.ownsRow base e size v n xs) (hb:c<=base):w.ownsRow c e size v n xs:=by
 refine ⟨h.1,?_⟩
 rcases h.2 with a|⟨g,cap,cur,a,d,b⟩
 ·exact .inl a
 ·exact .inr ⟨g,cap,cur,a,by omega,b⟩
structure EI (P:aji) (t e:ajj) (z:ajh) (size bytes:Nat):Prop where
 ht:P.underlying t=some (.slice e)
 hi:(P.info? e).map (λi=>(i.zero,i.size,i.bytes))=some (some z,size,bytes)
 hz:z.cells.size=size
 hs:0<size
section
variable {P:aji} {w:ajg} {base:Nat} {t e:ajj} {z:ajh} {size bytes:Nat}
def qnl (b:EI P t e z size bytes) (f:ajj) {v:ajh} {n:Nat} {xs:List ajh} (a:w.ownsRow base e size v n xs) (c:Nat):(adf #[t,t] f #[v,.slice none 0 c]).run P w= .ok v w:=by
 obtain ⟨i,hi,_⟩:=info_parts b.hi
 rcases a.2 with ⟨rfl,rfl⟩|⟨g,cap,cur,rfl,_,_,d,_⟩
 ·simp [adf,run_underlying b.ht,sizeOf,typeInfo,hi,afY,agq]
 ·simp [adf,run_underlying b.ht,sizeOf,typeInfo,hi,afY,agq,d,storeCells]
def q05 (p:EI P t e z size bytes) (r:ajj) {v:ajh} {n:Nat} {xs:List ajh} (a:w.ownsRow base e size v n xs)
  {B:Nat} {A:ajq} {m c:Nat} {news:List ajh} (hr:Rd w B size A m news) (h1:∀u∈news,u.oneCell'=true)
  (b:(n+m)*bytes<=140737488355328) (h63:n+m<=9223372036854775807) (o:base<=w.heap.size):
  ∃k l w',(adf #[t,t] r #[v,.slice A m c]).run P w= .ok (.slice k (n+m) l) w'/\w'.ownsRow base e size (.slice k (n+m) l) (n+m) (xs++news)/\w.grownBy w' v.ownBlock/\
   ((afV k (n+m) l).ownBlock=v.ownBlock\/(afV k (n+m) l).ownBlock=some w.heap.size):=by
 obtain ⟨i,hi,hz,s,x⟩:=info_parts p.hi
 rcases A with _|y
 ·have hm:m=0:=by
   rcases ach m with d|d
   ·exact d
   ·obtain ⟨y,h,_⟩:=hr.row d
    cases h
  subst hm
  have C:news=[]:=acz (by simpa using hr.len)
  subst C
  obtain ⟨k,l,rfl⟩:∃A c,v= .slice A n c:=by
   rcases a.2 with ⟨rfl,rfl⟩|⟨g,cap,cur,rfl,_⟩<;>exact ⟨_,_,rfl⟩
  exact ⟨k,l,w,qnl p r a c,by simpa using a,World.grownBy.refl w _,.inl rfl⟩
 ·have f:∀j u,news[j]?=some u->w.cell? (y.add j)=some u:=by
   intro j u D
   rcases ach m with d|d
   ·subst d
    have C:news=[]:=acz (by simpa using hr.len)
    subst C
    simp at D
   ·obtain ⟨F,h,_,hc⟩:=hr.row d
    injection h with h
    subst h
    exact hc j u D
  obtain ⟨H,w',q,E,I,_,J⟩:=run_append_own_at (P:=P) w base t r e i z size bytes p.ht hi hz s x p.hz p.hs v n xs a y m c news hr.len f h1 (by unfold maxLen;exact h63) b o
  obtain ⟨k,l,rfl⟩:∃A c,H= .slice A (n+m) c:=by
   rcases E.2 with ⟨rfl,d⟩|⟨g,cap,cur,rfl,_⟩
   ·rw [d];exact ⟨_,_,rfl⟩
   ·exact ⟨_,_,rfl⟩
  exact ⟨k,l,w',q,E,I,J⟩
def Xd {K:Act->ajg->Prop} {Q:ajp->Act->ajg->Prop} {s:ajl}
  (k:o.op= .call {callee:= .builtin .append,args:= #[s,x],argTypes:= #[t,t]}) (l:EI P t e z size bytes)
  {v:ajh} {n:Nat} {xs:List ajh} (i:w.ownsRow base e size v n xs) (hs:a.eval s=v)
  {B:Nat} {A:ajq} {m c:Nat} {news:List ajh} (hr:Rd w B size A m news) (p:a.eval x= .slice A m c) (h1:∀u∈news,u.oneCell'=true)
  (b:(n+m)*bytes<=140737488355328) (h63:n+m<=9223372036854775807) (d:base<=w.heap.size)
  (h:∀f g w',w'.ownsRow base e size (.slice f (n+m) g) (n+m) (xs++news)->w.grownBy w' v.ownBlock->((Value.slice f (n+m) g).ownBlock=v.ownBlock\/(Value.slice f (n+m) g).ownBlock=some w.heap.size)->K (a.put o.dst (.slice f (n+m) g)) w'):o.wp P a w K Q:=by
 obtain ⟨f,g,w',j,q,r,y⟩:=q05 (P:=P) l o.type i hr h1 (c:=c) b h63 d
 unfold acW execOp
 simp only [k,resolve,invoke,builtin,abJ,Sem.run_pure,abD,List.map_toArray,acE,List.map_nil,hs,p,j]
 exact h f g w' q r y
def Xe {ops:Array ajm} {rest:List ajm} {Q:ajp->Act->ajg->Prop} {s:ajl} (j:o.guard=none)
  (k:o.op= .call {callee:= .builtin .append,args:= #[s,x],argTypes:= #[t,t]}) (l:EI P t e z size bytes)
  {v:ajh} {n:Nat} {xs:List ajh} (i:w.ownsRow base e size v n xs) (hs:a.eval s=v)
  {B:Nat} {A:ajq} {m c:Nat} {news:List ajh} (hr:Rd w B size A m news) (p:a.eval x= .slice A m c) (h1:∀u∈news,u.oneCell'=true)
  (b:(n+m)*bytes<=140737488355328) (h63:n+m<=9223372036854775807) (d:base<=w.heap.size)
  (h:∀f g w',w'.ownsRow base e size (.slice f (n+m) g) (n+m) (xs++news)->w.grownBy w' v.ownBlock->((Value.slice f (n+m) g).ownBlock=v.ownBlock\/(Value.slice f (n+m) g).ownBlock=some w.heap.size)->wpList P ops Q rest (a.put o.dst (.slice f (n+m) g)) w'):
  wpList P ops Q (o::rest) a w:=
 wpList_plain j λ_ q=>Xd k l i hs hr p h1 b h63 d λf g w' r y C=>q _ _ (h f g w' r y C)
end
theorem Rd.one (w:ajg) (x:ajh) (e:ajj):Rd (w.alloc (.cells #[x] e)) (w.heap.size+1) 1 (some ⟨w.heap.size,0,none⟩) 1 [x]:=
 ⟨rfl,λ_=>⟨_,rfl,by simp,λj u a=>cell_one_new w x e j u a⟩⟩
section
variable {bx:Nat} {t:ajj} {base:Nat} {e:ajj} {size:Nat} {G:Nat->Prop} {n:Nat} {xs:List ajh} {W W':ajg} {v:ajh}
end
def qpm {α:Type} {l:List α} {k:Nat} {u:α} (f:α->ajh) (h:l[k]?=some u):(l.take k).map f++[f u]=(l.take (k+1)).map f:=by
 rw [List.take_add_one,h];simp
def below_drewN {a:ajg} (h:Below B a w) (n:Nat):Below B a (w.drewN n):=⟨h.os,h.tape,h.output,h.size,h.block⟩
def own_drewN {base:Nat} {e:ajj} {size:Nat} {v:ajh} (h:w.ownsRow base e size v n xs) (m:Nat):(w.drewN m).ownsRow base e size v n xs:=h
section
def bD:EI abt 30 5 (.int .u8 0) 1 1:=⟨by kernel_rfl,by kernel_rfl,rfl,by omega⟩
def kT:EI abt 117 41 (.int .u64 0) 1 8:=⟨by kernel_rfl,by kernel_rfl,rfl,by omega⟩
def kD:EI abt 38 3 (.int .i64 0) 1 8:=⟨by kernel_rfl,by kernel_rfl,rfl,by omega⟩
def zoe:EI abt 319 9 (.string ⟨#[]⟩) 1 16:=⟨by kernel_rfl,by kernel_rfl,rfl,by omega⟩
end
def aX (x:Int):Prop:= -9223372036854775808<=x/\x<=9223372036854775807
def bL (n:Nat):ajh:= .int .i64 (n:Int)
structure Ev where
 seq:Int
 time:Int
 cpu:Nat
 kind:Nat
 task:Int
 group:Int
 to:Int
 weight:Int
 ticks:Int
 mask:Nat
 got:Int
structure Ev.Ok (e:Ev):Prop where
 seq:aX e.seq
 time:aX e.time
 cpu:e.cpu<256
 kind:e.kind<256
 task:aX e.task
 group:aX e.group
 to:aX e.to
 weight:aX e.weight
 ticks:aX e.ticks
 mask:e.mask<18446744073709551616
 got:aX e.got
def Ev.cells (e:Ev):Array ajh:= #[.int .i64 e.seq,.int .i64 e.time,.int .u8 (e.cpu:Int),.int .u8 (e.kind:Int),.int .i64 e.task,.int .i64 e.group,.int .i64 e.to,.int .i64 e.weight,.int .i64 e.ticks,.int .u64 (e.mask:Int),.int .i64 e.got]
structure kg (w:ajg) (b:Nat) (e:Ev):Prop where
 seq:w.cell? ⟨b,0,none⟩=some (.int .i64 e.seq)
 time:w.cell? ⟨b,1,none⟩=some (.int .i64 e.time)
 cpu:w.cell? ⟨b,2,none⟩=some (.int .u8 (e.cpu:Int))
 kind:w.cell? ⟨b,3,none⟩=some (.int .u8 (e.kind:Int))
 task:w.cell? ⟨b,4,none⟩=some (.int .i64 e.task)
 group:w.cell? ⟨b,5,none⟩=some (.int .i64 e.group)
 to:w.cell? ⟨b,6,none⟩=some (.int .i64 e.to)
 weight:w.cell? ⟨b,7,none⟩=some (.int .i64 e.weight)
 ticks:w.cell? ⟨b,8,none⟩=some (.int .i64 e.ticks)
 mask:w.cell? ⟨b,9,none⟩=some (.int .u64 (e.mask:Int))
 got:w.cell? ⟨b,10,none⟩=some (.int .i64 e.got)
variable {e:Ev}
def kg.keep (h:kg w b e) (hk:∀(o:Nat) (v:ajh),w.cell? ⟨b,o,none⟩=some v->W.cell? ⟨b,o,none⟩=some v):kg W b e:=
 ⟨hk _ _ h.seq,hk _ _ h.time,hk _ _ h.cpu,hk _ _ h.kind,hk _ _ h.task,hk _ _ h.group,hk _ _ h.to,hk _ _ h.weight,hk _ _ h.ticks,hk _ _ h.mask,hk _ _ h.got⟩
theorem kg.below (h:kg w b e) (hk:Below B w W) (hb:b<B):kg W b e:=h.keep λo _ a=>(hk.cell (p:=⟨b,o,none⟩) hb).trans a
def kg.new (w:ajg) (e:Ev) (t:ajj):kg (w.alloc (.cells e.cells t)) w.heap.size e:=by
 constructor<;>rw [World.cell?_alloc_new]<;>rfl
def aB:Nat->List Nat
 |1=>[0,1,3,5]|2=>[0]|3=>[6]|4=>[6]|5=>[4,6]|6=>[6]|7=>[0,3]|8=>[1,3]|9=>[0,2]|10=>[6]|_=>[]
def Ev.iC (e:Ev):Nat->Int
 |0=>e.task|1=>e.group|2=>e.to|3=>e.weight|4=>e.ticks|5=>(e.mask:Int)|_=>e.got
def Ev.within (e:Ev):Nat->Bool
 |0=>decide (1<=e.task/\e.task<=65535)
 |1=>decide ((if e.kind=8 then 1 else 0)<=e.group/\e.group<=255)
 |2=>decide (0<=e.to/\e.to<=63/\e.to≠(e.cpu:Int))
 |3=>decide (1<=e.weight/\e.weight<=65536)
 |4=>decide (1<=e.ticks/\e.ticks<=4294967295)
 |5=>decide (e.mask/2^e.cpu%2=1)
 |_=>decide ((if e.kind=5\/e.kind=6 then 0 else 1)<=e.got/\e.got<=65535)
def Ev.check (e:Ev):Nat:=
 if e.kind=0\/10<e.kind then 60
 else if e.seq<1\/281474976710656<e.seq\/e.time<0\/281474976710656<e.time\/64<=e.cpu then 61
 else if (aB e.kind).all e.within=false then 61
 else if (acw 7).all (λi=>decide (e.iC i=0)||(aB e.kind).contains i)=false then 62
 else 0
def Ev.vals (e:Ev):List Nat:=(aB e.kind).map λi=>(e.iC i).toNat
structure Laid (B:Nat) (w:ajg):Prop where
 uses:∀k,k<11->∃A c,w.cell? ⟨2,k,none⟩=some (.slice A (abr (aB k)) c)/\Rd w B 1 A (abr (aB k)) ((aB k).map bL)
 big:2<B
 names:∀i,i<7->∃s:ByteArray,w.cell? ⟨3,i,none⟩=some (.string s)
 F9:3<B
def Laid.y7 (h:Laid B w) (hk:∀p:Addr,p.block<B->W.cell? p=w.cell? p):Laid B W:=
 ⟨λk a=>by obtain ⟨A,c,b,d⟩:=h.uses k a;exact ⟨A,c,(hk _ h.big).trans b,d.y7 hk⟩,h.big,λi hi=>by obtain ⟨s,b⟩:=h.names i hi;exact ⟨s,(hk _ h.F9).trans b⟩,h.F9⟩
theorem Laid.below (h:Laid B w) (hb:Below c w W) (a:B<=c):Laid B W:=h.y7 λp b=>hb.cell (by omega)
def Laid.alloc (h:Laid B w) (a:B<=w.heap.size) (o:Obj):Laid B (w.alloc o):=h.y7 λp b=>agp w o p (by omega)
def Xi (a:ajh) (w:ajg):(aeM (.iface 439 a) 20 439 true).run abt w= .ok (.tuple #[a,.bool true]) w:=by kernel_rfl
def Xj (a:ajh) (w:ajg):(aeM (.iface 442 a) 20 439 true).run abt w= .ok (.tuple #[.pointer none,.bool false]) w:=by kernel_rfl
def Xk (a:ajh) (w:ajg):(aeM (.iface 442 a) 20 442 true).run abt w= .ok (.tuple #[a,.bool true]) w:=by kernel_rfl
def Ev.num (e:Ev) (i:Nat):Int:=IntKind.u64.wrap (e.iC i)
set_option maxRecDepth 100000 in
set_option maxHeartbeats 1000000 in
theorem Mv (e:Ev) (a:e.Ok) (b i:Nat) (hi:i<7) (w:ajg) (hb:kg w b e):
  Calls Tryz.prog 285 #[.pointer (some ⟨b,0,none⟩),.int .i64 (i:Int)] w λr c=>r= .returned (.tuple #[.int .u64 (e.num i),.bool (decide (0<=e.iC i))])/\∃n,c=w.drewN n:=by
 obtain ⟨g,h,j,k,l,m,o,p,q,s,d⟩:=hb
 have t:=Xi
 have u:=Xj
 have v:=Xk
 have hm:IntKind.u64.wrap (e.mask:Int)=(e.mask:Int):=by have:=a.mask;rw [IntKind.wrap_u64];omega
 have f:=hide hm
 clear hm a
 obtain rfl|rfl|rfl|rfl|rfl|rfl|rfl:i=0\/i=1\/i=2\/i=3\/i=4\/i=6\/i=5:=by omega
 case inr.inr.inr.inr.inr.inr=>
  go_enter Tryz.func285,Tryz.ntmps285
  go_wp2
  go_ret2
  exact ⟨by unfold Ev.num Ev.iC;simp [f.out],0,rfl⟩
 all_goals
  go_enter Tryz.func285,Tryz.ntmps285
  go_wp2
  go_quiet (fail)
  go_wp2
  go_ret2
  exact ⟨rfl,_,rfl⟩
def Ev.lim (e:Ev):Nat->Nat×Nat
 |0=>(1,65535)
 |1=>(if e.kind=8 then 1 else 0,255)
 |2=>(0,63)
 |3=>(1,65536)
 |4=>(1,4294967295)
 |5=>(1,18446744073709551615)
 |_=>(if e.kind=5\/e.kind=6 then 0 else 1,65535)
set_option maxRecDepth 100000 in
set_option maxHeartbeats 1000000 in
theorem PZ (e:Ev) (b i:Nat) (hi:i<7) (w:ajg) (hb:kg w b e):
  Calls Tryz.prog 306 #[.pointer (some ⟨b,0,none⟩),.int .i64 (i:Int)] w λr h=>r= .returned (.tuple #[.int .u64 ((e.lim i).1:Int),.int .u64 ((e.lim i).2:Int)])/\h=w:=by
 have j:=hb.kind
 clear hb
 obtain rfl|rfl|rfl|rfl|rfl|rfl|rfl:i=0\/i=2\/i=3\/i=4\/i=5\/i=1\/i=6:=by omega
 case inr.inr.inr.inr.inr.inl=>
  by_cases f:e.kind=8
  ·have c:((e.kind:Int)==8)=true:=by rw [beq_iff_eq];omega
   have H:=hide f
   clear f
   go_enter Tryz.func306,Tryz.ntmps306
   go_wp2
   go_ret2
   exact ⟨by rw [show e.lim 1=(1,255) by have:=H.out;simp [Ev.lim,this]];rfl,rfl⟩
  ·have c:((e.kind:Int)==8)=false:=by rw [beq_eq_false_iff_ne];omega
   have H:=hide f
   clear f
   go_enter Tryz.func306,Tryz.ntmps306
   go_wp2
   go_ret2
   exact ⟨by rw [show e.lim 1=(0,255) by have:=H.out;simp [Ev.lim,this]];rfl,rfl⟩
 case inr.inr.inr.inr.inr.inr=>
  by_cases a:e.kind=5
  ·have c:((e.kind:Int)==5)=true:=by rw [beq_iff_eq];omega
   have H:=hide a
   clear a
   go_enter Tryz.func306,Tryz.ntmps306
   go_wp2
   go_ret2
   exact ⟨by rw [show e.lim 6=(0,65535) by have:=H.out;simp [Ev.lim,this]];rfl,rfl⟩
  ·have c:((e.kind:Int)==5)=false:=by rw [beq_eq_false_iff_ne];omega
   by_cases d:e.kind=6
   ·have g:((e.kind:Int)==6)=true:=by rw [beq_iff_eq];omega
    have H:=hide d
    clear a d
    go_enter Tryz.func306,Tryz.ntmps306
    go_wp2
    go_ret2
    exact ⟨by rw [show e.lim 6=(0,65535) by have:=H.out;simp [Ev.lim,this]];rfl,rfl⟩
   ·have g:((e.kind:Int)==6)=false:=by rw [beq_eq_false_iff_ne];omega
    have H:=hide (show ¬(e.kind=5\/e.kind=6) by omega)
    clear a d
    go_enter Tryz.func306,Tryz.ntmps306
    go_wp2
    go_ret2
    exact ⟨by rw [show e.lim 6=(1,65535) by have:=H.out;simp [Ev.lim,this]];rfl,rfl⟩
 all_goals
  go_enter Tryz.func306,Tryz.ntmps306
  go_wp2
  go_ret2
  exact ⟨rfl,rfl⟩
set_option maxRecDepth 100000 in
set_option maxHeartbeats 1000000 in
theorem q4l (e:Ev) (m:e.Ok) (b i:Nat) (hi:i<7) (w:ajg) (hb:kg w b e) (f:¬(0<=e.iC i/\((e.lim i).1:Int)<=e.num i/\e.num i<=((e.lim i).2:Int))):
  Calls Tryz.prog 284 #[.pointer (some ⟨b,0,none⟩),.int .i64 (i:Int)] w λr a=>r= .returned (.bool false)/\∃n,a=w.drewN n:=by
 have c:=hide (Mv e m b i hi w hb)
 have o:∀a,kg a b e->_:=λa g=>PZ e b i hi a g
 have d:∀n,Hid (Calls Tryz.prog 306 #[.pointer (some ⟨b,0,none⟩),.int .i64 (i:Int)] (w.drewN n) λr a=>r= .returned (.tuple #[.int .u64 ((e.lim i).1:Int),.int .u64 ((e.lim i).2:Int)])/\a=w.drewN n):=λn=>hide (PZ e b i hi _ (hb.keep λ_ _ h=>h))
 clear o
 generalize e.iC i=x at f c
 generalize e.num i=y at f c
 generalize e.lim i=z at f d
 obtain ⟨k,j⟩:=z
 simp only at f d
 by_cases p:0<=x
 ·by_cases q:(k:Int)<=y
  ·have l:(j:Int)<y:=by omega
   go_enter Tryz.func284,Tryz.ntmps284
   go_wp2_with (first|(go_at_call 285;refine c.out.mono ?_;rintro r a ⟨rfl,n,rfl⟩)|(go_at_call 306;refine (d _).out.mono ?_;rintro r a ⟨rfl,rfl⟩))
   go_ret
   exact ⟨rfl,_,rfl⟩
  ·have l:y<(k:Int):=by omega
   go_enter Tryz.func284,Tryz.ntmps284
   go_wp2_with (first|(go_at_call 285;refine c.out.mono ?_;rintro r a ⟨rfl,n,rfl⟩)|(go_at_call 306;refine (d _).out.mono ?_;rintro r a ⟨rfl,rfl⟩))
   go_ret
   exact ⟨rfl,_,rfl⟩
 ·have l:x<0:=by omega
  go_enter Tryz.func284,Tryz.ntmps284
  go_wp2_with (first|(go_at_call 285;refine c.out.mono ?_;rintro r a ⟨rfl,n,rfl⟩)|(go_at_call 306;refine (d _).out.mono ?_;rintro r a ⟨rfl,rfl⟩))
  go_ret
  exact ⟨rfl,_,rfl⟩
def P5 (a:e.Ok) (i:Nat) (h:0<=e.iC i):e.num i=e.iC i:=by
 have b:e.iC i<18446744073709551616:=by
  unfold Ev.iC
  split
  ·have:=a.task.2;omega
  ·have:=a.group.2;omega
  ·have:=a.to.2;omega
  ·have:=a.weight.2;omega
  ·have:=a.ticks.2;omega
  ·have:=a.mask;omega
  ·have:=a.got.2;omega
 unfold Ev.num
 rw [ad3]
 omega
def zcc (m c:Nat) (hm:m<18446744073709551616):(bits .and .u64 ((m:Int)/2^c) 1==1)=decide (m/2^c%2=1):=by
 have e1:(m:Int)/2^c=((m/2^c:Nat):Int):=by simp
 have a:m/2^c<18446744073709551616:=Nat.lt_of_le_of_lt (Nat.div_le_self _ _) hm
 have e2:bits .and .u64 ((m/2^c:Nat):Int) 1=_:=u64_and_nat (m/2^c) 1 a (by omega)
 rw [e1,e2,nat_mask1]
 by_cases h:m/2^c%2=1
 ·rw [h];rfl
 ·have:m/2^c%2=0:=by omega
  rw [this];rfl
set_option maxRecDepth 100000 in
set_option maxHeartbeats 2000000 in
theorem q06 (e:Ev) (k:e.Ok) (hc:e.cpu<64) (b i:Nat) (hi:i<7) (w:ajg) (hb:kg w b e) (d:0<=e.iC i/\((e.lim i).1:Int)<=e.num i/\e.num i<=((e.lim i).2:Int)):
  Calls Tryz.prog 284 #[.pointer (some ⟨b,0,none⟩),.int .i64 (i:Int)] w λr a=>r= .returned (.bool (if i=2 then decide (e.to≠(e.cpu:Int)) else if i=5 then decide (e.mask/2^e.cpu%2=1) else true))/\∃n,a=w.drewN n:=by
 have f:=hide (Mv e k b i hi w hb)
 have g:∀n,Hid (Calls Tryz.prog 306 #[.pointer (some ⟨b,0,none⟩),.int .i64 (i:Int)] (w.drewN n) λr a=>r= .returned (.tuple #[.int .u64 ((e.lim i).1:Int),.int .u64 ((e.lim i).2:Int)])/\a=w.drewN n):=λn=>hide (PZ e b i hi _ (hb.keep λ_ _ h=>h))
 have s:=hb.to
 have t:=hb.cpu
 have j:=P5 k i d.1
 have hm:=k.mask
 clear hb k
 have c:i=5->e.num i=(e.mask:Int):=by rintro rfl;exact j
 clear j
 generalize e.iC i=x at d f
 generalize e.num i=y at d f c
 generalize e.lim i=z at d g
 obtain ⟨u,m⟩:=z
 obtain ⟨v,hb,l⟩:=d
 simp only at hb l g
 have o:=hide c
 clear c
 obtain rfl|rfl|rfl|rfl|rfl|rfl|rfl:i=2\/i=5\/i=0\/i=1\/i=3\/i=4\/i=6:=by omega
 ·go_enter Tryz.func284,Tryz.ntmps284
  go_wp2_with (first|(go_at_call 285;refine f.out.mono ?_;rintro r a ⟨rfl,n,rfl⟩)|(go_at_call 306;refine (g _).out.mono ?_;rintro r a ⟨rfl,rfl⟩))
  go_quiet (fail)
  go_wp2
  go_ret
  exact ⟨by by_cases h:e.to=(e.cpu:Int)<;>simp [h],_,rfl⟩
 ·have p:y=(e.mask:Int):=o.out rfl
  subst p
  go_enter Tryz.func284,Tryz.ntmps284
  go_wp2_with (first|(go_at_call 285;refine f.out.mono ?_;rintro r a ⟨rfl,n,rfl⟩)|(go_at_call 306;refine (g _).out.mono ?_;rintro r a ⟨rfl,rfl⟩))
  go_ret
  exact ⟨by have q:=zcc e.mask e.cpu hm;simpa using q,_,rfl⟩
 all_goals
  go_enter Tryz.func284,Tryz.ntmps284
  go_wp2_with (first|(go_at_call 285;refine f.out.mono ?_;rintro r a ⟨rfl,n,rfl⟩)|(go_at_call 306;refine (g _).out.mono ?_;rintro r a ⟨rfl,rfl⟩))
  go_ret
  exact ⟨rfl,_,rfl⟩
def Xm (e:Ev) (b:e.Ok) (i:Nat) (hi:i<7):e.within i=(decide (0<=e.iC i/\((e.lim i).1:Int)<=e.num i/\e.num i<=((e.lim i).2:Int))&& (if i=2 then decide (e.to≠(e.cpu:Int)) else if i=5 then decide (e.mask/2^e.cpu%2=1) else true)):=by
 by_cases a:0<=e.iC i
 ·rw [P5 b i a]
  have hm:=b.mask
  obtain rfl|rfl|rfl|rfl|rfl|rfl|rfl:i=0\/i=1\/i=2\/i=3\/i=4\/i=5\/i=6:=by omega
  all_goals simp only [Ev.iC,Ev.lim,Ev.within] at*
  ·rw [ab3];simp;omega
  ·rw [ab3];by_cases h:e.kind=8<;>simp [h]<;>omega
  ·rw [ab3];simp;omega
  ·rw [ab3];simp;omega
  ·rw [ab3];simp;omega
  ·rw [ab3];simp
   intro h
   have c:e.mask≠0:=by rintro a;rw [a] at h;simp at h
   omega
  ·rw [ab3];by_cases h:e.kind=5\/e.kind=6<;>simp [h]<;>omega
 ·have:decide (0<=e.iC i/\((e.lim i).1:Int)<=e.num i/\e.num i<=((e.lim i).2:Int))=false:=by simp;intro h;omega
  rw [this]
  obtain rfl|rfl|rfl|rfl|rfl|rfl|rfl:i=0\/i=1\/i=2\/i=3\/i=4\/i=5\/i=6:=by omega
  all_goals simp only [Ev.iC,Ev.within] at*
  ·simp;omega
  ·simp;intro h;split at h<;>omega
  ·simp;omega
  ·simp;omega
  ·simp;omega
  ·omega
  ·simp;intro h;split at h<;>omega
def q07 (e:Ev) (a:e.Ok) (hc:e.cpu<64) (b i:Nat) (hi:i<7) (w:ajg) (hb:kg w b e):
  Calls abt 284 #[.pointer (some ⟨b,0,none⟩),.int .i64 (i:Int)] w λr d=>r= .returned (.bool (e.within i))/\∃n,d=w.drewN n:=by
 by_cases c:0<=e.iC i/\((e.lim i).1:Int)<=e.num i/\e.num i<=((e.lim i).2:Int)
 ·refine (q06 e a hc b i hi w hb c).mono ?_
  rintro r d ⟨rfl,h⟩
  exact ⟨by rw [Xm e a i hi];simp [c],h⟩
 ·refine (q4l e a b i hi w hb c).mono ?_
  rintro r d ⟨rfl,h⟩
  exact ⟨by rw [Xm e a i hi];simp [c],h⟩
def zoh (l:List Nat) (x:Nat) (i:ajh):Prop:=∃k,k<=abr l/\i= .int .i64 (k:Int)/\x∉l.take k
set_option maxHeartbeats 400000 in
theorem q4n (A:ajq) (n c B x:Nat) (l:List Nat) (w:ajg) (hr:Rd w B 1 A n (l.map bL)) (u:n<=140737488355328):
  Calls Tryz.prog 268 #[.slice A n c,.int .i64 (x:Int)] w λr m=>(∃k:Int,r= .returned (.int .i64 k)/\(0<=k↔x∈l))/\m=w:=by
 have j:l.length=n:=by simpa using hr.len
 go_enter Tryz.func268,Tryz.ntmps268
 go_wp2
 go_loop [8] (zoh l x) (λi=>n- (intOf i).toNat)
 case atStart=>exact ⟨0,by omega,rfl,by simp⟩
 case round=>
  obtain ⟨k,v,rfl,d⟩:=hrel
  by_cases e:k<n
  ·obtain ⟨z,rfl,o,p,a⟩:=hr.at e
   simp only [List.getElem_map] at a
   have f:l.take (k+1)=l.take k++[l[k]]:=List.take_succ_eq_append_getElem (by omega)
   have hm:l[k]∈l:=List.getElem_mem _
   generalize l[k]=y at a f hm
   unfold bL at a
   have q:=hide f
   clear f
   by_cases g:x=y
   ·have s:((x:Int)==(y:Int))=true:=by rw [beq_iff_eq];omega
    have H:=hide g
    clear g
    go_wp2
    go_ret
    exact ⟨⟨_,rfl,by rw [H.out];exact ⟨λ_=>hm,λ_=>by omega⟩⟩,rfl⟩
   ·have s:((x:Int)==(y:Int))=false:=by rw [beq_eq_false_iff_ne];omega
    go_wp2
    refine ⟨⟨k+1,by omega,by go_num,?_⟩,by simp [intOf];omega⟩
    rw [q.out]
    simp [d,g]
  ·have:k=n:=by omega
   have b:x∉l:=by rwa [List.take_of_length_le (by omega)] at d
   have t:=hide b
   clear this d b
   go_wp2
   go_ret
   exact ⟨⟨-1,rfl,⟨λh=>by omega,λh=>absurd h t.out⟩⟩,rfl⟩
set_option maxHeartbeats 400000 in
theorem qrx (A:ajq) (n c B x:Nat) (l:List Nat) (w:ajg) (hr:Rd w B 1 A n (l.map bL)) (b:n<=140737488355328):
  Calls Tryz.prog 213 #[.slice A n c,.int .i64 (x:Int)] w λr a=>r= .returned (.bool (l.contains x))/\a=w:=by
 have H:=hide (q4n A n c B x l w hr b)
 go_enter Tryz.func213,Tryz.ntmps213
 go_wp2_with (go_at_call 268;refine H.out.mono ?_;rintro r a ⟨⟨k,rfl,d⟩,rfl⟩)
 go_ret
 refine ⟨?_,rfl⟩
 have:(l.contains x)=decide (x∈l):=by rw [Bool.eq_iff_iff];simp
 rw [this]
 rfl
def Cj:∀(k i:Nat),i∈aB k->i<7:=by
 intro k i h
 unfold aB at h
 split at h<;>simp at h<;>omega
theorem AJ (k:Nat):abr (aB k)<=4:=by
 unfold aB;split<;>simp
def zcd (a:e.Ok) (i:Nat):e.num i=0↔e.iC i=0:=by
 have b: -9223372036854775808<=e.iC i/\e.iC i<18446744073709551616:=by
  unfold Ev.iC
  split
  ·have:=a.task;unfold aX at this;omega
  ·have:=a.group;unfold aX at this;omega
  ·have:=a.to;unfold aX at this;omega
  ·have:=a.weight;unfold aX at this;omega
  ·have:=a.ticks;unfold aX at this;omega
  ·have:=a.mask;omega
  ·have:=a.got;unfold aX at this;omega
 unfold Ev.num
 rw [ad3]
 omega
def zju (e:Ev) (w:ajg) (i:ajh) (wr:ajg):Prop:=
 ∃k m,k<=abr (aB e.kind)/\i= .int .i64 (k:Int)/\((aB e.kind).take k).all e.within=true/\wr=w.drewN m
def zjv (e:Ev) (w:ajg) (i:ajh) (wr:ajg):Prop:=
 ∃k m:Nat,k<=7/\i= .int .i64 (k:Int)/\(acw k).all (λi=>decide (e.iC i=0)||(aB e.kind).contains i)=true/\wr=w.drewN m
set_option maxRecDepth 100000 in
set_option maxHeartbeats 2000000 in
theorem P6 (e : Ev) (M : e.Ok) (B : Nat) (w : ajg) (hL : Laid B w) (hB : B <= w.heap.size) :
  Calls Tryz.prog 243 #[.agg e.cells] w λr l=>r= .returned (.int .i64 (e.check:Int))/\Below w.heap.size w l:=by
 have g:=kg.new w e 73
 have d:Below w.heap.size w (w.alloc (.cells e.cells 73)):=(Below.refl _ _).alloc (Nat.le_refl _) _
 have x:=hL.alloc hB (.cells e.cells 73)
 obtain ⟨s,N⟩:∃s,Hid (e.cells=s):=⟨_,hide rfl⟩
 rw [N.out] at g d x⊢
 by_cases o:e.kind=0\/10<e.kind
 ·have h3:=g.kind
  have j:e.check=60:=by unfold Ev.check;rw [if_pos o]
  have p:=hide j
  clear j
  rcases o with o|o
  ·have y:((e.kind:Int)==0)=true:=by rw [beq_iff_eq];omega
   clear o
   go_enter Tryz.func243,Tryz.ntmps243
   go_wp2
   go_ret
   exact ⟨by rw [p.out];rfl,d⟩
  ·have y:((e.kind:Int)==0)=false:=by rw [beq_eq_false_iff_ne];omega
   have z:10<(e.kind:Int):=by omega
   clear o
   go_enter Tryz.func243,Tryz.ntmps243
   go_wp2
   go_ret
   exact ⟨by rw [p.out];rfl,d⟩
 ·obtain ⟨h0, h1, h2, h3, h4, h5, h6, h7, h8, h9, O⟩ := id g
  have y:((e.kind:Int)==0)=false:=by rw [beq_eq_false_iff_ne];omega
  have z:(e.kind:Int)<=10:=by omega
  clear h4 h5 h6 h7 h8 h9 O
  by_cases P:e.seq<1\/281474976710656<e.seq\/e.time<0\/281474976710656<e.time\/64<=e.cpu
  ·have j:e.check=61:=by unfold Ev.check;rw [if_neg o,if_pos P]
   have p:=hide j
   have t:(e.seq<1)\/(1<=e.seq/\281474976710656<e.seq)\/(1<=e.seq/\e.seq<=281474976710656/\e.time<0)\/(1<=e.seq/\e.seq<=281474976710656/\0<=e.time/\281474976710656<e.time)\/(1<=e.seq/\e.seq<=281474976710656/\0<=e.time/\e.time<=281474976710656/\(64:Int)<=e.cpu):=by omega
   clear j o P
   rcases t with F|⟨F,Q⟩|⟨F,Q,Y⟩|⟨F,Q,Y,a4⟩|⟨F,Q,Y,a4,a5⟩
   all_goals
    go_enter Tryz.func243,Tryz.ntmps243
    go_wp2
    go_ret
    exact ⟨by rw [p.out];rfl,d⟩
  ·have hr1 : 1 <= e.seq := by omega
   have hr2:e.seq<=281474976710656:=by omega
   have hr3:0<=e.time:=by omega
   have hr4:e.time<=281474976710656:=by omega
   have R:e.cpu<64:=by omega
   clear P
   obtain ⟨A,c,hu,C⟩:=x.uses e.kind (by omega)
   have Z:=AJ e.kind
   go_enter Tryz.func243,Tryz.ntmps243
   go_wp2
   go_loopw [44] (zju e (w.alloc (.cells s 73))) (λi _=>(aB e.kind).length- (intOf i).toNat)
   case atStart=>exact ⟨0,0,by omega,rfl,by simp,rfl⟩
   case round =>
    obtain ⟨k,m,o,rfl,a,rfl⟩:=hrel
    by_cases u:k<(aB e.kind).length
    ·obtain ⟨ad,rfl,hbl,hl',f⟩:=C.at u
     simp only [List.getElem_map] at f
     have hi:=Cj e.kind _ (List.getElem_mem u)
     have v:(aB e.kind).take (k+1)=(aB e.kind).take k++[(aB e.kind)[k]]:=List.take_succ_eq_append_getElem u
     have hm:(aB e.kind)[k]∈aB e.kind:=List.getElem_mem _
     generalize (aB e.kind)[k]=i at f hi v hm
     unfold bL at f
     have G:=hide (q07 e M R w.heap.size i hi ((w.alloc (.cells s 73)).drewN m) (g.keep λ_ _ h=>h))
     have H:=hide v
     have I:=hide a
     clear v a
     by_cases J:e.within i=true
     ·rw [J] at G
      go_wp2_with (go_at_call 284;refine G.out.mono ?_;rintro r l ⟨rfl,n,rfl⟩)
      refine ⟨⟨k+1,m+n,by omega,by go_num,?_,by simp⟩,by simp [intOf];omega⟩
      rw [H.out];simp [J];simpa using I.out
     ·rw [show e.within i=false by simpa using J] at G
      go_wp2_with (go_at_call 284;refine G.out.mono ?_;rintro r l ⟨rfl,n,rfl⟩)
      go_ret
      refine ⟨?_,below_drewN d _⟩
      have:e.check=61:=by
       have:(aB e.kind).all e.within=false:=by rw [List.all_eq_false];exact ⟨i,hm,by simpa using J⟩
       unfold Ev.check;rw [if_neg (by omega),if_neg (by omega),if_pos this]
      rw [this];rfl
    ·have S : (aB e.kind).length <= k := by omega
     have D:(aB e.kind).all e.within=true:=by rwa [List.take_of_length_le S] at a
     have I:=hide D
     clear D a
     have hz1:(0:Int)<7:=by omega
     go_wp2
     go_loopw [52] (zjv e (w.alloc (.cells s 73))) (λi _=>7- (intOf i).toNat)
     case atStart=>exact ⟨0,m,by omega,rfl,by simp,rfl⟩
     case round =>
      obtain ⟨b,T,hk2,rfl,a,rfl⟩:=hrel
      by_cases E:b<7
      ·have U:=hide (Mv e M w.heap.size b E ((w.alloc (.cells s 73)).drewN T) (g.keep λ_ _ h=>h))
       have HN:=hide (zcd M b)
       have v:List.range (b+1)=List.range b++[b]:=List.range_succ
       have H:=hide v
       have K:=hide a
       clear v a
       have p:∀L,Hid (Calls Tryz.prog 213 #[.slice A (aB e.kind).length c,.int .i64 (b:Int)] ((w.alloc (.cells s 73)).drewN L) λr l=>r= .returned (.bool ((aB e.kind).contains b))/\l=(w.alloc (.cells s 73)).drewN L):=λL=>hide (qrx A _ c B b (aB e.kind) _ (C.drewN L) (by omega))
       by_cases hz:e.iC b=0
       ·have V:(e.num b !=0)=false:=by simp [HN.out,hz]
        have W:=hide hz
        clear hz
        go_wp2_with (go_at_call 285;refine U.out.mono ?_;rintro r l ⟨rfl,n,rfl⟩)
        refine ⟨⟨b+1,T+n,by omega,by go_num,?_,by simp⟩,by simp [intOf];omega⟩
        rw [H.out,List.all_append,K.out];simp [W.out]
       ·have V:(e.num b !=0)=true:=by simp [HN.out,hz]
        have W:=hide hz
        clear hz
        by_cases q:(aB e.kind).contains b=true
        ·rw [q] at p
         go_wp2_with (first|(go_at_call 285;refine U.out.mono ?_;rintro r l ⟨rfl,n,rfl⟩)|(go_at_call 213;refine (p _).out.mono ?_;rintro r l ⟨rfl,rfl⟩))
         refine ⟨⟨b+1,T+n,by omega,by go_num,?_,by simp⟩,by simp [intOf];omega⟩
         rw [H.out,List.all_append,K.out];simp only [List.all_cons,List.all_nil,q];simp
        ·rw [show (aB e.kind).contains b=false by simpa using q] at p
         go_wp2_with (first|(go_at_call 285;refine U.out.mono ?_;rintro r l ⟨rfl,n,rfl⟩)|(go_at_call 213;refine (p _).out.mono ?_;rintro r l ⟨rfl,rfl⟩))
         go_ret
         refine ⟨?_,below_drewN d _⟩
         have:e.check=62:=by
          have X:(List.range 7).all (λi=>decide (e.iC i=0)||(aB e.kind).contains i)=false:=by
           rw [List.all_eq_false];exact ⟨b,by simp;omega,by simp [W.out];simpa using q⟩
          unfold Ev.check;rw [if_neg (by omega),if_neg (by omega),if_neg (by rw [I.out];simp),if_pos X]
         rw [this];rfl
      ·have afW:(7:Int)<=b:=by omega
       obtain rfl:b=7:=by omega
       have K:=hide a
       clear a
       go_wp2
       go_ret
       refine ⟨?_,below_drewN d _⟩
       have:e.check=0:=by
        unfold Ev.check;rw [if_neg (by omega),if_neg (by omega),if_neg (by rw [I.out];simp),if_neg (by rw [K.out];simp)]
       rw [this];rfl
def q4o (w:ajg) (kind:Nat) (v i:ajh) (wr:ajg):Prop:=
 ∃k xs,k<=abr (aB kind)/\i= .int .i64 (k:Int)/\wr.ownsRow w.heap.size 9 1 v k xs/\Below w.heap.size w wr
set_option maxRecDepth 100000 in
set_option maxHeartbeats 1000000 in
theorem q08 (kind:Nat) (x:kind<256) (B:Nat) (w:ajg) (o:Laid B w) (p:B<=w.heap.size):
  Calls Tryz.prog 317 #[.int .u8 (kind:Int)] w λr q=>∃v xs,r= .returned v/\q.ownsRow w.heap.size 9 1 v (aB kind).length xs/\Below w.heap.size w q:=by
 by_cases y:10<kind
 ·have l:(10:Int)<(kind:Int):=by omega
  have m:aB kind=[]:=by unfold aB;split<;>first|rfl|omega
  have z:=hide m
  clear m
  go_enter Tryz.func317,Tryz.ntmps317
  go_wp2
  go_ret
  exact ⟨_,[],rfl,by rw [z.out];exact World.ownsRow_nil _ _ _ _,Below.refl _ _⟩
 ·have l:(kind:Int)<=10:=by omega
  obtain ⟨A,c,m,f⟩:=o.uses kind (by omega)
  have t:=AJ kind
  go_enter Tryz.func317,Tryz.ntmps317
  go_wp2
  go_loopw [3,12] (q4o w kind) (λ_ i _=>(aB kind).length- (intOf i).toNat)
  case atStart=>exact ⟨0,[],by omega,rfl,World.ownsRow_nil _ _ _ _,Below.refl _ _⟩
  case round=>
   obtain ⟨k,xs,y,rfl,b,d⟩:=hrel
   have n:=o.below d p
   by_cases h:k<(aB kind).length
   ·obtain ⟨F,rfl,C,D,a⟩:=(f.below (d.mono p)).at h
    simp only [List.getElem_map] at a
    have hi:=Cj kind _ (List.getElem_mem h)
    generalize (aB kind)[k]=i at a hi
    unfold bL at a
    obtain ⟨s,hs⟩:=n.names i hi
    go_wp2_with (at_builtin;refine Xe rfl rfl zoe (b.alloc _) rfl (Rd.one wr _ _) rfl (by simp [Value.oneCell']) (by omega) (by omega) (by simp;have:=d.size;omega) ?_;intro G H I e j u)
    refine ⟨⟨k+1,_,by omega,by go_num,e,(d.alloc d.size _).grown j (by simp;have:=d.size;omega) (λg E=>(b.lt g E).1)⟩,by simp [intOf];omega⟩
   ·obtain rfl:k=(aB kind).length:=by omega
    clear f
    go_wp2
    go_ret
    exact ⟨_,_,rfl,b,d⟩
def aas (i x:Nat):ajh:=if i=5 then .int .u64 (x:Int) else .int .i64 (wrap64 (x:Int))
def Ev.fits (i x:Nat):Bool:=i=5||decide (0<=wrap64 (x:Int))
set_option maxRecDepth 100000 in
set_option maxHeartbeats 1000000 in
theorem Xn (b i:Nat) (hi:i<7) (w:ajg):
  Calls Tryz.prog 307 #[.pointer (some ⟨b,0,none⟩),.int .i64 (i:Int)] w λr a=>r= .returned (.iface (if i=5 then 442 else 439) (.pointer (some ⟨b,4+i,none⟩)))/\a=w:=by
 obtain rfl|rfl|rfl|rfl|rfl|rfl|rfl:i=0\/i=1\/i=2\/i=3\/i=4\/i=6\/i=5:=by omega
 all_goals
  go_enter Tryz.func307,Tryz.ntmps307
  go_wp2
  go_ret
  exact ⟨rfl,rfl⟩
set_option maxRecDepth 100000 in
set_option maxHeartbeats 1000000 in
theorem zjw (b i x:Nat) (hi:i<7) (w:ajg) (u:ajh) (hb:w.cell? ⟨b,4+i,none⟩=some u) (a:w.frozen? ⟨b,4+i,none⟩=false):
  Calls Tryz.prog 321 #[.pointer (some ⟨b,0,none⟩),.int .i64 (i:Int),.int .u64 (x:Int)] w λr c=>r= .returned (.bool (Ev.fits i x))/\c=w.setCell ⟨b,4+i,none⟩ (aas i x):=by
 have e:=Xi
 have f:=Xj
 have g:=Xk
 have hs:=World.cell?_setCell_same w ⟨b,4+i,none⟩ (.int .i64 (wrap64 (x:Int))) hb
 obtain rfl|rfl|rfl|rfl|rfl|rfl|rfl:i=0\/i=1\/i=2\/i=3\/i=4\/i=6\/i=5:=by omega
 case inr.inr.inr.inr.inr.inr=>
  go_enter Tryz.func321,Tryz.ntmps321
  go_wp2_with (go_at_call 307;refine (Xn b 5 (by omega) _).mono ?_;rintro r d ⟨rfl,rfl⟩;simp only [reduceIte])
  go_ret
  exact ⟨by simp [Ev.fits],by simp [aas]⟩
 all_goals
  simp only [Nat.reduceAdd] at hs hb a
  go_enter Tryz.func321,Tryz.ntmps321
  go_wp2_with (go_at_call 307;refine (Xn b _ (by omega) _).mono ?_;rintro r d ⟨rfl,rfl⟩;simp only [reduceIte,Nat.reduceEqDiff])
  go_ret
  exact ⟨by simp [Ev.fits],by simp [aas]⟩
def zjx (e:Ev) (base:Nat) (a:ajg) (v i:ajh) (wr:ajg):Prop:=
 ∃k,k<=abr (aB e.kind)/\i= .int .i64 (k:Int)/\wr.ownsRow base 41 1 v k ((e.vals.take k).map bG)/\Below base a wr
def vM (h:e.check=0):(e.kind=0\/10<e.kind)=False/\(aB e.kind).all e.within=true/\e.cpu<64/\1<=e.seq/\e.seq<=281474976710656/\0<=e.time/\e.time<=281474976710656:=by
 unfold Ev.check at h
 split at h
 ·cases h
 ·split at h
  ·cases h
  ·split at h
   ·cases h
   ·rename_i a c b
    exact ⟨by simp only [a],by simpa using b,by omega,by omega,by omega,by omega,by omega⟩
def qc6 {e:Ev}:∀{i:Nat},e.within i=true->0<=e.iC i
 |0,h=>by simp only [Ev.within,decide_eq_true_eq] at h;show 0<=e.task;omega
 |1,h=>by simp only [Ev.within,decide_eq_true_eq] at h;show 0<=e.group;have:=h.1;split at this<;>omega
 |2,h=>by simp only [Ev.within,decide_eq_true_eq] at h;show 0<=e.to;omega
 |3,h=>by simp only [Ev.within,decide_eq_true_eq] at h;show 0<=e.weight;omega
 |4,h=>by simp only [Ev.within,decide_eq_true_eq] at h;show 0<=e.ticks;omega
 |5,_=>by show 0<=(e.mask:Int);omega
 |n+6,h=>by simp only [Ev.within,decide_eq_true_eq] at h;show 0<=e.got;have:=h.1;split at this<;>omega
def Xo (b:e.Ok) (h:e.check=0) {i:Nat} (hi:i∈aB e.kind):e.num i=(((e.iC i).toNat:Nat):Int):=by
 have a:=(vM h).2.1
 rw [ace] at a
 have c:=qc6 (a i hi)
 rw [P5 b i c]
 omega
def Ev.qc5 (e:Ev):List Nat:=if e.check=0 then e.vals else []
structure vO (w:ajg) (err:Nat) (xs:List Nat) (r:ajk) (w':ajg):Prop where
 ret:∃v,r= .returned (.tuple #[v,.int .i64 (err:Int)])/\w'.ownsRow w.heap.size 41 1 v (abr xs) (xs.map bG)
 below:Below w.heap.size w w'
set_option maxRecDepth 100000 in
set_option maxHeartbeats 1000000 in
theorem q09 (e:Ev) (z:e.Ok) (B:Nat) (w:ajg) (S:Laid B w) (T:B<=w.heap.size):
  Calls Tryz.prog 286 #[.agg e.cells] w (vO w e.check e.qc5):=by
 have j:=kg.new w e 73
 have l:Below w.heap.size w (w.alloc (.cells e.cells 73)):=(Below.refl _ _).alloc (Nat.le_refl _) _
 have m:=S.alloc T (.cells e.cells 73)
 have C:=hide (P6 e z B _ m (by simp;omega))
 obtain ⟨U,D,V,N,W,X,Y,Z,h8,h9,E⟩:=id j
 unfold Ev.cells at*
 by_cases f:e.check=0
 ·have F:((e.check:Int) !=0)=false:=by rw [bne_eq_false_iff_eq];omega
  have G:=hide (show e.qc5=e.vals by unfold Ev.qc5;rw [if_pos f])
  have HN:=hide (λi (hi:i∈aB e.kind)=>Xo z f hi)
  have O:e.kind<=10:=by have:=(vM f).1;simp at this;omega
  have P:=AJ e.kind
  have s:Hid (e.vals.length=(aB e.kind).length):=by unfold Ev.vals;rw [List.length_map];exact hide rfl
  have H:=hide f
  clear f
  go_enter Tryz.func286,Tryz.ntmps286
  go_wp2_with (go_at_call 243;refine C.out.mono ?_;rintro r x ⟨rfl,a⟩;have I:=(a.cell (p:=⟨w.heap.size,3,none⟩) (by simp)).trans N;obtain ⟨A,c,hu,t⟩:=(m.below a (by simp;omega)).uses e.kind (by omega))
  have hbz:w.heap.size+1<=x.heap.size:=by have:=a.size;simpa using this
  have u:=j.below a (by simp)
  have J:Below w.heap.size w x:=l.trans (a.mono (by simp))
  clear U D V N W X Y Z h8 h9 E j l C m
  go_loopw [5,20] (zjx e (w.heap.size+1) x) (λ_ i _=>(aB e.kind).length- (intOf i).toNat)
  case atStart=>exact ⟨0,by omega,rfl,World.ownsRow_nil _ _ _ _,Below.refl _ _⟩
  case round=>
   obtain ⟨k,f,rfl,d,n⟩:=hrel
   by_cases o:k<(aB e.kind).length
   ·obtain ⟨ad,rfl,hbl,hl',b⟩:=(t.below (n.mono (by omega))).at o
    simp only [List.getElem_map] at b
    have hi:=Cj e.kind _ (List.getElem_mem o)
    have hm:(aB e.kind)[k]∈aB e.kind:=List.getElem_mem _
    have Q:e.vals[k]?=some (e.iC (aB e.kind)[k]).toNat:=by unfold Ev.vals;rw [List.getElem?_map,List.getElem?_eq_getElem o];rfl
    have K:=hide (qpm bG Q)
    clear Q
    generalize (aB e.kind)[k]=i at b hi hm K
    unfold bL at b
    have h:=HN.out i hm
    have L:=hide (Mv e z w.heap.size i hi wr (u.below n (by omega)))
    rw [h] at L
    clear h
    generalize (e.iC i).toNat=y at L K
    go_wp2_with (first|(go_at_call 285;refine L.out.mono ?_;rintro r w' ⟨rfl,M,rfl⟩)|(at_builtin;refine Xe rfl rfl kT ((own_drewN d M).alloc _) rfl (Rd.one (wr.drewN M) _ _) rfl (by simp [Value.oneCell']) (by omega) (by omega) (by simp;have:=n.size;omega) ?_;intro A2 c2 w2 q v R))
    refine ⟨⟨k+1,by omega,by go_num,by rw [<-K.out];exact q,((below_drewN n M).alloc (by simp;have:=n.size;omega) _).grown v (by simp;have:=n.size;omega) (λg hg=>(d.lt g hg).1)⟩,by simp [intOf];omega⟩
   ·obtain rfl:k=(aB e.kind).length:=by omega
    clear t
    go_wp2
    go_ret2
    have D:=H.out
    refine ⟨⟨_,by rw [D];rfl,?_⟩,J.trans (n.mono (by omega))⟩
    rw [G.out,s.out]
    rw [List.take_of_length_le (by rw [s.out];omega)] at d
    exact PX d (by omega)
 ·have F:((e.check:Int) !=0)=true:=by rw [bne_iff_ne];omega
  have G:=hide (show e.qc5=[] by unfold Ev.qc5;rw [if_neg f])
  clear f
  go_enter Tryz.func286,Tryz.ntmps286
  go_wp2_with (go_at_call 243;refine C.out.mono ?_;rintro r x ⟨rfl,a⟩)
  go_ret2
  exact ⟨⟨_,rfl,by rw [G.out];exact World.ownsRow_nil _ _ _ _⟩,l.trans (a.mono (by simp))⟩
theorem RX {α β:Type} {f g:α->Option β}:∀{l:List α},(∀x∈l,f x=g x)->l.filterMap f=l.filterMap g:=by intro x;induction x<;>grind
def iO (n:Nat) (p:Nat->Bool):Bool:=(acw n).all p
theorem wI (h:∀i,i<n->p i=true):iO n p=true:=ace.2 λi hi=>h i (aei.1 hi)
theorem wJ (h:iO n p=true) {i:Nat} (hi:i<n):p i=true:=ace.1 h i (aei.2 hi)
theorem Bl (hi:i<n) (h:p i=false):iO n p=false:=by grind [iO,wJ]
def gK (k:Nat) (p:Nat->Bool):Prop:=∀i,i<k->p i=true
theorem gK.zero {p:Nat->Bool}:gK 0 p:=λi h=>by omega
def gK.succ {k:Nat} (h:gK k p) (hk:p k=true):gK (k+1) p:=λi hi=>by
 rcases ab0 i k with a|a
 ·exact h i a
 ·obtain rfl:i=k:=by omega
  exact hk
theorem gK.all (h:gK n p):iO n p=true:=wI h
structure Gr where
 parent:Int
 weight:Int
structure Tk where
 id:Int
 group:Int
 weight:Int
 cpu:Int
 mask:Nat
 ready:Bool
 v:Nat
 r:Nat
structure Sp where
 v:Nat
 r:Nat
 floor:Nat
def Gr.zero:Gr:=⟨0,0⟩
def Tk.zero:Tk:=⟨0,0,0,0,0,false,0,0⟩
def Sp.zero:Sp:=⟨0,0,0⟩
instance aau:DecidableEq Gr:=λ⟨a,b⟩ ⟨c,d⟩=>decidable_of_iff (a=c/\b=d) (by rw [Gr.mk.injEq])
instance aav:DecidableEq Tk:=λ⟨a,b,c,d,e,f,g,h⟩ ⟨i,j,k,l,m,n,o,p⟩=>decidable_of_iff (a=i/\b=j/\c=k/\d=l/\e=m/\f=n/\g=o/\h=p) (by rw [Tk.mk.injEq])
instance aaw:DecidableEq Sp:=λ⟨a,b,c⟩ ⟨d,e,f⟩=>decidable_of_iff (a=d/\b=e/\c=f) (by rw [Sp.mk.injEq])
structure Gr.Ok (x:Gr):Prop where
 parent:aX x.parent
 weight:aX x.weight
structure Tk.Ok (x:Tk):Prop where
 id:aX x.id
 group:aX x.group
 weight:aX x.weight
 cpu:aX x.cpu
 mask:x.mask<18446744073709551616
 v:x.v<18446744073709551616
 r:x.r<4294967296
structure Sp.Ok (x:Sp):Prop where
 v:x.v<18446744073709551616
 r:x.r<4294967296
 floor:x.floor<18446744073709551616
structure bI where
 au:Int
 aj:Nat
 gs:List Gr
 cl:List Int
 cu:List Int
 ts:List Tk
 sp:List (List Sp)
structure bI.Ok (s:bI):Prop where
 au:aX s.au
 aj:s.aj<18446744073709551616
 gs:∀x∈s.gs,x.Ok
 cl:∀x∈s.cl,aX x
 cu:∀x∈s.cu,aX x
 ts:∀x∈s.ts,x.Ok
 sp:∀l∈s.sp,∀x∈l,x.Ok
def bI.spot (s:bI) (g c:Nat):Sp:=(s.sp.getD g []).getD c Sp.zero
def bI.par (s:bI) (g:Nat):Int:=(s.gs.getD g Gr.zero).parent
def jO (l:List Gr):Nat->Nat->Nat
 |0,_=>0
 |f+1,g=>if g=0 then 0 else jO l f (l.getD g Gr.zero).parent.toNat+1
def jq (l:List Gr) (g:Nat):Nat:=jO l g g
def fA (l:List Gr) (g:Nat):Prop:=0<=(l.getD g Gr.zero).parent/\(l.getD g Gr.zero).parent<g
def mK (w:Int):Bool:=decide (1<=w/\w<=65536)
def qQ (l:List Gr) (g:Nat):Bool:=g==0||decide (0<=(l.getD g Gr.zero).parent/\(l.getD g Gr.zero).parent<g/\(mK (l.getD g Gr.zero).weight=true)/\jq l g<=4)
def dO (l:List Gr):Bool:=decide (1<=abr l/\abr l<=256/\l.getD 0 Gr.zero=⟨0,1⟩)&&iO (abr l) (qQ l)
theorem q64 {l:List Gr}:∀(f g:Nat),(∀i,0<i->i<=g->fA l i)->g<=f->jO l f g=jO l g g:=by
 have key:∀(g f a:Nat),(∀i,0<i->i<=g->fA l i)->g<=f->g<=a->jO l f g=jO l a g:=by
  intro g
  induction g using Nat.strongRecOn with
  | _ g d =>
   intro f a b e h
   by_cases c:g=0
   ·subst c
    cases f<;>cases a<;>simp [jO]
   ·obtain ⟨f,rfl⟩:∃k,f=k+1:=⟨f-1,by omega⟩
    obtain ⟨a,rfl⟩:∃k,a=k+1:=⟨a-1,by omega⟩
    have j:=b g (by omega) (abx _)
    grind [Gr.zero,fA,jO]
 grind
def q65 (l:List Gr):jq l 0=0:=rfl
def RY {l:List Gr} (h:∀i,0<i->i<=g->fA l i) (a:0<g):jq l g=jq l (l.getD g Gr.zero).parent.toNat+1:=by
 obtain ⟨k,rfl⟩:∃k,g=k+1:=⟨g-1,by omega⟩
 have b:=h (k+1) a (abx _)
 unfold fA at b
 show jO l (k+1) (k+1)=_
 rw [jO,if_neg (by omega),q64 k _ (λi hi c=>h i hi (by omega)) (by omega)]
 rfl
def ND {l:List Gr} (h:qQ l g=true) (a:0<g):fA l g:=by
 unfold qQ at h
 rw [adD,beq_iff_eq,decide_eq_true_eq] at h
 rcases h with h|h
 ·omega
 ·exact ⟨h.1,h.2.1⟩
theorem qt {l:List Gr} (h:dO l=true):1<=abr l/\abr l<=256/\l.getD 0 Gr.zero=⟨0,1⟩/\∀g,g<abr l->qQ l g=true:=by grind [wJ,dO]
def cO (v r:Nat) (w:Int):Bool:=decide (1<=w/\w<=65536/\(r:Int)<w/\(v<18446744073709551615\/r=0))
def yN (mask:Nat) (au:Int):Bool:=decide (2^au.toNat<=mask)
def eG (s:bI) (t:Tk):Bool:=
 decide (1<=t.id/\t.id<=65535/\0<=t.group/\t.group<abr s.sp/\0<=t.cpu/\t.cpu<s.au)&& (mK t.weight&& (!yN t.mask s.au&& (decide (t.mask/2^t.cpu.toNat%2=1)&&cO t.v t.r t.weight)))
def gL (s:bI):Bool:=decide (1<=s.au/\s.au<=64/\s.aj<=1099511627776)&&dO s.gs
def iV (t:Int):Bool:=decide (0<=t/\t<=281474976710656)
def fq (s:bI) (g:Nat) (x:Sp):Bool:=cO x.v x.r (s.gs.getD g Gr.zero).weight&& (g !=0||decide (x.v=0/\x.r=0))
def rowOk (s:bI) (g:Nat):Bool:=decide (abr (s.sp.getD g [])=s.au)&&iO (abr (s.sp.getD g [])) λc=>fq s g (s.spot g c)
def jD (s:bI) (i:Nat):Bool:=(i==0||decide ((s.ts.getD (i-1) Tk.zero).id<(s.ts.getD i Tk.zero).id))&&eG s (s.ts.getD i Tk.zero)
def NG (s:bI):Bool:=decide ((abr s.cl:Int)=s.au/\(abr s.cu:Int)=s.au/\abr s.sp=abr s.gs)
def og (s:bI):Bool:=(gL s&&NG s)&& (iO (abr s.cl) (λc=>iV (s.cl.getD c 0))&& (iO (abr s.sp) (rowOk s)&&iO (abr s.ts) (jD s)))
structure Mb where
 v:Nat
 k:Nat
 id:Nat
def Mb.lt (a b:Mb):Bool:=decide (a.v<b.v\/a.v=b.v/\(a.k<b.k\/a.k=b.k/\a.id<b.id))
def aO (b:Mb) (l:List Mb):Mb:=l.foldl (λb x=>if x.lt b then x else b) b
def bP:Mb:=⟨18446744073709551615,18446744073709551615,18446744073709551615⟩
def Tk.here (t:Tk) (g c:Nat):Bool:=t.ready&& (decide (t.group=g)&&decide (t.cpu=c))
def wK (t:Tk) (g c:Nat):Option Mb:=if t.here g c then some ⟨t.v,0,t.id.toNat⟩ else none
def lV (s:bI) (c:Nat) (m:Nat->List Mb) (g h:Nat):Option Mb:=if s.par h=g/\m h≠[] then some ⟨(s.spot h c).v,1,h⟩ else none
def lW (s:bI) (c:Nat):Nat->Nat->List Mb
 |0,g=>s.ts.filterMap (wK · g c)
 |f+1,g=>s.ts.filterMap (wK · g c)++((acw (abr s.sp)).drop (g+1)).filterMap (lV s c (lW s c f) g)
def aU (s:bI) (g c:Nat):List Mb:=lW s c (abr s.sp-g) g
def kY (s:bI) (g c:Nat):Bool:=decide (aU s g c=[]\/(aO bP (aU s g c)).v<=(s.spot g c).floor)
def gQ (l:List Tk) (id:Int):Option Nat:=l.findIdx? λt=>t.id==id
def fB (s:bI) (c:Nat):Bool:=decide (s.cu.getD c 0=0)||match gQ s.ts (s.cu.getD c 0) with
 |some i=>(s.ts.getD i Tk.zero).ready&&decide ((s.ts.getD i Tk.zero).cpu=c)
 |none=>false
def lM (s:bI):Bool:=og s&&iO (abr s.cu) λc=>fB s c&&iO (abr s.sp) λg=>kY s g c
theorem q66 {s:bI} {c:Nat}:∀(n f a g:Nat),abr s.sp-g<=n->n<=f->n<=a->lW s c f g=lW s c a g:=by
 intro n
 induction n with
 | zero =>
  intro f a g b _ _
  have e:∀f,lW s c f g=s.ts.filterMap (wK · g c):=by
   intro f
   cases f with
   |zero=>rfl
   |succ f=>
    rw [lW,acu (by simp;omega)]
    simp
  rw [e f,e a]
 | succ n j =>
  intro f a g b l m
  obtain ⟨f,rfl⟩:∃k,f=k+1:=⟨f-1,by omega⟩
  obtain ⟨a,rfl⟩:∃k,a=k+1:=⟨a-1,by omega⟩
  rw [lW,lW]
  congr 1
  refine RX λh d=>?_
  have o:g<h:=by
   obtain ⟨i,hi,rfl⟩:=acn d
   grind
  grind [lV]
theorem NH (s:bI) (g c:Nat):aU s g c=s.ts.filterMap (wK · g c)++((acw (abr s.sp)).drop (g+1)).filterMap (lV s c (λh=>aU s h c) g):=by
 unfold aU
 rcases ab0 g (abr s.sp) with a|a
 ·obtain ⟨k,b⟩:∃k,abr s.sp-g=k+1:=⟨abr s.sp-g-1,by omega⟩
  rw [b,lW]
  congr 1
  refine RX λh d=>?_
  have e:g<h:=by
   obtain ⟨i,hi,rfl⟩:=acn d
   grind
  unfold lV
  rw [q66 (abr s.sp-h) k (abr s.sp-h) h (abx _) (by omega) (abx _)]
 ·rw [show abr s.sp-g=0 by omega,lW,acu (by simp;omega)]
  simp
structure SI (P:aji) (t:ajj) (n:Nat):Prop where
 row:(P.underlying t).map TypeDesc.isRow=some true
 size:(P.info? t).map (·.size)=some n
def SI.desc (b:SI P t n):∃d,P.underlying t=some d/\d.isRow=true:=by
 have h:=b.row
 cases hu:P.underlying t with
 |none=>rw [hu] at h;cases h
 |some d=>rw [hu] at h;exact ⟨d,rfl,by simpa using h⟩
section
variable {P:aji} {ops:Array ajm} {rest:List ajm} {op:ajm} {a:Act} {w:ajg} {Q:ajp->Act->ajg->Prop} {t:ajj} {n:Nat} {F:Fence} {fn:Nat}
end
section
variable {P:aji} {ops:Array ajm} {rest:List ajm} {op:ajm} {a:Act} {w:ajg} {Q:ajp->Act->ajg->Prop} {t e:ajj} {z:ajh} {size bytes:Nat} {F:Fence} {fn:Nat} {xs:List ajh}
def qnm (b:EI P t e z size bytes) {A:ajq} {n c j:Nat} {k:ajn} (d:j<=n):
  (adH t (.slice A n c) (some (.int k (j:Int))) none none).run P w= .ok (.slice (if c=j then A else A.map (·.add (j*size))) (n-j) (c-j)) w:=by
 obtain ⟨i,hi,_,hs,_⟩:=info_parts b.hi
 simp [adH,run_underlying b.ht,agM,afG,afR,asIntOf,d,sizeOf,typeInfo,hi,hs]
def qnn (b:EI P t e z size bytes) {A:ajq} {n c j:Nat} {k:ajn} (d:j<=c):
  (adH t (.slice A n c) none (some (.int k (j:Int))) none).run P w= .ok (.slice A j c) w:=by
 obtain ⟨i,hi,_,hs,_⟩:=info_parts b.hi
 have f:A.map (·.add 0)=A:=by cases A<;>simp [agT]
 simp [adH,run_underlying b.ht,agM,afG,afR,asIntOf,d,sizeOf,typeInfo,hi,f]
end
def qj {fr:Nat×Nat} (hb:w.heap[b]?=some (.cells C t fr)):w.rangeAt b 0 C.toList:=λj v c=>by
 unfold aep;rw [hb];simpa using c
def Xh (hb:w.heap[b]?=some (.cells C t (0,0))) (o n:Nat) (c:o+n<=C.size):w.there b o n:=λj d=>by
 refine ⟨?_,?_⟩
 ·unfold aep;rw [hb]
  simp [Array.getElem?_eq_getElem (by omega:o+j<C.size)]
 ·unfold World.frozen?;rw [hb];simp
def qc3 (b:Nat) (t:ajj):∀(g:List ajh) (w:ajg) (pre d:List ajh) (cs:List ajh),w.heap[b]?=some (.cells (pre++cs++d).toArray t (0,0))->abr cs=abr g->
  (w.setCells b (abr pre) g).heap[b]?=some (.cells (pre++g++d).toArray t (0,0))
 |[],w,pre,d,cs,h,i=>by
  have:cs=[]:=acz i
  subst this
  exact h
 | v :: g, w, pre, d, cs, h, i => by
  obtain ⟨c,f,rfl⟩:∃c f,cs=c::f:=by
   cases cs with
   |nil=>simp at i
   |cons c f=>exact ⟨c,f,rfl⟩
  have k:(w.setCell ⟨b,abr pre,none⟩ v).heap[b]?=some (.cells ((pre++[v])++f++d).toArray t (0,0)):=by
   simp [af0,aeX,h]
  have j:=qc3 b t g _ (pre++[v]) d f k (by simpa using i)
  rw [abu] at j
  simpa [World.setCells] using j
def qhv (h:w.heap[b]?=some (.cells C t (0,0))) (vs:List ajh) (c:C.size=abr vs):(w.setCells b 0 vs).heap[b]?=some (.cells vs.toArray t (0,0)):=by
 have:=qc3 b t vs w [] [] C.toList (by simpa using h) (by simpa using c)
 simpa using this
def Mt (b:Nat):∀(c:List ajh) (o:Nat) (w:ajg) (k:Nat),k≠b->(w.setCells b o c).heap[k]?=w.heap[k]?
 |[],_,_,_,_=>rfl
 |v::c,o,w,k,d=>by
  have:=Mt b c (o+1) (w.setCell ⟨b,o,none⟩ v) k d
  exact this.trans (agB _ _ _ _ d)
def PY (b:Nat):∀(c:List ajh) (o:Nat) (w:ajg),(w.setCells b o c).os=w.os/\(w.setCells b o c).tape=w.tape/\(w.setCells b o c).output=w.output/\(w.setCells b o c).heap.size=w.heap.size
 |[],_,_=>⟨rfl,rfl,rfl,rfl⟩
 |v::c,o,w=>by
  obtain ⟨d,f,g,h⟩:=PY b c (o+1) (w.setCell ⟨b,o,none⟩ v)
  exact ⟨d.trans rfl,f.trans rfl,g.trans rfl,h.trans (by simp [af0])⟩
def below_setCells {a:ajg} (h:Below B a w) {b:Nat} (hb:B<=b) (o:Nat) (vs:List ajh):Below B a (w.setCells b o vs):=by
 obtain ⟨c,d,f,g⟩:=PY b vs o w
 refine ⟨c.trans h.os,d.trans h.tape,f.trans h.output,by rw [g];exact h.size,λk i=>?_⟩
 rw [Mt b vs o w k (by omega)]
 exact h.block k i
@[simp] theorem size_setCells (w:ajg) (b o:Nat) (vs:List ajh):(w.setCells b o vs).heap.size=w.heap.size:=(PY b vs o w).2.2.2
def qjg (t:ajj) (w:ajg):∀(f pre b cs:List ajh),abr cs=abr f->(w.alloc (.cells (pre++cs++b).toArray t)).setCells w.heap.size (abr pre) f=w.alloc (.cells (pre++f++b).toArray t)
 |[],pre,b,cs,g=>by
  have:cs=[]:=acz g
  subst this;rfl
 | v :: f, pre, b, cs, g => by
  obtain ⟨c,d,rfl⟩:∃c d,cs=c::d:=by
   cases cs with
   |nil=>simp at g
   |cons c d=>exact ⟨c,d,rfl⟩
  have i:(w.alloc (.cells (pre++(c::d)++b).toArray t)).setCell ⟨w.heap.size,abr pre,none⟩ v=w.alloc (.cells ((pre++[v])++d++b).toArray t):=by
   rw [World.setCell_alloc_new];simp
  have h:=qjg t w f (pre++[v]) b d (by simpa using g)
  rw [abu] at h
  show ((w.alloc _).setCell ⟨w.heap.size,abr pre,none⟩ v).setCells w.heap.size (abr pre+1) f=_
  rw [i]
  simpa using h
section
variable {P:aji} {ops:Array ajm} {rest:List ajm} {op:ajm} {a:Act} {w:ajg} {Q:ajp->Act->ajg->Prop} {t tt:ajj} {n:Nat} {F:Fence} {fn:Nat} {C cs:Array ajh} {x y:ajl}
end
def EB {α:Type} (f:α->List ajh) (sz:Nat) (b:∀x,abr (f x)=sz):∀(l:List α) (k j:Nat) (c:k<abr l),j<sz->(l.flatMap f)[k*sz+j]?=(f l[k])[j]?
 |[],k,_,c,_=>by simp at c
 |x::l,0,j,_,d=>by
  rw [abO,Nat.zero_mul,ab9,List.getElem?_append_left (by rw [b];exact d)];rfl
 |x::l,k+1,j,c,d=>by
  rw [abO,List.getElem?_append_right (by rw [b,adK];omega),b]
  have:=EB f sz b l k j (by simpa using c) d
  rw [show (k+1)*sz+j-sz=k*sz+j by rw [adK];omega,this]
  rfl
def rZ {α:Type} (f:α->List ajh) (sz:Nat) (b:∀x,abr (f x)=sz) (l:List α):abr (l.flatMap f)=abr l*sz:=by
 induction l with
 |nil=>simp
 |cons x l c=>rw [abO,abu,b,c,abS,adK];omega
def q4j {a:Addr} {v:ajh} (h:w.cell? a=some v):a.spot=none:=by
 unfold aep at h
 split at h
 ·split at h
  ·cases h
  ·rename_i hs;simpa using hs
 ·cases h
section
open Go.Shelf
attribute [local go_sem] Oper.semAt_some
def iR:Nat->Nat->List (Nat×Bool)
 |0,_=>[]
 |f+1,x=>if x<128 then [(x,false)] else (x%128,true)::iR f (x/128)
theorem Ez (f y:Nat) (h:y<128):iR (f+1) y=[(y,false)]:=by rw [iR,if_pos h]
theorem EA (f y:Nat) (h:128<=y):iR (f+1) y=(y%128,true)::iR f (y/128):=by rw [iR,if_neg (by omega)]
def zof (y:Nat) (h:y<18446744073709551616):bits .and .u64 (y:Int) 127=((y%128:Nat):Int):=by
 have:bits .and .u64 (y:Int) 127=_:=u64_and_nat y 127 h (by omega)
 rw [this,nat_mask7]
def zog (y:Nat) (h:y<256):((y:Nat):Int)%256=(y:Int):=by omega
def bK (p:Nat×Bool):Nat:=if p.2 then p.1+128 else p.1
def ak (x:Nat):List Nat:=(iR 10 x).map bK
def Xf:∀(f x:Nat),∀p∈iR f x,p.1<128
 |0,_,p,h=>by simp [iR] at h
 | f + 1, x, p, h => by
  by_cases a:x<128
  ·rw [Ez f x a] at h;simp at h;subst h;exact a
  ·rw [EA f x (by omega)] at h
   simp at h
   rcases h with rfl|h
   ·show x%128<128;omega
   ·exact Xf f _ p h
theorem Xg:∀(f x:Nat),abr (iR f x)<=f
 |0,_=>by simp [iR]
 |f+1,x=>by
  by_cases a:x<128
  ·rw [Ez f x a];simp
  ·rw [EA f x (by omega)];simp;exact Xg f _
def F8 (y:Nat) (h:y<128):bits .or .u8 (y:Int) 128=((y+128:Nat):Int):=by
 have:bits .or .u8 (y:Int) 128=_:=u8_or_nat y 128 (by omega) (by omega)
 rw [this,ahJ,nat_join 7 128 y (by decide) (by omega)];omega
theorem Ci (x:Nat):abr (ak x)<=10:=by unfold ak;rw [abz];exact Xg 10 x
theorem vg (a:List Nat):abr (a.flatMap ak)<=10*abr a:=by
 induction a with
 |nil=>simp
 |cons x r b=>have:=Ci x;simp only [abO,abu,abS];omega
end
def pY (l:List Nat) (i:Nat):Nat×Nat:=
 if abr l<=i then (0,10) else if i=9/\1<l.getD i 0 then (0,11) else if 0<i/\l.getD i 0=0 then (0,12) else (l.getD i 0,0)
def P9 {x:Nat} (h:l[i]?=some x):pY l i=if i=9/\1<x then (0,11) else if 0<i/\x=0 then (0,12) else (x,0):=by
 have hi:i<abr l:=(abF.1 h).1
 unfold pY;rw [if_neg (by omega),abw,h];rfl
set_option maxHeartbeats 400000 in
theorem q4v (A:ajq) (n c i B j:Nat) (l:List Nat) (w:ajg) (hr:Rd w B 1 A n (l.map B8)) (hb:w.cell? ⟨j,0,none⟩=some (.slice A n c)) (k:∀b∈l,b<256) (v:n<=200000000000000) (hi:i<=200000000000000):
  Calls Tryz.prog 111 #[.int .i64 (i:Int),.pointer (some ⟨j,0,none⟩)] w λe o=>e= .returned (.tuple #[.int .u8 ((pY l i).1:Int),.int .i64 ((pY l i).2:Int)])/\o=w:=by
 have d:l.length=n:=by simpa using hr.len
 by_cases f:i<n
 ·obtain ⟨m,rfl,p,g,a⟩:=hr.at f
  have q:=k _ (List.getElem_mem (by omega:i<l.length))
  have h:l[i]?=some l[i]:=List.getElem?_eq_getElem (by omega:i<l.length)
  simp only [List.getElem_map] at a
  generalize l[i]=x at a q h
  unfold B8 at a
  clear hr k d g
  by_cases r:i=9
  ·subst r
   have s:w.cell? ⟨m.block,m.off+9,none⟩=some (.int .u8 (x:Int)):=a
   go_enter Tryz.func111,Tryz.ntmps111
   go_wp2
   all_goals
    go_ret2
    refine ⟨?_,rfl⟩
    try simp only [beq_iff_eq,beq_eq_false_iff_ne,ne_eq] at*
    rw [P9 h]
    first|(rw [if_pos (by omega)];rfl)|(rw [if_neg (by omega),if_pos (by omega)];rfl)|(rw [if_neg (by omega),if_neg (by omega)];rfl)
  ·go_enter Tryz.func111,Tryz.ntmps111
   go_wp2
   all_goals
    go_ret2
    refine ⟨?_,rfl⟩
    try simp only [beq_iff_eq,beq_eq_false_iff_ne,ne_eq] at*
    rw [P9 h]
    first|(rw [if_pos (by omega)];rfl)|(rw [if_neg (by omega),if_pos (by omega)];rfl)|(rw [if_neg (by omega),if_neg (by omega)];rfl)
 ·have t:(n:Int)<=(i:Int):=by omega
  have u:=hide (show pY l i=(0,10) by unfold pY;rw [if_pos (by omega)])
  go_enter Tryz.func111,Tryz.ntmps111
  go_wp2
  go_ret2
  exact ⟨by rw [u.out];rfl,rfl⟩
def nM:Nat->Nat->List Nat->Nat×Nat×Nat
 |_,_,[]=>(0,0,10)
 |i,a,b::r=>
  if i=9/\1<b then (0,0,11) else if 0<i/\b=0 then (0,0,12) else
  if b<128 then (a+b*128^i,i+1,0) else nM (i+1) (a+(b-128)*128^i) r
def aD (l:List Nat):Nat×Nat×Nat:=nM 0 0 l
def zjy (n:Nat) (l:List Nat) (x i:ajh):Prop:=
 ∃k a:Nat,k<=n/\k<10/\a<128^k/\x= .int .u64 (a:Int)/\i= .int .i64 (k:Int)/\aD l=nM k a (l.drop k)
def zcf (y:Nat) (h:y<256):bits .and .u8 (y:Int) 127=((y%128:Nat):Int):=by
 have:bits .and .u8 (y:Int) 127=_:=u8_and_nat y 127 h (by omega)
 rw [this,nat_mask7]
def Qa (k:Nat):(128:Nat)^k=2^ (7*k):=by rw [Nat.pow_mul]
def Xu (k:Nat) (hk:k<=9):(128:Nat)^k<=9223372036854775808:=Nat.le_trans (ads (by omega) hk) (by decide)
def zjz (a y k:Nat) (b:a<128^k) (hk:k<10) (hy:y<256) (c:k=9->y<=1):
  bits .or .u64 (a:Int) (IntKind.u64.wrap (IntKind.u64.wrap (bits .and .u8 (y:Int) 127)*2^ (7*k)))=((a+y%128*128^k:Nat):Int):=by
 have hz:y%128*128^k<18446744073709551616:=by
  by_cases h:k=9
  ·have:=c h;subst h
   have:y%128*128^9<=1*128^9:=acC _ (by omega)
   omega
  ·have d:=ads (show 0<128 by omega) (show k<=8 by omega)
   have:y%128*128^k<=127*128^8:=Nat.mul_le_mul (by omega) d
   omega
 have e:a<18446744073709551616:=by have:=Xu k (by omega);omega
 have e1:IntKind.u64.wrap ((y%128:Nat):Int)=((y%128:Nat):Int):=by rw [ad3];omega
 have e2:((y%128:Nat):Int)*2^ (7*k)=((y%128*128^k:Nat):Int):=by rw [Qa];simp
 rw [zcf y hy,e1,e2]
 have e3:IntKind.u64.wrap ((y%128*128^k:Nat):Int)=((y%128*128^k:Nat):Int):=by rw [ad3];omega
 rw [e3,u64_or_nat a _ e hz,ahJ,nat_join (7*k) _ a (by rw [Qa];exact Nat.mul_mod_left _ _) (by rw [<-Qa];exact b)]
 omega
def Xv (a y k:Nat) (b:a<128^k):a+y%128*128^k<128^ (k+1):=by
 have c:y%128*128^k<=127*128^k:=acC _ (by omega)
 rw [afH];omega
def zoj (a:∀b∈l,b<256) (k:Nat):(pY l k).1<256:=by
 unfold pY
 by_cases h:abr l<=k
 ·rw [if_pos h];show 0<256;omega
 ·rw [if_neg h]
  have:=a _ (ada (by omega:k<abr l))
  have e:l.getD k 0=l[k]:=by rw [abw,abv (by omega:k<abr l)];rfl
  rw [e]
  split
  ·show 0<256;omega
  ·split
   ·show 0<256;omega
   ·exact this
def zcg (l:List Nat) (k a:Nat):
  ((pY l k).2≠0->nM k a (l.drop k)=(0,0,(pY l k).2))/\
  ((pY l k).2=0->k<abr l/\(k=9->(pY l k).1<=1)/\nM k a (l.drop k)=if (pY l k).1<128 then (a+(pY l k).1*128^k,k+1,0) else nM (k+1) (a+((pY l k).1-128)*128^k) (l.drop (k+1))):=by
 by_cases h:k<abr l
 ·have d:l[k]?=some l[k]:=abv h
  rw [P9 d,acv h]
  generalize l[k]=x
  rw [nM]
  by_cases b:k=9/\1<x
  ·rw [if_pos b,if_pos b];simp
  ·rw [if_neg b,if_neg b]
   by_cases c:0<k/\x=0
   ·rw [if_pos c,if_pos c];simp
   ·rw [if_neg c,if_neg c]
    refine ⟨λh=>absurd rfl h,λ_=>⟨h,λf=>?_,rfl⟩⟩
    show x<=1
    omega
 ·have e:pY l k=(0,10):=by unfold pY;rw [if_pos (by omega)]
  rw [e,List.drop_eq_nil_of_le (by omega)]
  exact ⟨λ_=>rfl,λh=>by simp at h⟩
set_option maxRecDepth 100000 in
set_option maxHeartbeats 400000 in
theorem Mx (A:ajq) (n c:Nat) (l:List Nat) (w:ajg) (hr:Rd w w.heap.size 1 A n (l.map B8)) (x:∀b∈l,b<256) (F:n<=200000000000000):
  Calls Tryz.prog 52 #[.slice A n c] w λe r=>e= .returned (.tuple #[.int .u64 ((aD l).1:Int),.int .i64 ((aD l).2.1:Int),.int .i64 ((aD l).2.2:Int)])/\Below w.heap.size w r:=by
 have z:l.length=n:=by simpa using hr.len
 go_enter Tryz.func52,Tryz.ntmps52
 go_wp2
 have j:(w.alloc (.cells #[.slice A n c] 30)).cell? ⟨w.heap.size,0,none⟩=some (.slice A n c):=by simp
 have t:=hr.alloc (Nat.le_refl _) (.cells #[.slice A n c] 30)
 go_loop [5,7] (zjy n l) (λ_ i=>10- (intOf i).toNat)
 case atStart=>exact ⟨0,0,by omega,by omega,by omega,rfl,rfl,rfl⟩
 case round=>
  obtain ⟨k,g,J,m,h,rfl,rfl,B⟩:=hrel
  have f:=zcg l k g
  rw [<-B] at f
  have u:=zoj x k
  have C:=q4v A n c k w.heap.size w.heap.size l _ t j x F (by omega)
  have o:=hide C
  clear C B
  generalize pY l k=p at f u o
  obtain ⟨y,e⟩:=p
  obtain ⟨a,d⟩:=f
  simp only at a d u o
  by_cases D:e=0
  ·subst D
   obtain ⟨G,H,f⟩:=d rfl
   have s:=hide f
   have E:=hide (zjz g y k h m u H)
   have v:=Xv g y k h
   clear f a d
   by_cases q:y<128
   ·go_wp2_with (go_at_call 111;refine (o.out).mono ?_;rintro e r ⟨rfl,rfl⟩)
    go_ret3
    refine ⟨?_,(Below.refl _ _).alloc (Nat.le_refl _) _⟩
    rw [s.out,if_pos q]
    have e1:y%128=y:=by omega
    have:=E.out
    rw [e1] at this
    simp [this]
   ·go_wp2_with (go_at_call 111;refine (o.out).mono ?_;rintro e r ⟨rfl,rfl⟩)
    have e1:y%128=y-128:=by omega
    refine ⟨⟨k+1,g+y%128*128^k,by omega,by omega,v,by rw [E.out],by go_num,?_⟩,by simp [intOf];omega⟩
    rw [s.out,if_neg q,e1]
  ·have s:=hide (a D)
   have I:((e:Int) !=0)=true:=by rw [bne_iff_ne];omega
   clear a d
   go_wp2_with (go_at_call 111;refine (o.out).mono ?_;rintro e r ⟨rfl,rfl⟩)
   go_ret3
   exact ⟨by rw [s.out];rfl,(Below.refl _ _).alloc (Nat.le_refl _) _⟩
def Ev.zero:Ev:=⟨0,0,0,0,0,0,0,0,0,0,0⟩
def Ev.base (e:Ev):Ev:={Ev.zero with seq:=e.seq,time:=e.time,cpu:=e.cpu,kind:=e.kind}
def Ev.ug (e:Ev) (i:Nat) (v:Int) (m:Nat):Ev:=
 match i with
 |0=>{e with task:=v}
 |1=>{e with group:=v}
 |2=>{e with to:=v}
 |3=>{e with weight:=v}
 |4=>{e with ticks:=v}
 |5=>{e with mask:=m}
 |_=>{e with got:=v}
def Ev.put (e:Ev) (i x:Nat):Ev:=e.ug i (wrap64 (x:Int)) x
def Ev.fill (e:Ev) (l:List (Nat×Nat)):Ev:=l.foldl (λe p=>e.put p.1 p.2) e
def Ev.made (e:Ev) (vs:List Nat):Ev:=e.base.fill ((aB e.kind).zip vs)
def Ev.dB (e:Ev) (vs:List Nat):Nat:=
 if e.kind=0\/10<e.kind then 60 else if abr vs≠abr (aB e.kind) then 2 else if (e.made vs).check≠0 then 61 else 0
def Ev.dZ (e:Ev) (vs:List Nat):Ev:=if e.dB vs=0 then e.made vs else Ev.zero
def q4q (e:Ev) (i x:Nat) (hi:i<7):e.cells.setIfInBounds (4+i) (aas i x)=(e.put i x).cells:=by
 obtain rfl|rfl|rfl|rfl|rfl|rfl|rfl:i=0\/i=1\/i=2\/i=3\/i=4\/i=6\/i=5:=by omega
 all_goals simp [Ev.cells,Ev.put,Ev.ug,aas,Array.setIfInBounds]
def ED (x:Int):aX (wrap64 x):=by unfold aX;rw [<-agC,agD];omega
def zoi (h:e.Ok) (i x:Nat) (a:x<18446744073709551616):(e.put i x).Ok:=by
 unfold Ev.put Ev.ug
 split
 ·exact {h with task:=ED _}
 ·exact {h with group:=ED _}
 ·exact {h with to:=ED _}
 ·exact {h with weight:=ED _}
 ·exact {h with ticks:=ED _}
 ·exact {h with mask:=a}
 ·exact {h with got:=ED _}
theorem o8:aX 0:=⟨by omega,by omega⟩
def Xp (h:e.Ok):e.base.Ok:=⟨h.seq,h.time,h.cpu,h.kind,o8,o8,o8,o8,o8,by show 0<18446744073709551616;omega,o8⟩
def P7 {e:Ev} (h:e.Ok):∀(l:List (Nat×Nat)),(∀p∈l,p.2<18446744073709551616)->(e.fill l).Ok
 |[],_=>h
 |p::l,a=>P7 (zoi h p.1 p.2 (a p (by simp))) l (λq b=>a q (by simp [b]))
structure nk (w:ajg) (e:Ev) (err:Nat) (r:ajk) (w':ajg):Prop where
 ret:r= .returned (.tuple #[.agg e.cells,.int .i64 (err:Int)])
 below:Below w.heap.size w w'
def Xq (e:Ev) (l:List (Nat×Nat)) (p:Nat×Nat):e.fill (l++[p])=(e.fill l).put p.1 p.2:=by unfold Ev.fill;rw [List.foldl_append];rfl
def qu9 (k:Nat):k=1\/k=2\/k=3\/k=4\/k=5\/k=6\/k=7\/k=8\/k=9\/k=10\/(aB k=[]/\(k=0\/10<k)):=by
 by_cases h:k=0\/10<k
 ·have:aB k=[]:=by unfold aB;split<;>first|rfl|omega
  simp [this,h]
 ·omega
def Xr (e:Ev) (vs:List Nat):(e.made vs).kind=e.kind/\(e.made vs).seq=e.seq/\(e.made vs).time=e.time/\(e.made vs).cpu=e.cpu:=by
 have:∀(l:List (Nat×Nat)) (o:Ev),(o.fill l).kind=o.kind/\(o.fill l).seq=o.seq/\(o.fill l).time=o.time/\(o.fill l).cpu=o.cpu:=by
  intro l
  induction l with
  |nil=>intro o;exact ⟨rfl,rfl,rfl,rfl⟩
  |cons p l b=>
   intro o
   have h:=b (o.put p.1 p.2)
   have a:(o.put p.1 p.2).kind=o.kind/\(o.put p.1 p.2).seq=o.seq/\(o.put p.1 p.2).time=o.time/\(o.put p.1 p.2).cpu=o.cpu:=by unfold Ev.put Ev.ug;split<;>exact ⟨rfl,rfl,rfl,rfl⟩
   rw [a.1,a.2.1,a.2.2.1,a.2.2.2] at h
   exact h
 exact this _ _
theorem q4s (o:Ev) (i:Nat) (v:Int) (m:Nat) (a:i≠5) (hi:i<7):(o.ug i v m).iC i=v:=by
 obtain rfl|rfl|rfl|rfl|rfl|rfl:i=0\/i=1\/i=2\/i=3\/i=4\/i=6:=by omega
 all_goals rfl
theorem q1a (o:Ev) (i j:Nat) (v:Int) (m:Nat) (hi:i<7) (a:j<7) (h:j≠i):(o.ug i v m).iC j=o.iC j:=by
 obtain rfl|rfl|rfl|rfl|rfl|rfl|rfl:i=0\/i=1\/i=2\/i=3\/i=4\/i=5\/i=6:=by omega
 all_goals
  obtain rfl|rfl|rfl|rfl|rfl|rfl|rfl:j=0\/j=1\/j=2\/j=3\/j=4\/j=5\/j=6:=by omega
  all_goals first|rfl|(exact absurd rfl h)
def zce (o:Ev) (i x:Nat) (a:i≠5) (hi:i<7):(o.put i x).iC i=wrap64 (x:Int):=by
 unfold Ev.put;exact q4s o i _ x a hi
def q4t (o:Ev) (i j x:Nat) (hi:i<7) (a:j<7) (h:j≠i):(o.put i x).iC j=o.iC j:=by
 unfold Ev.put;exact q1a o i j _ x hi a h
def Mw (j:Nat) (a:j<7):∀(l:List (Nat×Nat)) (o:Ev),(∀p∈l,p.1<7/\p.1≠j)->(o.fill l).iC j=o.iC j
 |[],_,_=>rfl
 |p::l,o,h=>by
  have b:=h p (by simp)
  have c:=Mw j a l (o.put p.1 p.2) (λq d=>h q (by simp [d]))
  exact c.trans (q4t o p.1 j p.2 b.1 a (λe=>b.2 e.symm))
def P8 (i x:Nat) (d:i≠5):∀(l:List (Nat×Nat)) (o:Ev),(∀p∈l,p.1<7)->(l.map (·.1)).Nodup->(i,x)∈l->(o.fill l).iC i=wrap64 (x:Int)
 |[],_,_,_,h=>by simp at h
 | p :: l, o, b, c, h => by
  rw [acE,afO] at c
  rcases abX.1 h with rfl|h
  ·have hi:i<7:=b (i,x) (by simp)
   have f:=Mw i hi l (o.put i x) (λq a=>⟨b q (by simp [a]),λe=>c.1 (by rw [<-e];exact ab7.2 ⟨q,a,rfl⟩)⟩)
   exact f.trans (zce o i x d hi)
  ·exact P8 i x d l (o.put p.1 p.2) (λq a=>b q (by simp [a])) c.2 h
def Xt (k:Nat):(aB k).Nodup:=by
 unfold aB;split<;>decide
def Ck (e:Ev) (vs:List Nat) (j:abr vs=abr (aB e.kind)) (h:(((aB e.kind).zip vs).all λp=>Ev.fits p.1 p.2)=false):(e.made vs).check≠0:=by
 intro hc
 have a:=(vM hc).2.1
 rw [(Xr e vs).1,ace] at a
 rw [List.all_eq_false] at h
 obtain ⟨⟨i,x⟩,hm,b⟩:=h
 have hi:=(aeN hm).1
 have d:=qc6 (a i hi)
 have c:i≠5:=by rintro rfl;simp [Ev.fits] at b
 have f:(e.made vs).iC i=wrap64 (x:Int):=by
  refine P8 i x c _ _ (λp g=>Cj _ _ (aeN g).1) ?_ hm
  rw [agU (by omega)]
  exact Xt _
 rw [f] at d
 simp [Ev.fits,c] at b
 omega
structure Bs where
 seq:Int
 time:Int
structure Bs.Ok (b:Bs):Prop where
 seq:aX b.seq
 time:aX b.time
def Bs.cells (b:Bs):Array ajh:= #[.int .i64 b.seq,.int .i64 b.time]
def Bs.right (b:Bs):Bool:=decide (1<=b.seq/\b.seq<=281474976710656/\0<=b.time/\b.time<=281474976710656)
def Bs.behind (b:Bs) (e:Ev):Bool:=decide (b.seq<=e.seq/\b.time<=e.time)
def Ev.at (e:Ev):Bs:=⟨e.seq,e.time⟩
def uh (b:Bs) (e:Ev):Nat:=if e.check≠0 then e.check else if b.right=true/\b.behind e=true then 0 else 70
def y8 (b:Bs) (e:Ev):List Nat:=(e.seq-b.seq).toNat::(e.time-b.time).toNat::e.vals
def zn (b:Bs) (e:Ev):List Nat:=e.kind::(y8 b e).flatMap ak
def yt (b:Bs) (e:Ev):List Nat:=if uh b e=0 then zn b e else []
def aV:Nat->List Nat->List Nat×Nat×Nat
 |0,_=>([],0,0)
 |k+1,l=>
  if (aD l).2.2≠0 then ([],0,(aD l).2.2)
  else if (aV k (l.drop (aD l).2.1)).2.2≠0 then ([],0,(aV k (l.drop (aD l).2.1)).2.2)
  else ((aD l).1::(aV k (l.drop (aD l).2.1)).1,(aD l).2.1+(aV k (l.drop (aD l).2.1)).2.1,0)
def Bs.ev (b:Bs) (cpu kind a c:Nat):Ev:={Ev.zero with seq:=b.seq+(a:Int),time:=b.time+(c:Int),cpu:=cpu,kind:=kind}
def uj (b:Bs) (cpu kind:Nat) (q:List Nat×Nat×Nat):Ev×Nat×Nat:=
 if q.2.2≠0 then (Ev.zero,0,q.2.2)
 else if 281474976710656-b.seq<(q.1.getD 0 0:Nat)\/281474976710656-b.time<(q.1.getD 1 0:Nat) then (Ev.zero,0,61)
 else if (b.ev cpu kind (q.1.getD 0 0) (q.1.getD 1 0)).dB (q.1.drop 2)≠0 then (Ev.zero,0,61)
 else ((b.ev cpu kind (q.1.getD 0 0) (q.1.getD 1 0)).made (q.1.drop 2),1+q.2.1,0)
def bF (b:Bs) (cpu:Nat) (l:List Nat):Ev×Nat×Nat:=
 if b.right=false then (Ev.zero,0,70)
 else if l=[] then (Ev.zero,0,10)
 else if abr (aB (l.getD 0 0))=0 then (Ev.zero,0,60)
 else uj b cpu (l.getD 0 0) (aV (2+abr (aB (l.getD 0 0))) (l.drop 1))
def Ev.after (e q:Ev):Bool:=decide (e.cpu=q.cpu/\q.seq<e.seq/\q.time<=e.time)
def iT:Option Ev->Nat->List Ev->Int×Nat
 |_,_,[]=>(-1,0)
 |p,i,e::r=>
  if e.check≠0 then ((i:Int),e.check)
  else if p.all (λq=>e.after q)=false then ((i:Int),71)
  else iT (some e) (i+1) r
def jo (l:List Ev):Int×Nat:=iT none 0 l
def recs:Bs->List Ev->List Nat
 |_,[]=>[]
 |b,e::r=>zn b e++recs e.at r
def sO (b:Bs) (l:List Ev):Nat:=
 if (jo l).2≠0 then (jo l).2 else if b.right=true/\l.head?.all b.behind=true then 0 else 70
def vR (b:Bs) (l:List Ev):List Nat:=if sO b l=0 then recs b l else []
def q6 (cpu:Nat):Nat->Bs->Option Ev->List Nat->List Ev×Nat×Nat
 |0,_,_,_=>([],0,0)
 |n+1,b,p,l=>
  if (bF b cpu l).2.2≠0 then ([],0,(bF b cpu l).2.2)
  else if p.any (λq=>decide ((bF b cpu l).1.seq=q.seq))=true then ([],0,71)
  else if (q6 cpu n (bF b cpu l).1.at (some (bF b cpu l).1) (l.drop (bF b cpu l).2.1)).2.2≠0 then ([],0,(q6 cpu n (bF b cpu l).1.at (some (bF b cpu l).1) (l.drop (bF b cpu l).2.1)).2.2)
  else ((bF b cpu l).1::(q6 cpu n (bF b cpu l).1.at (some (bF b cpu l).1) (l.drop (bF b cpu l).2.1)).1,(bF b cpu l).2.1+(q6 cpu n (bF b cpu l).1.at (some (bF b cpu l).1) (l.drop (bF b cpu l).2.1)).2.1,0)
def gZ (b:Bs) (cpu:Nat) (n:Int) (l:List Nat):List Ev×Nat×Nat:=
 if n<0 then ([],0,2) else if b.right=false then ([],0,70) else q6 cpu n.toNat b none l
theorem Xw:∀(l:List Nat) (i a:Nat),(nM i a l).2.1<=i+abr l/\((nM i a l).2.2=0->i<(nM i a l).2.1):=by intro x;induction x<;>grind [nM]
theorem yu (l:List Nat):(aD l).2.1<=abr l:=by have:=(Xw l 0 0).1;unfold aD;omega
theorem Xx (l:List Nat) (h:(aD l).2.2=0):0<(aD l).2.1:=(Xw l 0 0).2 h
def Xy:∀(l:List Nat) (i a:Nat),(∀b∈l,b<256)->a<128^i->i<=9->(nM i a l).1<18446744073709551616
 |[],i,a,_,_,_=>by simp [nM]
 | b :: r, i, a, c, d, hi => by
  have g:=c b (by simp)
  have j:=Xu i hi
  rw [nM]
  split
  ·show 0<_;omega
  ·rename_i k
   split
   ·show 0<_;omega
   ·split
    ·show a+b*128^i<_
     rcases ab0 i 9 with h|h
     ·have m:(128:Nat)^i<=128^8:=ads (by omega) (by omega)
      have n:(128:Nat)^8=72057594037927936:=by decide
      have e:b*128^i<=127*128^i:=acC _ (by omega)
      omega
     ·have e:b*128^i<=1*128^i:=acC _ (by omega)
      omega
    ·rcases ab0 i 9 with h|h
     ·refine Xy r (i+1) _ (λx f=>c x (by simp [f])) ?_ (by omega)
      have:=Xv a (b-128) i d
      rwa [show (b-128)%128=b-128 by omega] at this
     ·omega
theorem Ga (l:List Nat) (a:∀b∈l,b<256):(aD l).1<18446744073709551616:=Xy l 0 0 a (by omega) (by omega)
def j6 (l:List Nat):ByteArray:=⟨(l.map λb=>afB b).toArray⟩
def zca {P:aji} {ts te:ajj} (hs:P.underlying t=some (.slice te)) (k:P.underlying te=some (.int .u8)) (m:P.underlying ts=some .string) {w:ajg} {B:Nat} {A:ajq} {n c:Nat} {l:List Nat} (hr:Rd w B 1 A n (l.map B8)):
  (convert t ts (.slice A n c)).run P w= .ok (.string (j6 l)) w:=by
 have f:abr l=n:=by simpa using hr.len
 cases A with
 | none =>
  have r:n=0:=by
   rcases ach n with h|h
   ·exact h
   ·obtain ⟨p,g,_⟩:=hr.row h;cases g
  have i:l=[]:=acz (by omega)
  subst i
  rw [run_convert_bytes_nil w t te hs k n c ts m]
  rfl
 | some a =>
  have d:∀j u,(l.map B8)[j]?=some u->w.cell? (a.add j)=some u:=by
   intro j u o
   rcases ach n with h|h
   ·have:l=[]:=acz (by omega)
    subst this;simp at o
   ·obtain ⟨p,g,_,q⟩:=hr.row h
    injection g with g;subst g
    exact q j u o
  have i:=run_loadCells_list (P:=P) w a (l.map B8) d
  have e:l.map B8=(l.map (λb:Nat=>(b:Int))).map (abT .u8):=by rw [aew];rfl
  rw [abz,f,e] at i
  rw [run_convert_bytes_string w t ts te _ n c hs k m,run_bytesToString w a n c _ i,foldl_push_bytes]
  simp [j6,ByteArray.empty,ByteArray.emptyWithCapacity]
  rfl
def zjt {n c:Nat} (hr:Rd w B 1 A n (l.map B8)):(convert 30 9 (.slice A n c)).run abt w= .ok (.string (j6 l)) w:=
 zca (te:=5) (by kernel_rfl) (by kernel_rfl) (by kernel_rfl) hr
def zcb {m:List Nat} (a:∀b∈l,b<256) (hm:∀b∈m,b<256) (h:j6 l=j6 m):l=m:=by
 unfold j6 at h
 injection h with h
 have d:(l.map λb=>afB b)=(m.map λb=>afB b):=by simpa using h
 have c:=congrArg (List.map λx:UInt8=>x.toNat) d
 rw [aew,aew] at c
 have e:∀l:List Nat,(∀b∈l,b<256)->l.map ((λx:UInt8=>x.toNat)∘λb=>afB b)=l:=λl a=>by
  conv=>rhs;rw [<-List.map_id l]
  exact List.map_congr_left (λb f=>by have:=a b f;simp;omega)
 rwa [e l a,e m hm] at c
section
def uz:Nat:=3988292384
def zm (c:Nat):Nat:=if c%2=1 then (c/2)^^^uz else c/2
def uD:List Nat:=[0,498536548,997073096,651767980,1994146192,1802195444,1303535960,1342533948,3988292384,4027552580,3604390888,3412177804,2607071920,2262029012,2685067896,3183342108]
def sw (c:Nat):Nat:=(c/16)^^^ (uD.getD (c%16) 0)
def AZ (c x:Nat):Nat:=sw (sw (c^^^x))
def zc (c:Nat) (l:List Nat):Nat:=l.foldl AZ c
def zq (l:List Nat):Nat:=4294967295-zc 4294967295 l
def nA (y:Nat):Nat:=zm (zm (zm (zm (zm (zm (zm (zm y)))))))
def zcm (a b:Nat):(a^^^b)/2=a/2^^^b/2:=by
 have:=Nat.shiftRight_xor_distrib (a:=a) (b:=b) (i:=1)
 simpa [Nat.shiftRight_eq_div_pow] using this
def zcn (a b:Nat):(a^^^b)%2=(a+b)%2:=by
 have h:(a^^^b).testBit 0=((a.testBit 0)^^ (b.testBit 0)):=adL ..
 rw [afI,afI,afI] at h
 rcases adM a with c|c<;>rcases adM b with d|d
 ·rw [c,d] at h
  have:¬(a^^^b)%2=1:=of_decide_eq_false h
  omega
 ·rw [c,d] at h
  have:(a^^^b)%2=1:=of_decide_eq_true h
  omega
 ·rw [c,d] at h
  have:(a^^^b)%2=1:=of_decide_eq_true h
  omega
 ·rw [c,d] at h
  have:¬(a^^^b)%2=1:=of_decide_eq_false h
  omega
theorem Qw (a b:Nat):zm (a^^^b)=zm a^^^zm b:=by
 unfold zm
 have hm:=zcn a b
 rw [zcm]
 rcases adM a with c|c<;>rcases adM b with d|d
 ·rw [if_neg (by omega),if_neg (by omega),if_neg (by omega)]
 ·rw [if_pos (by omega),if_neg (by omega),if_pos (by omega),acS]
 ·rw [if_pos (by omega),if_pos (by omega),if_neg (by omega),acS,acS,ag5 uz]
 ·rw [if_neg (by omega),if_pos (by omega),if_pos (by omega)]
  rw [acS,ag5 uz,acS,Nat.xor_self,Nat.xor_zero]
def EP (h:Nat):zm (2*h)=h:=by unfold zm;rw [if_neg (by omega)];omega
def Yh (k c:Nat):c=(2^k*(c/2^k))^^^ (c%2^k):=by
 apply aer
 intro i
 rw [adL,Nat.testBit_mod_two_pow,Nat.testBit_two_pow_mul,Nat.testBit_div_two_pow]
 by_cases h:i<k
 ·simp [h,Nat.not_le.2 h]
 ·simp [h,Nat.le_of_not_lt h]
theorem Yi (c:Nat):sw c=zm (zm (zm (zm c))):=by
 have h:=Yh 4 c
 conv=>rhs;rw [h]
 simp only [Qw]
 rw [show 2^4*(c/2^4)=2*(2*(2*(2*(c/16)))) by omega,EP,EP,EP,EP]
 unfold sw
 congr 1
 have a:c%2^4<16:=Nat.mod_lt _ (by decide)
 show uD.getD (c%2^4) 0=_
 generalize c%2^4=y at a
 have:∀y,y<16->uD.getD y 0=zm (zm (zm (zm y))):=by decide
 exact this y a
def Yj (c x:Nat):AZ c x=nA (c^^^x):=by unfold AZ nA;rw [Yi,Yi]
def zco (a b:Nat):nA (a^^^b)=nA a^^^nA b:=by unfold nA;simp only [Qw]
def q5e (h:Nat):nA (256*h)=h:=by
 unfold nA
 rw [show 256*h=2*(2*(2*(2*(2*(2*(2*(2*h))))))) by omega]
 simp only [EP]
def Gw {a:Nat} (c:a<4294967296) (hb:b<4294967296):a^^^b<4294967296:=Nat.xor_lt_two_pow (n:=32) c hb
theorem Yk (h:c<4294967296):zm c<4294967296:=by
 unfold zm
 split
 ·exact Gw (by omega) (by decide)
 ·omega
theorem zj4 (h:c<4294967296):nA c<4294967296:=by grind [Yk,nA]
def qve {x:Nat} (hc:c<4294967296) (a:x<256):AZ c x<4294967296:=by
 rw [Yj];exact zj4 (Gw hc (by omega))
def Gx:∀(l:List Nat) {c:Nat},c<4294967296->(∀x∈l,x<256)->zc c l<4294967296
 |[],_,h,_=>h
 |x::l,_,h,a=>Gx l (qve h (a x List.mem_cons_self)) (λy b=>a y (ab5 _ b))
def Ym (h:c<4294967296):c^^^4294967295=4294967295-c:=by
 apply aer
 intro i
 rw [show 4294967295-c=2^32- (c+1) by omega,adL,Nat.testBit_two_pow_sub_succ (by omega),show (4294967295:Nat)=2^32-1 from rfl,Nat.testBit_two_pow_sub_one]
 by_cases hi:i<32
 ·simp [hi]
 ·have:c.testBit i=false:=Nat.testBit_lt_two_pow (Nat.lt_of_lt_of_le h (ads (n:=2) (by decide) (by omega:32<=i)))
  simp [hi,this]
end
section
open Go.ChangeShapes Go.WideShapes
section
variable {H:Type} {enc:ajj×ajh->H} {P:aji}
def Xz (g:laidOutB P=true) {W w:ajg} (hb:Below W.heap.size W w):∀{ts:List ajj} {c:List ajh} {e:List (DataW H)} {ps:List MemPlace},
  (ts.all λt=>P.readableRec t&&decide (t<P.types.size))=true->ahd enc P W 0 (λ_=>true) true ts c e ps->(∀x∈ps,x.block<W.heap.size)->
  ahd enc P w 0 (λb=>decide (b<W.heap.size)) true ts c e ps
 |[],c,e,ps,_,h,_=>by
  obtain ⟨rfl,rfl,rfl⟩:=trodAll_nil h
  rfl
 |t::ts,c,e,ps,ht,h,a=>by
  obtain ⟨v,i,d,j,p,q,rfl,rfl,rfl,k,l⟩:=trodAll_cons h
  simp only [List.all_cons,abH,decide_eq_true_eq] at ht
  exact ⟨p,q,Below.trod g ht.1.1 ht.1.2 k hb (λx f=>a x (List.mem_append_left _ f)),Xz g hb (by simpa using ht.2) l (λx f=>a x (List.mem_append_right _ f)),rfl⟩
def q4y {f:Func} {s:ChangeSpec} {args:Array ajh} {ds gs:List (DataW H)} {before:List MemPlace} {tb:ajj}
  (l:laidOutB P=true) (a:(f.params.toList.all λt=>P.readableRec t&&decide (t<P.types.size))=true)
  (hr:f.resultTypes= #[tb]) (b:P.underlying tb=some .bool) (j:s.vars=[])
  (c:DataW.Whole enc P f.params.toList s.vars false W args.toList ds gs before) (hs:s.fn H ds={results:=[.lit (.bool true)],args:=ds}) (hb:Below W.heap.size W w):
  s.post enc P f false true false false W args (.bool true) w:=by
 have g:∀x∈before,x.block<W.heap.size:=λp m=>c.lt p m
 have i:=c
 obtain ⟨p,q,n,k,e,o,r⟩:=c
 rw [j] at k
 obtain ⟨rfl,rfl⟩:=trodVars_none k
 rw [abN] at e
 subst e
 refine ⟨ds,[],before,[],before,[],i,?_,?_,?_,hb.frame _,λh=>by cases h⟩
 ·rw [abN,hs,hr]
  exact trodAll_mk1 (shut_bool b _)
 ·rw [abN,hs]
  exact Xz l hb a n g
 ·rw [abN,hs,j]
  rfl
end
def EF:Tryz.prog.underlying 5=some (.int .u8):=by kernel_rfl
def zch:Tryz.prog.cellsOf 5=1:=by kernel_rfl
def q1b:Tryz.prog.cellsOf 110=2:=by kernel_rfl
section
variable {H:Type} {enc:ajj×ajh->H} {W:ajg} {b0:Nat} {v:ajh} {d:DataW H} {p:List MemPlace}
def XA {a:Int} (h:(ae1 .i64 a).wf=true):aX a:=by
 simpa [agN,aeO,aeP,aee,aeB,aX] using h
def je {a:Int} (h:(ae1 .u8 a).wf=true):0<=a/\a<=255:=by
 simpa [agN,aeO,aeP,aee,aeB] using h
set_option maxRecDepth 100000 in
theorem zok (a:Value.okWide Tryz.prog W .any b0 5 v) (h:DataW.Trod enc Tryz.prog W 0 (λ_=>true) true 5 v d p):∃m:Nat,v= .int .u8 (m:Int)/\m<256:=by
 obtain ⟨m,rfl,_,_,wf⟩:=open_int EF a h
 have:=je wf
 exact ⟨m.toNat,by rw [Int.toNat_of_nonneg this.1],by omega⟩
end
end
theorem Za:∀(l:List Nat) (i a x m:Nat),(∀b∈l,b<256)->i<=9->nM i a l=(x,m,0)->
  ∃y,x=a+y*128^i/\(iR (10-i) y).map bK=l.take (m-i)/\i<m/\(0<i->0<y)
 |[],i,a,x,m,_,_,h=>by simp [nM] at h
 | b :: r, i, a, x, m, e, hi, h => by
  have g:=e b (by simp)
  rw [nM] at h
  split at h
  ·simp at h
  ·rename_i p
   split at h
   ·simp at h
   ·rename_i q
    split at h
    ·rename_i c
     simp only [Prod.mk.injEq] at h
     obtain ⟨rfl,rfl,_⟩:=h
     refine ⟨b,rfl,?_,by omega,λ_=>by omega⟩
     obtain ⟨f,d⟩:∃f,10-i=f+1:=⟨9-i,by omega⟩
     rw [d,Ez f b c,show i+1-i=1 by omega]
     rfl
    ·rename_i c
     obtain ⟨y,s,j,t,n⟩:=Za r (i+1) _ x m (λb g=>e b (by simp [g])) (by omega) h
     have u:=n (by omega)
     refine ⟨(b-128)+128*y,?_,?_,by omega,λ_=>by omega⟩
     ·grind
     ·obtain ⟨f,d⟩:∃f,10-i=f+1:=⟨9-i,by omega⟩
      rw [d,EA f _ (by omega),show ((b-128)+128*y)%128=b-128 by omega,show ((b-128)+128*y)/128=y by omega]
      rw [show f=10- (i+1) by omega,acE,j]
      obtain ⟨k,o⟩:∃k,m-i=k+1:=⟨m-i-1,by omega⟩
      rw [o,List.take_succ_cons,show m- (i+1)=k by omega]
      congr 1
      show b-128+128=b
      omega
theorem Q6 {x:Nat} (a:∀b∈l,b<256) (h:aD l=(x,m,0)):ak x=l.take m:=by
 obtain ⟨y,c,d,e,_⟩:=Za l 0 0 x m a (by omega) h
 grind [ak]
theorem Zb:∀(j:Nat) (l xs:List Nat) (u:Nat),(∀b∈l,b<256)->aV j l=(xs,u,0)->xs.flatMap ak=l.take u/\abr xs=j/\(∀x∈xs,x<18446744073709551616)/\u<=abr l:=by intro x;induction x<;>grind [aV,aD,Q6,Ga,yu]
def Zc {e:Ev}:∀{i:Nat},i<7->i≠5->e.within i=true->e.iC i<=4294967295
 |0,_,_,h=>by simp only [Ev.within,decide_eq_true_eq] at h;show e.task<=_;omega
 |1,_,_,h=>by simp only [Ev.within,decide_eq_true_eq] at h;show e.group<=_;omega
 |2,_,_,h=>by simp only [Ev.within,decide_eq_true_eq] at h;show e.to<=_;omega
 |3,_,_,h=>by simp only [Ev.within,decide_eq_true_eq] at h;show e.weight<=_;omega
 |4,_,_,h=>by simp only [Ev.within,decide_eq_true_eq] at h;show e.ticks<=_;omega
 |5,_,a,_=>absurd rfl a
 |n+6,_,_,h=>by simp only [Ev.within,decide_eq_true_eq] at h;show e.got<=_;omega
theorem zdd (o:Ev) (i x:Nat) (hi:i<7):(o.put i x).mask=if i=5 then x else o.mask:=by
 obtain rfl|rfl|rfl|rfl|rfl|rfl|rfl:i=0\/i=1\/i=2\/i=3\/i=4\/i=5\/i=6:=by omega
 all_goals rfl
theorem Zd (x:Nat):∀(l:List (Nat×Nat)) (o:Ev),(∀p∈l,p.1<7)->(l.map (·.1)).Nodup->(5,x)∈l->(o.fill l).mask=x
 |[],_,_,_,h=>by simp at h
 | p :: l, o, c, b, h => by
  rw [acE,afO] at b
  rcases abX.1 h with rfl|h
  ·have d:=Mw 5 (by omega) l (o.put 5 x) (λq a=>⟨c q (by simp [a]),λe=>b.1 (by rw [<-e];exact ab7.2 ⟨q,a,rfl⟩)⟩)
   have f:((o.fill ((5,x)::l)).mask:Int)=((o.put 5 x).mask:Int):=d
   grind [zdd]
  ·exact Zd x l (o.put p.1 p.2) (λq a=>c q (by simp [a])) b.2 h
def zde (i:Nat) (h:i<=8):2^ (64-7*i)=128*2^ (64-7*(i+1)):=by
 rw [show 64-7*i=7+(64-7*(i+1)) by omega,Nat.pow_add]
def zdf (a y i:Nat):a+(y%128+128-128)*128^i+y/128*128^ (i+1)=a+y*128^i:=by
 rw [afH,adt,afb,Nat.mul_comm (128^i) 128,<-Nat.mul_assoc,<-Nat.add_mul]
 congr 2
 omega
theorem Ze:∀(f y i b:Nat) (a:List Nat),i+f=10->1<=f->y<2^ (64-7*i)->(0<i->0<y)->
  nM i b ((iR f y).map bK++a)=(b+y*128^i,i+abr (iR f y),0)
 |0,_,_,_,_,_,h,_,_=>by omega
 | f + 1, y, i, b, a, hi, _, c, k => by
  have j:i=9->y<2:=λe=>by subst e;simpa using c
  by_cases h:y<128
  ·rw [Ez f y h]
   show nM i b (y::a)=_
   rw [nM,if_neg (by omega),if_neg (by omega),if_pos h]
   rfl
  ·rw [EA f y (by omega)]
   show nM i b ((y%128+128)::((iR f (y/128)).map bK++a))=_
   have d:i<=8:=by
    rcases ab0 i 9 with h|h
    ·omega
    ·have:=j (by omega);omega
   have g:y/128<2^ (64-7*(i+1)):=by
    rw [zde i d] at c
    exact Nat.div_lt_of_lt_mul c
   rw [nM,if_neg (by omega),if_neg (by omega),if_neg (by omega),Ze f (y/128) (i+1) _ a (by omega) (by omega) g (λ_=>by omega),zdf]
   simp only [abS,Prod.mk.injEq,and_true,true_and]
   omega
theorem Nc {y:Nat} (rest:List Nat) (hy:y<18446744073709551616):aD (ak y++rest)=(y,abr (ak y),0):=by grind [ak,Ze,aD]
theorem Nf:∀(xs a:List Nat),(∀x∈xs,x<18446744073709551616)->aV (abr xs) (xs.flatMap ak++a)=(xs,abr (xs.flatMap ak),0):=by intro x;induction x<;>grind [aV,Nc]
theorem zoy {a b:Ev} (h1:a.seq=b.seq) (d:a.time=b.time) (e:a.cpu=b.cpu) (f:a.kind=b.kind) (c:∀i,i<7->a.iC i=b.iC i):a=b:=by
 have g:a.task=b.task:=c 0 (by omega)
 have h:a.group=b.group:=c 1 (by omega)
 have j:a.to=b.to:=c 2 (by omega)
 have k:a.weight=b.weight:=c 3 (by omega)
 have l:a.ticks=b.ticks:=c 4 (by omega)
 have m:(a.mask:Int)=(b.mask:Int):=c 5 (by omega)
 have n:a.got=b.got:=c 6 (by omega)
 cases a
 cases b
 simp only at*
 simp_all
 omega
def wrap_small {x:Int} (a:0<=x) (h1:x<=4294967295):wrap64 ((x.toNat:Nat):Int)=x:=by
 rw [<-agC,agD];omega
def zdg (e:Ev):∀i,i<7->e.base.iC i=0:=by
 intro i hi
 obtain rfl|rfl|rfl|rfl|rfl|rfl|rfl:i=0\/i=1\/i=2\/i=3\/i=4\/i=5\/i=6:=by omega
 all_goals rfl
theorem qvt (h:e.check=0) (i:Nat) (hi:i<7) (a:i∉aB e.kind):e.iC i=0:=by grind [Ev.check,aB]
def q55 {b:Ev} (hc:e.check=0) (h1:b.seq=e.seq) (r:b.time=e.time) (s:b.cpu=e.cpu) (o:b.kind=e.kind):b.made e.vals=e:=by
 have d:=Xr b e.vals
 have m:=(vM hc).2.1
 rw [ace] at m
 have q:abr e.vals=abr (aB e.kind):=by unfold Ev.vals;rw [abz]
 have c:∀p∈(aB e.kind).zip e.vals,p.1<7:=λp k=>Cj _ _ (aeN k).1
 have j:(((aB e.kind).zip e.vals).map (·.1)).Nodup:=by rw [agU (by omega)];exact Xt _
 have f:∀i∈aB e.kind,(i,(e.iC i).toNat)∈(aB e.kind).zip e.vals:=by
  intro i hi
  unfold Ev.vals
  have hz:∀l:List Nat,i∈l->(i,(e.iC i).toNat)∈l.zip (l.map λi=>(e.iC i).toNat):=by
   intro l
   induction l with
   |nil=>intro h;cases h
   | cons a l t =>
    intro h
    rcases abX.1 h with rfl|h
    ·simp
    ·simp only [acE,List.zip_cons_cons,abX]
     exact Or.inr (t h)
  exact hz _ hi
 refine zoy (d.2.1.trans h1) (d.2.2.1.trans r) (d.2.2.2.trans s) (d.1.trans o) λi hi=>?_
 unfold Ev.made
 rw [o]
 by_cases g:i∈aB e.kind
 ·by_cases n:i=5
  ·subst n
   have:=Zd _ _ b.base c j (f 5 g)
   show (((b.base.fill ((aB e.kind).zip e.vals)).mask:Nat):Int)=(e.mask:Int)
   rw [this]
   show (((e.mask:Int).toNat:Nat):Int)=_
   simp
  ·rw [P8 i _ n _ _ c j (f i g)]
   exact wrap_small (qc6 (m i g)) (Zc hi n (m i g))
 ·rw [Mw i hi _ _ (λp k=>⟨c p k,λh=>g (h▸ (aeN k).1)⟩),zdg b i hi,qvt hc i hi g]
def q56 (hc:e.check=0) (c:e.Ok):∀x∈e.vals,x<18446744073709551616:=by
 intro x d
 obtain ⟨i,hi,rfl⟩:=ab7.1 d
 have a:=(vM hc).2.1
 rw [ace] at a
 by_cases b:i=5
 ·subst b
  have:=c.mask
  show ((e.mask:Int)).toNat<_
  simpa using this
 ·have:=Zc (Cj _ _ hi) b (a i hi)
  have f:=qc6 (a i hi)
  show (e.iC i).toNat<_
  omega
def zdh (hc:e.check=0):abr (aB e.kind)≠0:=by
 have:=(vM hc).1
 rcases qu9 e.kind with h|h|h|h|h|h|h|h|h|h|h
 any_goals (rw [h];decide)
 exact absurd h.2 (by rw [this];exact id)
structure Fit (b:Bs) (e:Ev):Prop where
 right:b.right=true
 check:e.check=0
 ok:e.Ok
 behind:b.behind e=true
theorem Fit.nums {b:Bs} (h:Fit b e):(∀x∈y8 b e,x<18446744073709551616)/\abr (y8 b e)=2+abr (aB e.kind)/\b.seq+(((e.seq-b.seq).toNat:Nat):Int)=e.seq/\b.time+(((e.time-b.time).toNat:Nat):Int)=e.time/\
  1<=b.seq/\0<=b.time/\e.seq<=281474976710656/\e.time<=281474976710656:=by
 have c:=h.right
 have d:=h.behind
 unfold Bs.right at c
 unfold Bs.behind at d
 simp only [decide_eq_true_eq] at c d
 obtain ⟨_,_,_,g1,f,g,i⟩:=vM h.check
 refine ⟨λx a=>?_,?_,by omega,by omega,by omega,by omega,by omega,by omega⟩
 ·unfold y8 at a
  rcases abX.1 a with rfl|a
  ·omega
  ·rcases abX.1 a with rfl|a
   ·omega
   ·exact q56 h.check h.ok x a
 ·unfold y8 Ev.vals
  simp only [abS,abz]
  omega
def q57 {b:Bs} (h:Fit b e) (rest:List Nat):bF b e.cpu (zn b e++rest)=(e,abr (zn b e),0):=by
 obtain ⟨a,c,d,f,j,k,l,m⟩:=h.nums
 unfold bF zn
 rw [if_neg (by simp [h.right]),if_neg (by simp)]
 simp only [aeu,aft,agE,ags]
 rw [if_neg (zdh h.check),<-c,Nf _ rest a]
 unfold uj
 have hm:(b.ev e.cpu e.kind (e.seq-b.seq).toNat (e.time-b.time).toNat).made e.vals=e:=
  q55 h.check d f rfl rfl
 have g:abr e.vals=abr (aB e.kind):=by unfold Ev.vals;rw [abz]
 have i:(b.ev e.cpu e.kind (e.seq-b.seq).toNat (e.time-b.time).toNat).dB e.vals=0:=by
  unfold Ev.dB
  rw [if_neg (by show ¬(e.kind=0\/10<e.kind);rw [(vM h.check).1];exact id),if_neg (by rw [g];show ¬abr (aB e.kind)≠abr (aB e.kind);omega),hm,if_neg (by rw [h.check];omega)]
 simp only [y8,aft,List.getD_cons_succ,agE,ags,ne_eq,not_true_eq_false,if_false]
 rw [if_neg (by omega),i,if_neg (by omega),hm]
 simp only [abS,Prod.mk.injEq,true_and,and_true]
 omega
def Chain (cpu:Nat):Option Ev->Bs->List Ev->Prop
 |_,_,[]=>True
 |p,b,e::r=>Fit b e/\e.cpu=cpu/\(∀q,p=some q->q.seq<e.seq)/\Chain cpu (some e) e.at r
theorem Ng (hc:e.check=0):e.at.right=true:=by simp_all [Bs.right,Ev.at,vM]
def Zf {cpu:Nat}:∀(es:List Ev) (p:Option Ev) (b:Bs) (a:List Nat),Chain cpu p b es->q6 cpu (abr es) b p (recs b es++a)=(es,abr (recs b es),0)
 |[],_,_,_,_=>rfl
 | e :: r, p, b, a, h => by
  obtain ⟨c,d,f,g⟩:=h
  subst d
  have i:p.any (λq=>decide (e.seq=q.seq))=false:=by
   cases p with
   |none=>rfl
   |some q=>have:=f q rfl;simp;omega
  rw [abS,q6,recs,List.append_assoc,q57 c]
  simp only [List.drop_left,ne_eq,not_true_eq_false,if_false,i,Bool.false_eq_true]
  rw [Zf r (some e) e.at a g]
  simp
def Zg {cpu:Nat}:∀(es:List Ev) (p:Option Ev) (b:Bs) (i:Nat),Chain cpu p b es->(∀q,p=some q->b=q.at/\q.cpu=cpu)->iT p i es=(-1,0)
 |[],_,_,_,_,_=>rfl
 | e :: r, p, b, i, h, j => by
  obtain ⟨f,g,k,l⟩:=h
  rw [iT,if_neg (by simp [f.check]),if_neg]
  ·exact Zg r (some e) e.at (i+1) l (λq a=>by injection a with a;subst a;exact ⟨rfl,g⟩)
  ·cases p with
   |none=>simp
   | some q =>
    obtain ⟨rfl,hc⟩:=j q rfl
    have c:=f.behind
    unfold Bs.behind Ev.at at c
    simp only [decide_eq_true_eq] at c
    have:=k q rfl
    have d:e.after q=true:=by
     unfold Ev.after
     rw [decide_eq_true_eq]
     exact ⟨by rw [g,hc],this,c.2⟩
    simp [d]
def Zh {es:List Ev} {b:Bs} (hb:b.right=true) (h:Chain cpu none b es):jo es=(-1,0)/\sO b es=0/\vR b es=recs b es:=by
 have a:jo es=(-1,0):=Zg es none b 0 h (λq d=>by cases d)
 have c:sO b es=0:=by
  unfold sO
  have f:es.head?.all b.behind=true:=by
   cases es with
   |nil=>rfl
   |cons e r=>simpa using h.1.behind
  rw [a,if_neg (by simp),if_pos ⟨hb,f⟩]
 refine ⟨a,c,?_⟩
 unfold vR
 rw [if_pos c]
theorem q58 {es:List Ev} {b:Bs} (hb:b.right=true) (h:Chain cpu none b es) (rest:List Nat):gZ b cpu (abr es:Int) (recs b es++rest)=(es,abr (recs b es),0):=by simp_all [Zf,gZ]
structure Sm where
 kind:Nat
 cpu:Nat
 seq:Nat
 time:Nat
 task:Nat
 group:Nat
 to:Nat
 weight:Nat
 ticks:Nat
 got:Nat
 mask:Nat
structure Sm.Ok (x:Sm):Prop where
 kind:x.kind<256
 cpu:x.cpu<256
 seq:x.seq<4294967296
 time:x.time<4294967296
 task:x.task<4294967296
 group:x.group<4294967296
 to:x.to<4294967296
 weight:x.weight<4294967296
 ticks:x.ticks<4294967296
 got:x.got<4294967296
 mask:x.mask<18446744073709551616
def Sm.cells (x:Sm):Array ajh:= #[.int .u8 (x.kind:Int),.int .u8 (x.cpu:Int),.int .u32 (x.seq:Int),.int .u32 (x.time:Int),.int .u32 (x.task:Int),.int .u32 (x.group:Int),.int .u32 (x.to:Int),.int .u32 (x.weight:Int),.int .u32 (x.ticks:Int),.int .u32 (x.got:Int),.int .u64 (x.mask:Int)]
def Sm.ev (x:Sm):Ev where
 seq:=((1+x.seq:Nat):Int)
 time:=(x.time:Int)
 cpu:=x.cpu%64
 kind:=1+x.kind%10
 task:=if x.kind%10=0\/x.kind%10=1\/x.kind%10=6\/x.kind%10=8 then ((1+x.task%65535:Nat):Int) else 0
 group:=if x.kind%10=0 then ((x.group%256:Nat):Int) else if x.kind%10=7 then ((1+x.group%255:Nat):Int) else 0
 to:=if x.kind%10=8 then (((x.cpu%64+1+x.to%63)%64:Nat):Int) else 0
 weight:=if x.kind%10=0\/x.kind%10=6\/x.kind%10=7 then ((1+x.weight%65536:Nat):Int) else 0
 ticks:=if x.kind%10=4 then ((max x.ticks 1:Nat):Int) else 0
 mask:=if x.kind%10=0 then x.mask|||2^ (x.cpu%64) else 0
 got:=if x.kind%10=4\/x.kind%10=5 then ((x.got%65535:Nat):Int) else if x.kind%10=2\/x.kind%10=3\/x.kind%10=9 then ((1+x.got%65535:Nat):Int) else 0
def Ev.moved (e:Ev) (s t:Int):Ev:={e with seq:=s,time:=t}
def zkr (m c:Nat):(m|||2^c)/2^c%2=1:=by
 have h:(m|||2^c).testBit c=true:=by rw [Nat.testBit_or,Nat.testBit_two_pow_self,Bool.or_true]
 rw [Nat.testBit_eq_decide_div_mod_eq,decide_eq_true_eq] at h
 exact h
def Ia (hm:m<18446744073709551616) (hc:c<64):m|||2^c<18446744073709551616:=by
 have:m|||2^c<2^64:=Nat.or_lt_two_pow (by omega) (Nat.pow_lt_pow_right (by omega) hc)
 omega
theorem Sm.check {x:Sm} (h:x.Ok) {s t:Int} (hs:1<=s/\s<=281474976710656) (ht:0<=t/\t<=281474976710656):(x.ev.moved s t).check=0:=by
 have b:=zkr x.mask (x.cpu%64)
 have hc:x.cpu%64<64:=by omega
 have c:=h.ticks
 have a:x.kind%10=0\/x.kind%10=1\/x.kind%10=2\/x.kind%10=3\/x.kind%10=4\/x.kind%10=5\/x.kind%10=6\/x.kind%10=7\/x.kind%10=8\/x.kind%10=9:=by omega
 unfold Ev.check
 rcases a with a|a|a|a|a|a|a|a|a|a
 all_goals
  rw [if_neg (by simp [Ev.moved,Sm.ev,a]),if_neg (by simp [Ev.moved,Sm.ev];omega),if_neg,if_neg]
  ·simp [Ev.moved,Sm.ev,a,aB,Ev.iC,acw,List.range.loop]
  ·simp [Ev.moved,Sm.ev,a,aB,Ev.within,b]
   try omega
theorem Sm.ok {x:Sm} (h:x.Ok) {s t:Int} (hs:aX s) (ht:aX t):(x.ev.moved s t).Ok:=by
 have:=h.ticks
 have hm:=Ia (c:=x.cpu%64) h.mask (by omega)
 refine ⟨hs,ht,?_,?_,?_,?_,?_,?_,?_,?_,?_⟩
 all_goals (simp only [Ev.moved,Sm.ev,aX])
 all_goals (repeat' split)
 all_goals first|exact hm|omega
def Bs.based (b:Bs):Bs:=⟨1+b.seq%1099511627776,b.time%1099511627776⟩
def tq (k:Nat):Nat:=if k/16%4=0 then 1 else if k/16%4=1 then 3 else if k/16%4=2 then 200 else 4294967296
def stepT (k:Nat):Nat:=if k/64=0 then 1 else if k/64=1 then 300 else if k/64=2 then 100000 else 4294967296
def Bs.step (a:Bs) (x:Sm):Bs:=⟨a.seq+((1+x.seq%tq x.kind:Nat):Int),a.time+((x.time%stepT x.kind:Nat):Int)⟩
def wF (cpu:Nat):Bs->List Sm->List Ev
 |_,[]=>[]
 |a,x::r=>(({x with cpu:=cpu}:Sm).ev.moved (a.step x).seq (a.step x).time)::wF cpu (a.step x) r
def Bs.start (b:Bs):Bs:=⟨b.based.seq-1,b.based.time⟩
def mg (cpu:Nat) (b:Bs) (l:List Sm):List Ev:=wF cpu b.start (l.take 200)
def RH (b:Bs):b.based.right=true/\1<=b.based.seq/\b.based.seq<=1099511627776/\0<=b.based.time/\b.based.time<1099511627776:=by
 have a:1<=b.based.seq/\b.based.seq<=1099511627776/\0<=b.based.time/\b.based.time<1099511627776:=by
  show 1<=1+b.seq%1099511627776/\1+b.seq%1099511627776<=1099511627776/\0<=b.time%1099511627776/\b.time%1099511627776<1099511627776
  omega
 refine ⟨?_,a⟩
 unfold Bs.right
 rw [decide_eq_true_eq]
 omega
def qv4 (a:Bs) {x:Sm} (h:x.Ok):a.seq+1<=(a.step x).seq/\(a.step x).seq<=a.seq+4294967296/\a.time<=(a.step x).time/\(a.step x).time<=a.time+4294967296:=by
 have b:x.seq%tq x.kind<=x.seq:=Nat.mod_le _ _
 have c:x.time%stepT x.kind<=x.time:=Nat.mod_le _ _
 have:=h.seq
 have:=h.time
 show a.seq+1<=a.seq+((1+x.seq%tq x.kind:Nat):Int)/\a.seq+((1+x.seq%tq x.kind:Nat):Int)<=a.seq+4294967296/\a.time<=a.time+((x.time%stepT x.kind:Nat):Int)/\a.time+((x.time%stepT x.kind:Nat):Int)<=a.time+4294967296
 omega
def ZW {cpu:Nat} (d:cpu<256):∀(l:List Sm) (p:Option Ev) (b a:Bs),(∀x∈l,x.Ok)->b.right=true->b.seq<=a.seq+1->b.time<=a.time->(∀q,p=some q->q.seq<=a.seq)->0<=a.seq->0<=a.time->
  a.seq+4294967296*(abr l:Int)<=281474976710656->a.time+4294967296*(abr l:Int)<=281474976710656->Chain (cpu%64) p b (wF cpu a l)
 |[],_,_,_,_,_,_,_,_,_,_,_,_=>trivial
 | x :: r, p, b, a, g, h, n, o, i, u, v, j, k => by
  have c:=g x (by simp)
  have e:({x with cpu:=cpu}:Sm).Ok:=⟨c.kind,d,c.seq,c.time,c.task,c.group,c.to,c.weight,c.ticks,c.got,c.mask⟩
  obtain ⟨s1,w,z,A⟩:=qv4 a c
  rw [abS] at j k
  have hc:=Sm.check e (s:=(a.step x).seq) (t:=(a.step x).time) (by omega) (by omega)
  refine ⟨⟨h,hc,Sm.ok e ⟨by omega,by omega⟩ ⟨by omega,by omega⟩,?_⟩,rfl,?_,?_⟩
  ·unfold Bs.behind
   rw [decide_eq_true_eq]
   show b.seq<=(a.step x).seq/\b.time<=(a.step x).time
   omega
  ·intro q f
   have:=i q f
   show q.seq<(a.step x).seq
   omega
  ·refine ZW d r _ _ _ (λy m=>g y (by simp [m])) (Ng hc) ?_ ?_ ?_ (by omega) (by omega) (by omega) (by omega)
   ·show (a.step x).seq<=(a.step x).seq+1;omega
   ·exact agl _
   ·intro q f
    injection f with f
    subst f
    exact agl _
def qv5 (a:cpu<256) (b:Bs) {l:List Sm} (d:∀x∈l,x.Ok):Chain (cpu%64) none b.based (mg cpu b l):=by
 obtain ⟨e,i,j,f,k⟩:=RH b
 have c:abr (l.take 200)<=200:=by rw [abA];omega
 refine ZW a _ none b.based b.start (λx g=>d x (List.mem_of_mem_take g)) e ?_ (agl _) (λq h=>by cases h) ?_ f ?_ ?_
 ·show b.based.seq<=b.based.seq-1+1;omega
 ·show 0<=b.based.seq-1;omega
 ·show b.based.seq-1+4294967296*(abr (l.take 200):Int)<=_;omega
 ·show b.based.time+4294967296*(abr (l.take 200):Int)<=_;omega
theorem q1x (cpu:Nat):∀(l:List Sm) (a:Bs),abr (wF cpu a l)=abr l:=by intro x;induction x<;>grind [wF]
def gI (x n:Int):Int:=if n<1 then 0 else x%n
def q6q (x n:Int) (c:1<=n):(af3 x n<0->af3 x n+n=x%n)/\(0<=af3 x n->af3 x n=x%n):=by
 have a:= @Int.tmod_eq_emod x n
 have d:=Int.emod_nonneg x (show n≠0 by omega)
 have e:=Int.emod_lt_of_pos x (show 0<n by omega)
 rw [a]
 have b:(n.natAbs:Int)=n:=Int.natAbs_of_nonneg (by omega)
 split
 ·simp;omega
 ·rw [b];omega
set_option maxHeartbeats 400000 in
theorem ZX (x n:Int) (_hx:aX x) (d:aX n) (w:ajg):Calls Tryz.prog 39 #[.int .i64 x,.int .i64 n] w λe f=>e= .returned (.int .i64 (gI x n))/\f=w:=by
 by_cases h:n<1
 ·have g:decide (n<1)=true:=by simpa using h
  have a:gI x n=0:=if_pos h
  rw [a]
  clear a
  go_enter Tryz.func39,Tryz.ntmps39
  go_wp2
  go_ret
  exact ⟨rfl,rfl⟩
 ·have g:decide (n<1)=false:=by simpa using h
  have a:gI x n=x%n:=if_neg h
  rw [a]
  clear a
  have i:=hide (q6q x n (by omega))
  go_enter Tryz.func39,Tryz.ntmps39
  go_wp2
  all_goals
   rename_i b
   have c:=i.out
   have k:=Int.emod_nonneg x (show n≠0 by omega)
   have l:=Int.emod_lt_of_pos x (show 0<n by omega)
   have j:=d.2
   go_ret
   refine ⟨?_,rfl⟩
   first
    |(show Ending.returned (.int .i64 (Int.tmod x n))=_;rw [c.2 b])
    |(show Ending.returned (.int .i64 (wrap64 (Int.tmod x n+n)))=_;rw [c.1 b,<-IntWalk.i64_left,IntKind.wrap_i64];congr 2;omega)
structure uP (b:Bs) (w:ajg) (r:ajk) (w':ajg):Prop where
 ret:r= .returned (.agg b.based.cells)
 below:Below w.heap.size w w'
set_option maxRecDepth 100000 in
set_option maxHeartbeats 400000 in
theorem q6r (b:Bs) (hb:b.Ok) (w:ajg):Calls Tryz.prog 158 #[.agg b.cells] w (uP b w):=by
 have f:=hide (λx m w=>ZX x 1099511627776 m ⟨by omega,by omega⟩ w)
 have hs:gI b.seq 1099511627776=b.seq%1099511627776:=if_neg (by omega)
 have ht:gI b.time 1099511627776=b.time%1099511627776:=if_neg (by omega)
 have j:=hide hb.seq
 have k:=hide hb.time
 have n:0<=b.seq%1099511627776:=by omega
 have o:b.seq%1099511627776<1099511627776:=by omega
 obtain ⟨q,g⟩:∃q,b.seq%1099511627776=q:=⟨_,rfl⟩
 obtain ⟨p,h⟩:∃q,b.time%1099511627776=q:=⟨_,rfl⟩
 have l:b.based.cells= #[.int .i64 (1+q),.int .i64 p]:=by rw [<-g,<-h];rfl
 rw [g] at n o hs
 rw [h] at ht
 have s:=hide l
 have a:=hide (λW=>(f.out b.seq j.out W))
 rw [hs] at a
 have c:=hide (λW=>(f.out b.time k.out W))
 rw [ht] at c
 simp only [Bs.cells]
 obtain ⟨u,d⟩:∃q,b.seq=q:=⟨_,rfl⟩
 obtain ⟨y,e⟩:∃q,b.time=q:=⟨_,rfl⟩
 rw [d] at a⊢
 rw [e] at c⊢
 clear g h hs ht d e l f j k
 go_enter Tryz.func158,Tryz.ntmps158
 go_wp2
 go_region_with (first
  |(go_at_call 39;with_reducible refine (a.out _).mono ?_;rintro r t ⟨rfl,rfl⟩)
  |(go_at_call 39;with_reducible refine (c.out _).mono ?_;rintro r t ⟨rfl,rfl⟩))
 all_goals
  go_wp2
  refine bodyPost_ret (v:= .agg #[.int .i64 (1+q),.int .i64 p]) ?g1 rfl ?g2
  case g2=>exact ⟨by rw [s.out],(((Below.refl _ _).alloc (Nat.le_refl _) _).alloc (by simp) _).drew⟩
  case g1=>
   have i:IntKind.i64.wrap (1+q)=1+q:=by rw [IntKind.wrap_i64];omega
   rw [i]
   simp [results,Tryz.results158,go_sem]
section
variable {P:aji} {ops:Array ajm} {Q:ajp->Act->ajg->Prop} {l:Nat} {md:Region.Mode}
def MB (ops:Array ajm):Bool:=ops.all λo=>match o.op with| .defer _=>false|_=>true
def XB (h:MB ops=true) (hi:ops[i]?=some o):∀c,o.op≠ .defer c:=by
 intro c hc
 have hm:o∈ops:=Array.mem_of_getElem? hi
 have:=(Array.all_eq_true_iff_forall_mem.1 h) o hm
 rw [hc] at this
 cases this
def XC {K K':Act->ajg->Prop} (k:∀c,o.op≠ .defer c) (m:¬LetsOut Q) (b:∀a w,K a w->K' a w) (h:o.wp P a w K Q\/(o.asks P a w/\LetsOut Q)):o.wpIn (Fence.wide.inRound l) 0 P a w K' Q:=by
 rcases h with h|h
 ·refine ⟨λ_ _=>trivial,?_⟩
  rw [show (Fence.wide.inRound l).round=some l from rfl,Oper.semAt_some l _ _ k]
  unfold acW at h
  generalize (execOp a.eval o).run P w=r at h
  cases r with
  | ok x i =>
   cases x with
   |value v=>exact b _ _ h
   |skip=>exact b _ _ h
   |defer d=>exact b _ _ h
   |enter f args=>
    refine ⟨λh=>by simp [acf,ahe] at h,?_⟩
    show CallsIn acf 0 P f args i _
    refine (callsIn_wide.2 h).mono ?_
    intro e g j
    cases e with
    |returned v=>exact b _ _ j
    |panicked c=>exact j
    |outgrown=>exact j
   |row r args=>
    refine ⟨λh=>by simp [acf,ahe] at h,λc n _=>?_⟩
    obtain ⟨v,g,p,q⟩:=(h:Rows P r args i _) c n
    exact ⟨v,g,b _ _ p,stepsIn_wide.2 q⟩
   |_=>exact (h:False).elim
  |halt s i=>
   cases s with
   |panic v=>exact h
   |_=>exact (h:False).elim
 ·exact absurd h.2 m
def MC (d:MB ops=true) (e:¬LetsOut Q):∀(b:Nat) (listed:Array Bool) (a:Act) (w:ajg),wpAny P md ops Q b listed a w->wpAnyIn (Fence.wide.inRound l) 0 P md ops Q b listed a w
 |0,_,_,_,h=>h
 | b + 1, listed, a, w, h => by
  refine ⟨h.1,λi hi=>?_⟩
  have c:=h.2 i hi
  unfold wpOp at c
  unfold wpOpIn
  split at c
  ·rename_i f
   rw [f]
   exact MC d e b _ _ _ c
  ·rename_i o f
   rw [f]
   show if ac4 o (yielded ops a.tmps)=true then _ else _
   split at c
   ·rename_i g
    rw [if_pos g]
    exact XC (XB d f) e (λa w h=>MC d e b _ a w h) c
   ·rename_i g
    rw [if_neg g]
    exact ⟨λ_ _=>trivial,MC d e b _ _ _ c⟩
end
def look (σ:List (Nat×ajh)):ajl->Option ajh
 | .tmp t=>σ.lookup t
 | .const v=>some v
 | .global g=>some (.pointer (some ⟨g,0,none⟩))
 | .func f=>some (.func (.func f) #[] #[])
structure Fr (a:Act) (n:Nat) (D:List ajo) (σ:List (Nat×ajh)):Prop where
 size:a.tmps.size=n
 defers:a.defers=D
 slot:∀t v,σ.lookup t=some v->a.tmps.getD t undef=v
section
variable {a:Act} {n:Nat} {D:List ajo} {σ σ':List (Nat×ajh)}
def Fr.eval (h:Fr a n D σ) {x:ajl} {v:ajh} (b:look σ x=some v):a.eval x=v:=by
 cases x with
 |tmp t=>exact h.slot t v b
 |const u=>injection b
 |global g=>injection b
 |func f=>injection b
theorem Fr.put (h:Fr a n D σ) {d:Nat} (c:d<n) (v:ajh):Fr (a.put (some d) v) n D ((d,v)::σ):=by
 refine ⟨by simpa [ahE] using h.size,h.defers,λt u b=>?_⟩
 have hs:=h.size
 by_cases e:t=d
 ·subst e
  simp only [acV,beq_self_eq_true,Option.some.injEq] at b
  subst b
  simp [ahE,hs,c]
 ·have f:(t==d)=false:=by simpa using e
  simp only [acV,f] at b
  have g:=h.slot t u b
  simp only [ahE,acU,Array.getElem?_setIfInBounds_ne (ag6 e)]
  simpa using g
theorem Fr.sub (h:Fr a n D σ) (hs:σ'.map (λp=>σ.lookup p.1)=σ'.map (λp=>some p.2)):Fr a n D σ':=by
 refine ⟨h.size,h.defers,λt v b=>h.slot t v ?_⟩
 induction σ' with
 |nil=>cases b
 | cons p r d =>
  simp only [acE,List.cons.injEq] at hs
  obtain ⟨k,u⟩:=p
  simp only [acV] at b
  split at b
  ·rename_i c
   rw [beq_iff_eq] at c
   subst c
   rw [hs.1,<-b]
  ·exact d hs.2 b
end
def eB (ops:Array ajm) (σ:List (Nat×ajh)) (o:ajm):Option Bool:=
 match o.guard with
 |none=>some true
 | some (j, b) => match (ops[j]?).bind (·.dst) with
  |none=>none
  |some t=>match σ.lookup t with
   |some (.bool c)=>some (c==b)
   |some (.tuple _)=>some false
   |_=>none
def qva:undef= .tuple #[]:=rfl
def EG {D:List ajo} {σ:List (Nat×ajh)} {ops:Array ajm} {c:Bool} (h:Fr a n D σ) (d:eB ops σ o=some c):ac4 o (yielded ops a.tmps)=c:=by
 unfold eB at d
 unfold ac4
 cases hg:o.guard with
 |none=>rw [hg] at d;simpa using d
 | some e =>
  obtain ⟨j,b⟩:=e
  rw [hg] at d
  simp only at d⊢
  cases ht:(ops[j]?).bind (·.dst) with
  |none=>rw [ht] at d;cases d
  | some t =>
   rw [ht] at d
   simp only at d
   unfold yielded
   rw [ht]
   simp only [Option.bind_some]
   cases hl:σ.lookup t with
   |none=>rw [hl] at d;cases d
   | some v =>
    rw [hl] at d
    have hs:=h.slot t v hl
    rw [acU] at hs
    cases hx:a.tmps[t]? with
    |none=>
     rw [hx] at hs
     simp only [Option.getD_none] at hs
     subst hs
     rw [qva] at d
     simp only [Option.some.injEq] at d
     subst d
     rfl
    |some u=>
     rw [hx] at hs
     simp only [Option.getD_some] at hs
     subst hs
     cases u<;>simp only [Option.some.injEq,reduceCtorEq] at d
     ·subst d;rfl
     ·subst d;rfl
def EH (op:BinOp) (k:ajn) (a b:Int):Option ajh:=
 match op with
 | .add=>some (.int k (k.wrap (a+b)))
 | .sub=>some (.int k (k.wrap (a-b)))
 | .mul=>some (.int k (k.wrap (a*b)))
 | .quo=>if b=0 then none else some (.int k (k.wrap (a.tdiv b)))
 | .rem=>if b=0 then none else some (.int k (a.tmod b))
 | .and=>some (.int k (k.wrap (abY k.bits a&&&abY k.bits b).toNat))
 | .or=>some (.int k (k.wrap (abY k.bits a|||abY k.bits b).toNat))
 | .xor=>some (.int k (k.wrap (abY k.bits a^^^abY k.bits b).toNat))
 | .eql=>some (.bool (a==b))
 | .neq=>some (.bool (a !=b))
 | .lss=>some (.bool (a<b))
 | .leq=>some (.bool (a<=b))
 | .gtr=>some (.bool (a>b))
 | .geq=>some (.bool (a>=b))
 |_=>none
def uo (op:BinOp):ajh->ajh->Option ajh
 | .int k a,.int c b=>match op with
  | .shl=>if b<0 then none else some (.int k (k.wrap (a*2^ (min b.toNat k.bits))))
  | .shr=>if b<0 then none else some (.int k (a.fdiv (2^ (min b.toNat k.bits))))
  |_=>if k=c then EH op k a b else none
 | .string a,.string b=>match op with
  | .eql=>some (.bool (a.toList==b.toList))
  | .neq=>some (.bool !(a.toList==b.toList))
  |_=>none
 |_,_=>none
def Gb {P : aji} {op : BinOp} {x y v : ajh} (h : uo op x y = some v) (t : ajj) (w : ajg) : (binOp op t x y).run P w = .ok v w := by
  unfold uo at h
  split at h
  · split at h
    · split at h
      · cases h
      · rename_i b;injection h with h;subst h;simp [binOp,Op.shift,b]
    · split at h
      · cases h
      · rename_i b;injection h with h;subst h;simp [binOp,Op.shift,b]
    · split at h
      · rename_i c
        subst c
        unfold EH at h
        split at h<;>first
          |(injection h with h;subst h;simp [binOp,Op.intArith,Op.intBits,Op.intCmp];done)
          | (split at h
             · cases h
             · rename_i b;injection h with h;subst h;simp [binOp,Op.intDiv,b])
          |cases h
      · cases h
  · split at h
    · injection h with h;subst h;simp [binOp,Op.stringOp]
    · injection h with h;subst h;simp [binOp,Op.stringOp]
    · cases h
  · cases h
def Gc:ajh->Bool
 | .agg _=>false
 | .nilIface=>false
 |_=>true
def yw {P:aji} (op:BinOp) (t:ajj) (x y:ajl) {a b:ajh} (c:Gc a=true) (w:ajg):(eqGuard op t x y a b).run P w= .ok () w:=by
 unfold eqGuard
 cases a<;>first|exact absurd c (by decide)|(split<;>simp;done)|exact absurd c (by simp [Gc])
def EJ (P:aji) (s f:Nat):Option Nat:=
 match P.underlying s with
 | some (.struct c) => match c[f]? with
  |some b=>match P.info? b.type with
   |some i=>if i.size=0 then none else some b.offset
   |none=>none
  |none=>none
 |_=>none
def qr6 {s f off:Nat} (h:EJ P s f=some off) (a:Addr) (w:ajg):(ahf s (.pointer (some a)) f).run P w= .ok (.pointer (some (a.add off))) w:=by
 unfold EJ at h
 split at h
 ·rename_i d b
  split at h
  ·rename_i e c
   split at h
   ·rename_i i hi
    split at h
    ·cases h
    ·rename_i hz
     injection h with h;subst h
     simp [ahf,run_underlying b,c,aex,fieldPlace,sizeOf,typeInfo,hi,hz]
   ·cases h
  ·cases h
 ·cases h
def uq (P:aji) (σ:List (Nat×ajh)):Op->Option ajh
 | .move x=>look σ x
 | .assign x=>look σ x
 | .pick c a b=>match look σ c with
  |some (.bool true)=>look σ a
  |some (.bool false)=>look σ b
  |_=>none
 | .extract t i=>match look σ t with
  |some (.tuple g)=>g[i]?
  |_=>none
 | .unOp .not _ x=>match look σ x with
  |some (.bool b)=>some (.bool !b)
  |_=>none
 | .binOp op _ x y _=>match look σ x,look σ y with
  |some a,some b=>if Gc a then uo op a b else none
  |_,_=>none
 | .convert d e x=>match P.underlying d,P.underlying e,look σ x with
  |some _,some (.int k),some (.int _ m)=>some (.int k (k.wrap m))
  |_,_,_=>none
 | .fieldAddr s x f=>match look σ x,EJ P s f with
  |some (.pointer (some a)),some off=>some (.pointer (some (a.add off)))
  |_,_=>none
 |_=>none
def XD {D:List ajo} {σ:List (Nat×ajh)} (h:Fr a n D σ) {o:ajm} {v:ajh} (e:uq P σ o.op=some v) (w:ajg):(execOp a.eval o).run P w= .ok (.value v) w:=by
 unfold execOp
 unfold uq at e
 split at e
 ·rename_i x d;simp only [d,h.eval e];rfl
 ·rename_i x d;simp only [d,h.eval e];rfl
 ·rename_i c x y d
  split at e
  ·rename_i hc;simp only [d,h.eval hc,h.eval e];rfl
  ·rename_i hc;simp only [d,h.eval hc,h.eval e];rfl
  ·cases e
 ·rename_i t i d
  split at e
  ·rename_i C ht;simp only [d,h.eval ht,Instr.extract,e];rfl
  ·cases e
 ·rename_i t x d
  split at e
  ·rename_i b g;injection e with e;subst e;simp only [d,h.eval g,Op.unary];rfl
  ·cases e
 ·rename_i op t x y u d
  split at e
  ·rename_i p q g j
   split at e
   ·rename_i l
    simp [d,h.eval g,h.eval j,yw op t x y l,Gb e t]
   ·cases e
  ·cases e
 ·rename_i r z x d
  split at e
  ·rename_i E k F m hs A g
   injection e with e;subst e
   simp [d,h.eval g,convert,run_underlying hs,run_underlying A,Conv.intToInt]
  ·cases e
 ·rename_i s x f d
  split at e
  ·rename_i G off g B
   injection e with e;subst e
   simp [d,h.eval g,qr6 B]
  ·cases e
 ·cases e
abbrev vI (x:Int):ajh:= .int .i64 x
abbrev vB (x:Int):ajh:= .int .u8 x
abbrev vQ (x:Int):ajh:= .int .u64 x
abbrev vW (x:Int):ajh:= .int .u32 x
abbrev vP (g o:Nat):ajh:= .pointer (some ⟨g,o,none⟩)
abbrev vS (g n c:Nat):ajh:= .slice (some ⟨g,0,none⟩) n c
abbrev vN:ajh:= .slice none 0 0
theorem om {p:Prop} (h:p:=by omega):p:=h
theorem kr {p:Prop} (h:p:=by kernel_rfl):p:=h
theorem de {p:Prop} (h:p:=by decide):p:=h
inductive ajr
 |blk (g:Nat) (cs:Array ajh) (t:ajj)
 |row (v:ajh) (n:Nat) (xs:List ajh) (e:ajj) (size:Nat)
 |obj (g:Nat) (o:Obj)
abbrev abo {α:Type} (A:ajq) (l:List α) (c:Nat):ajh:= .slice A (abr l) c
abbrev abp {α:Type} (A:ajq) (l:List α) (c:Nat) (f:α->ajh) (e s:Nat):ajr:= .row (.slice A (abr l) c) (abr l) (l.map f) e s
abbrev abq {α:Type} (A:ajq) (l:List α) (c:Nat) (f:α->List ajh) (e s:Nat):ajr:= .row (.slice A (abr l) c) (abr l) (l.flatMap f) e s
def ajr.block:ajr->Option Nat
 | .obj g _=>some g
 | .blk g _ _=>some g
 | .row v _ _ _ _=>v.ownBlock
def ajr.holds (base:Nat) (w:ajg):ajr->Prop
 | .obj g o=>base<=g/\w.heap[g]?=some o
 | .blk g a t=>base<=g/\w.heap[g]?=some (.cells a t (0,0))
 | .row v n xs e size=>w.ownsRow base e size v n xs
def ajr.apart (f g:ajr):Prop:=∀x,f.block=some x->g.block≠some x
structure Mem (W w:ajg) (fs:List ajr):Prop where
 below:Below W.heap.size W w
 holds:∀f∈fs,f.holds W.heap.size w
 apart:fs.Pairwise ajr.apart
variable {f:ajr}
def ajr.apart.symm {g:ajr} (h:f.apart g):g.apart f:=λx a b=>h x b a
def Qb {base:Nat} {e:ajj} {size:Nat} {v:ajh} (h:w.ownsRow base e size v n xs) {g:Nat} (b:v.ownBlock=some g):base<=g/\g<w.heap.size:=by
 rcases h.2 with ⟨rfl,_⟩|⟨d,cap,cur,rfl,c,a,_⟩
 ·cases b
 ·cases b;exact ⟨c,AB a⟩
theorem ajr.holds.lt {base:Nat} (h:f.holds base w) {g:Nat} (a:f.block=some g):base<=g/\g<w.heap.size:=by
 cases f with
 |blk b c t=>injection a with a;subst a;exact ⟨h.1,AB h.2⟩
 |row v n xs e size=>exact Qb h a
 |obj b o=>injection a with a;subst a;exact ⟨h.1,AB h.2⟩
def ajr.holds.keep {base:Nat} {w':ajg} (h:f.holds base w) (hk:∀g,f.block=some g->w'.heap[g]?=w.heap[g]?):f.holds base w':=by
 cases f with
 |obj g o=>exact ⟨h.1,(hk g rfl).trans h.2⟩
 |blk g d t=>exact ⟨h.1,(hk g rfl).trans h.2⟩
 |row v n xs e size=>
  refine ⟨h.1,?_⟩
  rcases h.2 with a|⟨g,cap,cur,rfl,b,c,r⟩
  ·exact .inl a
  ·exact .inr ⟨g,cap,cur,rfl,b,(hk g rfl).trans c,r⟩
section
variable {W w w':ajg} {fs fs':List ajr}
theorem Mem.start (W:ajg):Mem W W []:=⟨aeb _ _,by simp,.nil⟩
theorem Mem.size (h:Mem W w fs):W.heap.size<=w.heap.size:=h.below.size
theorem Mem.call (h:Mem W w fs) (hb:Below w.heap.size w w'):Mem W w' fs:=
 ⟨h.below.trans (hb.mono h.size),λf a=>(h.holds f a).keep λg b=>hb.block g ((h.holds f a).lt b).2,h.apart⟩
theorem Mem.drew (h:Mem W w fs):Mem W w.drew fs:=h.call (aeb _ _).drew
theorem Mem.cons (h:Mem W w fs) {f:ajr} (b:f.holds W.heap.size w) (c:∀g,f.block=some g->∀k∈fs,k.block≠some g):Mem W w (f::fs):=
 ⟨h.below,λk a=>by
  rcases abX.1 a with rfl|a
  ·exact b
  ·exact h.holds k a,aeC.2 ⟨λk a g d=>c g d k a,h.apart⟩⟩
theorem Mem.nil (h:Mem W w fs) (e:ajj) (size:Nat):Mem W w (.row (.slice none 0 0) 0 [] e size::fs):=
 h.cons (World.ownsRow_nil _ _ _ _) (λg a=>by cases a)
theorem Mem.dh (h:Mem W w fs) (hb:Below w.heap.size w w') {e:ajj} {size n:Nat} {v:ajh} {xs:List ajh} (hr:w'.ownsRow w.heap.size e size v n xs):Mem W w' (.row v n xs e size::fs):=
 (h.call hb).cons (PX hr h.size) (λg b k c a => by
  have d:=(Qb hr b).1
  have f:=((h.holds k c).lt a).2
  omega)
theorem Mem.alloc (h:Mem W w fs) (b:Array ajh) (t:ajj):Mem W (w.alloc (.cells b t)) (.blk w.heap.size b t::fs):=
 (h.call ((aeb _ _).alloc (abx _) _)).cons ⟨h.size, aef w _⟩ (λg c k d a => by
  injection c with c
  have e:=((h.holds k d).lt a).2
  omega)
theorem Mem.ny (h:Mem W w fs) (o:Obj):Mem W (w.alloc o) (.obj w.heap.size o::fs):=
 (h.call ((aeb _ _).alloc (abx _) _)).cons ⟨h.size, aef w _⟩ (λg b k c a => by
  injection b with b
  have d:=((h.holds k c).lt a).2
  omega)
def picks (fs:List ajr) (a:List Nat):List ajr:=a.filterMap (fs[·]?)
def ME (h:fs.Pairwise ajr.apart):∀{l:List Nat},l.Nodup->(picks fs l).Pairwise ajr.apart
 |[],_=> .nil
 | i :: l, g => by
  rw [afO] at g
  unfold picks
  rw [List.filterMap_cons]
  cases hi:fs[i]? with
  |none=>exact ME h g.2
  | some f =>
   refine aeC.2 ⟨λk p=>?_,ME h g.2⟩
   obtain ⟨j,q,m⟩:=afJ.1 p
   have n:i≠j:=λe=>g.1 (e▸q)
   obtain ⟨a,b⟩:=abF.1 hi
   obtain ⟨c,d⟩:=abF.1 m
   rcases agO n with o|o
   ·have:=acF.1 h i j a c o
    rwa [b,d] at this
   ·have:=acF.1 h j i c a o
    rw [b,d] at this
    exact this.symm
theorem Mem.picks (h:Mem W w fs) (a:List Nat) (b:a.Nodup) (c:picks fs a=fs'):Mem W w fs':=by
 subst c
 refine ⟨h.below,λf d=>?_,ME h.apart b⟩
 obtain ⟨j,_,e⟩:=afJ.1 d
 exact h.holds f (abK e)
theorem Mem.tail (h:Mem W w (f::fs)):Mem W w fs:=⟨h.below,λk a=>h.holds k (ab5 _ a),(aeC.1 h.apart).2⟩
theorem Mem.turn (h:Mem W w fs) {i:Nat} {f s:ajr} (hi:fs[i]?=some f) (hb:Below W.heap.size W w') (hk:∀g,g<w.heap.size->f.block≠some g->w'.heap[g]?=w.heap[g]?)
  (B:s.holds W.heap.size w') (C:∀g,s.block=some g->f.block=some g\/w.heap.size<=g):Mem W w' (fs.set i s):=by
 obtain ⟨n,o⟩:=abF.1 hi
 have a:∀j (b:j<abr fs),j≠i->ajr.apart fs[j] f/\ajr.apart f fs[j]:=λj b l=>by
  rcases agO l with m|m
  ·have:=acF.1 h.apart j i b n m
   rw [o] at this
   exact ⟨this,this.symm⟩
  ·have:=acF.1 h.apart i j n b m
   rw [o] at this
   exact ⟨this.symm,this⟩
 have d:∀j (b:j<abr fs),j≠i->ajr.apart s fs[j]:=λj b l g t r=>by
  rcases C g t with m|m
  ·exact (a j b l).2 g m r
  ·have:=((h.holds _ (ada b)).lt r).2
   omega
 refine ⟨hb,λk u=>?_,?_⟩
 ·obtain ⟨j,b,c⟩:=acn u
  rw [afC] at c
  rw [abL] at b
  split at c
  ·subst c;exact B
  ·rename_i v
   subst c
   have A:=h.holds _ (ada b)
   exact A.keep λg t=>hk g (A.lt t).2 (λe=>(a j b (ag6 v)).1 g t e)
 ·rw [acF]
  intro p q x y z
  rw [abL] at x y
  rw [afC,afC]
  split
  ·rename_i e
   subst e
   rw [if_neg (by omega)]
   exact d q y (by omega)
  ·split
   ·rename_i e
    subst e
    exact (d p x (by omega)).symm
   ·exact acF.1 h.apart p q x y z
theorem Mem.blk (h:Mem W w fs) {i g:Nat} {C:Array ajh} {t:ajj} (hi:fs[i]?=some (.blk g C t)):w.heap[g]?=some (.cells C t (0,0)):=(h.holds _ (abK hi)).2
theorem Mem.cell (h:Mem W w fs) {i g o:Nat} {C:Array ajh} {t:ajj} {v:ajh} (hi:fs[i]?=some (.blk g C t)) (hc:C[o]?=some v):w.cell? ⟨g,o,none⟩=some v:=by
 simp [aep,h.blk hi,hc]
theorem Mem.own (h:Mem W w fs) {i:Nat} {v:ajh} {n:Nat} {xs:List ajh} {e:ajj} {size:Nat} (hi:fs[i]?=some (.row v n xs e size)):w.ownsRow W.heap.size e size v n xs:=h.holds _ (abK hi)
theorem Mem.rd (h:Mem W w fs) {i:Nat} {A:ajq} {n c:Nat} {xs:List ajh} {e:ajj} {size:Nat} (hi:fs[i]?=some (.row (.slice A n c) n xs e size)):Rd w w.heap.size size A n xs:=aa7 (h.own hi) rfl
theorem Mem.old (h:Mem W w fs) {size:Nat} {A:ajq} {n:Nat} {xs:List ajh} (hr:Rd W W.heap.size size A n xs):Rd w w.heap.size size A n xs:=(hr.below h.below).more h.size
def abk {w:ajg} (hb:w.heap[g]?=some (.cells C t (0,0))) {size n:Nat} (a:C.size=n*size):Rd w w.heap.size size (some ⟨g,0,none⟩) n C.toList:=
 ⟨by simpa using a,λ_=>⟨_,rfl,AB hb,λj u b=>by
  rw [acL,ab9]
  simp only [aep,hb]
  simpa using b⟩⟩
theorem Mem.bE (h:Mem W w fs) {i g:Nat} {C:Array ajh} {t:ajj} {size n:Nat} (hi:fs[i]?=some (.blk g C t)) (a:C.size=n*size):Rd w w.heap.size size (some ⟨g,0,none⟩) n C.toList:=abk (h.blk hi) a
theorem Mem.fV (h:Mem W w fs) {i g:Nat} {C:Array ajh} {e:ajj} {size n:Nat} (hi:fs[i]?=some (.blk g C e)) (a:C.size=n*size) (hm:n<=9223372036854775807):Mem W w (fs.set i (.row (.slice (some ⟨g,0,none⟩) n n) n C.toList e size)):=by
 have c:=h.holds _ (abK hi)
 refine h.turn hi h.below (λ_ _ _=>rfl) ⟨by simpa using a,.inr ⟨g,n,C,rfl,c.1,c.2,abx _,by unfold maxLen;exact hm,a,?_⟩⟩ (λd b=> .inl b)
 rw [<-a,<-Array.length_toList,List.take_length]
theorem Mem.set (h:Mem W w fs) {i g o:Nat} {C:Array ajh} {t:ajj} (hi:fs[i]?=some (.blk g C t)) (v:ajh):Mem W (w.setCell ⟨g,o,none⟩ v) (fs.set i (.blk g (C.setIfInBounds o v) t)):=by
 have a:=h.holds _ (abK hi)
 refine h.turn hi (h.below.setCell (p:=⟨g,o,none⟩) a.1 v) (λk d b=>?_) ⟨a.1,?_⟩ (λf c=> .inl c)
 ·exact agB _ _ _ _ (λe=>b (by rw [e];rfl))
 ·simp [af0,aeX,a.2]
theorem Mem.Cm (h:Mem W w fs) {i g:Nat} {C ds:Array ajh} {t:ajj} (hi:fs[i]?=some (.blk g C t)) (hs:C.size=ds.size):Mem W (w.setCells g 0 ds.toList) (fs.set i (.blk g ds t)):=by
 have a:=h.holds _ (abK hi)
 refine h.turn hi (below_setCells h.below a.1 0 _) (λk d b=>?_) ⟨a.1,?_⟩ (λf c=> .inl c)
 ·exact Mt _ _ _ _ _ (λe=>b (by rw [e];rfl))
 ·have:=qhv a.2 ds.toList (by simpa using hs)
  simpa using this
theorem Mem.append (h:Mem W w fs) {i n:Nat} {v z:ajh} {xs ys:List ajh} {e:ajj} {size c:Nat} (hi:fs[i]?=some (.row v n xs e size)) (l:w'.ownsRow W.heap.size e size z c ys) (k:w.grownBy w' v.ownBlock)
  (hb:z.ownBlock=v.ownBlock\/z.ownBlock=some w.heap.size):Mem W w' (fs.set i (.row z c ys e size)):=by
 have m:=h.own hi
 refine h.turn hi (h.below.grown k h.size (λg b=>(Qb m b).1)) (λg d f=>k.block g d (λe=>f e.symm)) l (λg b=>?_)
 have a:z.ownBlock=some g:=b
 rcases hb with j|j
 ·exact .inl (show v.ownBlock=some g by rw [<-j];exact a)
 ·rw [j] at a;injection a with e;exact .inr (by omega)
end
theorem zci (e:Ev):abr e.vals<=4:=by unfold Ev.vals;rw [abz];exact AJ _
def iU:SI abt 110 2:=⟨by kernel_rfl,by kernel_rfl⟩
def r9 (e:Ev):∀v∈e.cells.toList,v.oneCell'=true:=by intro v a;simp [Ev.cells] at a;rcases a with rfl|rfl|rfl|rfl|rfl|rfl|rfl|rfl|rfl|rfl|rfl<;>rfl
def MF (b:Bs):∀v∈b.cells.toList,v.oneCell'=true:=by intro v a;simp [Bs.cells] at a;rcases a with rfl|rfl<;>rfl
def fD (e:Ev):List ajh:=e.cells.toList
def sj (e:Ev):abr (fD e)=11:=rfl
def Gd (b:Bs) (l:List Ev):Nat->Bs
 |0=>b
 |k+1=>match l[k]? with|some e=>e.at|none=>b
def XE:∀(l:List Ev) (p:Option Ev) (i:Nat),(iT p i l).2=0->(∀e∈l,e.check=0)/\(∀e,l.head?=some e->p.all (λq=>e.after q)=true)/\(∀k (h:k+1<abr l),l[k+1].after l[k]=true)
 |[],_,_,_=>⟨by simp,by simp,by simp⟩
 | e :: r, p, i, h => by
  rw [iT] at h
  split at h
  ·rename_i b;exact absurd h b
  ·rename_i b
   split at h
   ·simp at h
   ·rename_i d
    obtain ⟨g1,f,g⟩:=XE r (some e) (i+1) h
    refine ⟨?_,?_,?_⟩
    ·intro x a
     rcases abX.1 a with rfl|a
     ·simpa using b
     ·exact g1 x a
    ·intro x a
     simp at a;subst a;simpa using d
    ·intro k c
     cases k with
     |zero=>
      cases r with
      |nil=>simp at c
      |cons y r=>exact by simpa using f y rfl
     |succ k=>exact g k (by simpa using c)
theorem qvb (h:e.check=0):e.at.right=true:=by simp_all [Bs.right,Ev.at,vM]
theorem qr8 {q:Ev} (h:e.after q=true):q.at.behind e=true:=by grind [Bs.behind,Ev.after,Ev.at]
def zcj {b:Bs} {l:List Ev} (hr:(jo l).2=0) (hb:b.right=true) (a:l.head?.all b.behind=true) (k:Nat) (hk:k<abr l):uh (Gd b l k) l[k]=0:=by
 obtain ⟨g1,_,c⟩:=XE l none 0 hr
 unfold uh
 rw [if_neg (by simp [g1 l[k] (ada _)]),if_pos]
 cases k with
 |zero=>
  refine ⟨hb,?_⟩
  cases l with
  |nil=>simp at hk
  |cons y r=>show b.behind y=true;simpa using a
 |succ k=>
  have e:Gd b l (k+1)=l[k].at:=by show (match l[k]? with|some e=>e.at|none=>b)=_;rw [abv om]
  rw [e]
  exact ⟨qvb (g1 l[k] (ada _)),qr8 (c k hk)⟩
theorem zj0 (b:Bs) (e:Ev):abr (zn b e)<=61:=by grind [vg,zn,y8,zci]
theorem q4z:∀(j:Nat) (l:List Nat),(aV j l).2.1<=abr l:=by intro x;induction x<;>grind [aV,aD,yu]
theorem XF (b:Bs) (cpu:Nat) (l:List Nat):(bF b cpu l).2.1<=abr l/\((bF b cpu l).2.2=0->0<(bF b cpu l).2.1):=by grind [q4z,uj,bF,aB]
def sP:EI abt 83 73 (.agg Ev.zero.cells) 11 80:=⟨by kernel_rfl,by kernel_rfl,rfl,by omega⟩
def jf (es:List Ev) (a:Nat) (q:List Ev×Nat×Nat):List Ev×Nat×Nat:=if q.2.2≠0 then ([],0,q.2.2) else (es++q.1,a+q.2.1,0)
theorem q40 {cpu j:Nat} {b:Bs} {p:Option Ev} {er:Nat} (d:bF b cpu l=(e,c,er)) (h:er≠0) (es:List Ev) (a:Nat):jf es a (q6 cpu (j+1) b p l)=([],0,er):=by grind [jf,q6]
def q1c {cpu j:Nat} {b:Bs} {p:Option Ev} (d:bF b cpu l=(e,c,0)) (f:p.any (λq=>decide (e.seq=q.seq))=true) (es:List Ev) (a:Nat):jf es a (q6 cpu (j+1) b p l)=([],0,71):=by
 have e1:q6 cpu (j+1) b p l=([],0,71):=by rw [q6,d,if_neg (by simp),if_pos f]
 rw [e1];rfl
theorem q1d {cpu j:Nat} {b:Bs} {p:Option Ev} (d:bF b cpu l=(e,c,0)) (f:p.any (λq=>decide (e.seq=q.seq))=false) (es:List Ev) (a:Nat):jf es a (q6 cpu (j+1) b p l)=jf (es++[e]) (a+c) (q6 cpu j e.at (some e) (l.drop c)):=by grind [jf,q6]
theorem q1e (cpu:Nat):∀(j:Nat) (b:Bs) (p:Option Ev) (l:List Nat),(q6 cpu j b p l).2.2≠0->q6 cpu j b p l=([],0,(q6 cpu j b p l).2.2):=by intro x;cases x<;>grind [q6]
theorem q41 (cpu j:Nat) (b:Bs) (p:Option Ev) (l:List Nat):jf [] 0 (q6 cpu j b p l)=q6 cpu j b p l:=by grind [jf,q6,q1e]
def Qc (m:Int) (l:List Nat):Prop:=m<=1000000000000\/abr l<=1000000000000
def XG {l:List Ev} (h:Rd w B 11 A n (l.flatMap fD)):abr l=n:=by
 have a:=h.len
 have c:abr (l.flatMap fD)=abr l*11:=by
  clear h a
  induction l with
  |nil=>rfl
  |cons e l b=>rw [abO,abu,b,sj,abS];omega
 omega
variable {fs:List ajr}
theorem Laid.mem (h:Laid B W) (a:Mem W w fs) (b:B<=W.heap.size):Laid B w:=h.below a.below b
section
open Go.ChangeShapes Go.WideShapes Go.ChangeAt
def Gf (P:aji) (t:ajj) (a:List acB):Bool:=match P.underlying t with
 |some (.struct b)=>decide (b.size=abr a)&&decide (P.cellsOf t=abr a)&& (acw (abr a)).all λi=>match b[i]?,a[i]? with
  |some f,some k=>decide (f.offset=i)&&decide (P.cellsOf f.type=1)&& (match P.underlying f.type with|some (TypeDesc.int c)=>decide (c=k)|_=>false)
  |_,_=>false
 |_=>false
section
variable {H:Type} {enc:ajj×ajh->H} {P:aji} {W:ajg} {b0:Nat} {sp:Nat->Bool} {held:Bool}
def Qd {g:List acB} (b:Gf P t g=true) {c:Nat} {r:List ajh} {x:DataW H×List MemPlace} (h:adO enc P W b0 sp held c t r=some x):
  abr r=abr g/\∀(i:Nat) (k:acB),g[i]?=some k->∃z:Int,r[i]?=some (abT k z)/\(ae1 k z).wf=true:=by
 unfold Gf at b
 split at b
 ·rename_i E u
  simp only [abH,decide_eq_true_eq,ace,aei] at b
  obtain ⟨⟨F,G⟩,y⟩:=b
  obtain ⟨xs,n,_,_,I,J,A⟩:=agI u h
  refine ⟨by omega,λi k s=>?_⟩
  have hi:i<abr g:=(abF.1 s).1
  have e:=y i hi
  rw [s] at e
  split at e
  ·rename_i f K j l
   cases l
   simp only [abH,decide_eq_true_eq] at e
   obtain ⟨⟨B,hc⟩,a⟩:=e
   split at a
   ·rename_i C m
    simp only [decide_eq_true_eq] at a
    subst a
    have o:=A i f j
    rw [B,hc] at o
    have q:i<abr xs:=by omega
    rw [abv q] at o
    obtain ⟨z,hz,_,D⟩:=DataW.trod_int m o
    refine ⟨z,?_,D⟩
    have:=congrArg (·[0]?) hz
    simpa [adE,adn] using this
   ·cases a
  ·cases e
 ·cases b
end
def MG {a:Int} (h:(ae1 .u16 a).wf=true):0<=a/\a<=65535:=by
 simpa [agN,aeO,aeP,aee,aeB] using h
def vk {a:Int} (h:(ae1 .u32 a).wf=true):0<=a/\a<=4294967295:=by
 simpa [agN,aeO,aeP,aee,aeB] using h
def zol {a:Int} (h:(ae1 .u64 a).wf=true):0<=a/\a<=18446744073709551615:=by
 simpa [agN,aeO,aeP,aee,aeB] using h
def Gg {α:Type} {l m:List α} (h1:abr l=abr m) (h:∀i,i<abr m->l[i]?=m[i]?):l=m:=by
 refine List.ext_getElem? λi=>?_
 by_cases hi:i<abr m
 ·exact h i hi
 ·rw [adp om,adp om]
section
variable {H:Type} {enc:ajj×ajh->H} {W:ajg} {b0:Nat} {v:ajh} {d:DataW H} {p:List MemPlace}
end
section
variable {H:Type} {enc:ajj×ajh->H} {P:aji} {w:ajg} {base:Nat} {spare:Nat->Bool} {held:Bool}
end
section
variable {H:Type} {enc:ajj×ajh->H} {W:ajg} {b0:Nat} {v:ajh} {d:DataW H} {p:List MemPlace}
end
section
variable {H:Type} {enc:ajj×ajh->H} {W:ajg} {b0:Nat} {v:ajh} {d:DataW H} {p:List MemPlace}
end
def fieldAt (P:aji) (t:ajj) (i off:Nat) (u:ajj):Bool:=match P.underlying t with
 |some (.struct a)=>match a[i]? with
  |some f=>decide (f.offset=off)&&decide (f.type=u)
  |none=>false
 |_=>false
section
variable {H:Type} {enc:ajj×ajh->H} {P:aji} {W:ajg} {b0:Nat} {sp:Nat->Bool} {held:Bool}
def q9 {u:ajj} {off:Nat} (a:fieldAt P t i off u=true) {c:Nat} {r:List ajh} {x:DataW H×List MemPlace} (h:adO enc P W b0 sp held c t r=some x):
  abr r=P.cellsOf t/\∃n y,adO enc P W b0 sp held n u ((r.drop off).take (P.cellsOf u))=some y:=by
 unfold fieldAt at a
 split at a
 ·rename_i g j
  split at a
  ·rename_i f b
   simp only [abH,decide_eq_true_eq] at a
   obtain ⟨xs,n,_,_,k,m,l⟩:=agI j h
   refine ⟨k,n,?_⟩
   have e:=l i f b
   have hi:i<g.size:=(ac0.1 b).1
   rw [abv om,a.1,a.2] at e
   exact ⟨_,e⟩
  ·cases a
 ·cases a
end
section
variable {H:Type} {enc:ajj×ajh->H} {W:ajg} {b0:Nat} {v:ajh} {d:DataW H} {p:List MemPlace}
def zj1:List acB:=[.i64,.i64]
def q42:Gf abt 110 zj1=true:=by kernel_rfl
def vT {r:List ajh} {off:Nat} {u:ajh} (h:(r.drop off).take 1=[u]):r[off]?=some u:=by
 have:=congrArg (·[0]?) h
 simpa [adE,adn] using this
end
end
def qi (P:aji) (ops:Array ajm) (Q:ajp->Act->ajg->Prop) (i:Nat) (a:Act) (w:ajg):Prop:=wpList P ops Q (ops.toList.drop i) a w
def Yl (P:aji) (S:ajg->Prop) (σ:List (Nat×ajh)) (o:ajm) (v:ajh):Prop:=∀(a:Act) (n:Nat) (D:List ajo),Fr a n D σ->∀w,S w->(execOp a.eval o).run P w= .ok (.value v) w
section
variable {P:aji} {ops:Array ajm} {Q:ajp->Act->ajg->Prop} {a:Act} {w:ajg} {n i j d fuel:Nat} {D:List ajo} {σ σ':List (Nat×ajh)} {o:ajm} {v:ajh} {md:Region.Mode} {S:ajg->Prop} {K:Act->ajg->Prop} {listed:Array Bool}
def sQ {id:Nat} (h:qi P ops Q 0 a w):(aek id ops false).wp P Q a w:=wp_region_list (by simpa [qi] using h)
def y9 (hi:ops.size=i) (h:Q .normal a w):qi P ops Q i a w:=by
 unfold qi
 rw [acu (by simp [hi])]
 exact h
def Gh (Z:Fr a n D σ) (b:ops[i]?=some o) (c:eB ops σ o=some true) (h:o.wp P a w (qi P ops Q (i+1)) Q):qi P ops Q i a w:=by
 obtain ⟨e,f⟩:=ac0.1 b
 unfold qi
 rw [acv (by simpa using e),aeg,f]
 unfold wpList
 rw [if_pos (EG Z c)]
 exact .inl h
def q43 (Z:Fr a n D σ) (e:ops[i]?=some o) (f:eB ops σ o=some false) (g:o.dst=some d) (b:d<n) (k:∀c,Fr c n D ((d,undef)::σ)->qi P ops Q (i+1) c w):qi P ops Q i a w:=by
 obtain ⟨h,l⟩:=ac0.1 e
 unfold qi
 rw [acv (by simpa using h),aeg,l]
 unfold wpList
 rw [if_neg (by rw [EG Z f];simp),g]
 exact k _ (Z.put b _)
def Yl.wp (hy:Yl P S σ o v) (Z:Fr a n D σ) (e:S w) (f:o.dst=some d) (b:d<n) (k:∀c,Fr c n D ((d,v)::σ)->K c w):o.wp P a w K Q:=by
 unfold acW
 rw [hy a n D Z w e,Oper.upon_value,f]
 exact k _ (Z.put b _)
def MH (Z:Fr a n D σ) (e:S w) (f:ops[i]?=some o) (g:eB ops σ o=some true) (h:o.dst=some d) (b:d<n) (hy:Yl P S σ o v) (k:∀c,Fr c n D ((d,v)::σ)->qi P ops Q (i+1) c w):qi P ops Q i a w:=
 Gh Z f g (hy.wp Z e h b k)
def Yl.pure (h:uq P σ o.op=some v):Yl P S σ o v:=λ_ _ _ Z w _=>XD Z h w
def AL (P:aji) (ops:Array ajm) (n i:Nat) (σ:List (Nat×ajh)):Option (List (Nat×ajh)):=
 match ops[i]? with
 |none=>none
 | some o => match eB ops σ o, o.dst with
  |some true,some d=>if d<n then match uq P σ o.op with
   |some v=>some ((d,v)::σ)
   |none=>none else none
  |some false,some d=>if d<n then some ((d,undef)::σ) else none
  |_,_=>none
def rO (P:aji) (ops:Array ajm) (n:Nat):Nat->Nat->List (Nat×ajh)->Option (List (Nat×ajh))
 |0,_,σ=>some σ
 |m+1,i,σ=>match AL P ops n i σ with
  |none=>none
  |some σ'=>rO P ops n m (i+1) σ'
def Qe:∀(m i:Nat) {j:Nat} {a:Act} {σ:List (Nat×ajh)},Fr a n D σ->rO P ops n m i σ=some σ'->i+m=j->(∀g,Fr g n D σ'->qi P ops Q j g w)->qi P ops Q i a w
 |0,i,j,a,σ,Z,h,r,k=>by
  injection h with h
  subst h
  have e:i=j:=r
  subst e
  exact k a Z
 | m + 1, i, j, a, σ, Z, h, r, k => by
  unfold rO at h
  split at h
  ·cases h
  ·rename_i σ1 b
   have c:=λg l=>Qe m (i+1) (a:=g) (σ:=σ1) l h om k
   unfold AL at b
   split at b
   ·cases b
   ·rename_i o s
    split at b
    ·rename_i d p q
     split at b
     ·rename_i f
      split at b
      ·rename_i v t
       injection b with b
       subst b
       exact MH (S:=λ_=>True) Z trivial s p q f (Yl.pure t) c
      ·cases b
     ·cases b
    ·rename_i d p q
     split at b
     ·rename_i f
      injection b with b
      subst b
      exact q43 Z s p q f c
     ·cases b
    ·cases b
def Fr.sp {v:ajh} (h:Fr a n D σ) (t:Nat) (u:ajh) (c:σ.lookup t=some v) (e:v=u):Fr a n D ((t,u)::σ):=by
 subst e
 refine ⟨h.size,h.defers,λs x b=>?_⟩
 rw [acV] at b
 split at b
 ·rename_i hs
  rw [beq_iff_eq] at hs
  subst hs
  injection b with b
  subst b
  exact h.slot _ _ c
 ·exact h.slot _ _ b
theorem Fr.to (h:Fr a n D σ) (σ':List (Nat×ajh)) (hs:σ'.map (λp=>σ.lookup p.1)=σ'.map (λp=>some p.2):=by kernel_rfl):Fr a n D σ':=h.sub hs
def Fr.on {b c:Bool} (h:Fr a n D σ) (t:Nat) (hb:b=c) (f:σ.lookup t=some (.bool b):=by rfl):Fr a n D ((t,.bool c)::σ):=by
 subst hb
 refine ⟨h.size,h.defers,λs x e=>?_⟩
 rw [acV] at e
 split at e
 ·rename_i hs
  rw [beq_iff_eq] at hs
  subst hs
  injection e with e
  subst e
  exact h.slot _ _ f
 ·exact h.slot _ _ e
def Fr.tf {b:Bool} (h:Fr a n D σ) (t:Nat) (c:σ.lookup t=some (.bool b)):(b=true/\Fr a n D ((t,.bool true)::σ))\/(b=false/\Fr a n D ((t,.bool false)::σ)):=by
 cases b
 ·exact .inr ⟨rfl,h.on t rfl c⟩
 ·exact .inl ⟨rfl,h.on t rfl c⟩
def XH {i:Nat} {s:List (Nat×ajh)} (h:AL P ops n i σ=some s):∃p,s=p::σ:=by
 unfold AL at h
 split at h
 ·cases h
 ·split at h
  ·split at h
   ·split at h
    ·injection h with h;exact ⟨_,h.symm⟩
    ·cases h
   ·cases h
  ·split at h
   ·injection h with h;exact ⟨_,h.symm⟩
   ·cases h
  ·cases h
def XI:∀(m i:Nat) {σ s:List (Nat×ajh)},rO P ops n m i σ=some s->∃full,s=full++σ
 |0,_,σ,s,h=>by injection h with h;exact ⟨[],h.symm⟩
 | m + 1, i, σ, s, h => by
  cases h1:AL P ops n i σ with
  |none=>rw [rO,h1] at h;cases h
  |some s1=>
   rw [rO,h1] at h
   obtain ⟨p,rfl⟩:=XH h1
   obtain ⟨full,b⟩:=XI m (i+1) h
   exact ⟨full++[p],by rw [b];simp⟩
def thin (s σ new:List (Nat×ajh)):Bool:=(s.take (abr s-abr σ)).all λp=>(new.any λq=>q.1==p.1)|| !(σ.any λq=>q.1==p.1)
def Gi {t:Nat}:∀{l m:List (Nat×ajh)},(l++m).lookup t=match l.lookup t with|some v=>some v|none=>m.lookup t
 |[],m=>rfl
 |q::l,m=>by
  rw [aeu,acV,acV]
  split
  ·rfl
  ·exact Gi
def Gj {t:Nat} {v:ajh}:∀{l:List (Nat×ajh)},l.lookup t=some v->(l.any λq=>q.1==t)=true
 |[],h=>by cases h
 | q :: l, h => by
  rw [acV] at h
  split at h
  ·rename_i b
   rw [beq_iff_eq] at b
   simp [b]
  ·simp only [List.any_cons,adD]
   exact .inr (Gj h)
def MI {t:Nat} {l:List (Nat×ajh)} (h:(l.any λq=>q.1==t)=true):∃p∈l,p.1=t:=by
 rw [aeF] at h
 obtain ⟨p,b,c⟩:=h
 exact ⟨p,b,by simpa using c⟩
theorem Fr.thin {s full new:List (Nat×ajh)} (h:Fr a n D s) (hs:s=full++σ) (ht:Go.Proofs.YtekiimhdnigmcaaGreatDoor.thin s σ new=true) (y:new.map (λp=>s.lookup p.1)=new.map (λp=>some p.2)):Fr a n D (new++σ):=by
 have z:=h.sub y
 refine ⟨h.size,h.defers,λt v b=>?_⟩
 rw [Gi] at b
 cases hl:new.lookup t with
 |some u=>
  rw [hl] at b
  injection b with b
  subst b
  exact z.slot t u hl
 | none =>
  rw [hl] at b
  have b:σ.lookup t=some v:=b
  refine h.slot t v ?_
  rw [hs,Gi]
  cases hf:full.lookup t with
  |none=>exact b
  | some u =>
   exfalso
   unfold Go.Proofs.YtekiimhdnigmcaaGreatDoor.thin at ht
   have c:s.take (abr s-abr σ)=full:=by rw [hs,abu,adt];exact List.take_left
   rw [c,ace] at ht
   obtain ⟨p,f,g⟩:=MI (Gj hf)
   have:=ht p f
   rw [g,Gj b] at this
   simp only [Bool.not_true,Bool.or_false] at this
   obtain ⟨q,k,m⟩:=MI this
   have A:new.lookup t≠none:=by
    intro B
    have C:∀(l:List (Nat×ajh)),q∈l->l.lookup t≠none:=by
     intro l
     induction l with
     |nil=>intro e;cases e
     | cons r l E =>
      intro e
      rw [acV]
      split
      ·simp
      ·rename_i x
       rcases abX.1 e with rfl|e
       ·exfalso;rw [m] at x;simp at x
       ·exact E e
    exact C new k B
   exact A hl
def fp (Z:Fr a n D σ) (m i:Nat) (new:List (Nat×ajh)) (k:∀b,Fr b n D (new++σ)->qi P ops Q (i+m) b w) (h:(rO P ops n m i σ).map (λs=>(thin s σ new,new.map λp=>s.lookup p.1))=some (true,new.map λp=>some p.2):=by kernel_rfl):qi P ops Q i a w:=by
 cases hs:rO P ops n m i σ with
 |none=>rw [hs] at h;cases h
 |some s=>
  rw [hs] at h
  injection h with h
  injection h with e f
  obtain ⟨full,g⟩:=XI m i hs
  exact Qe m i Z hs rfl λb c=>k b (c.thin g e f)
def fo (Z:Fr a n D σ) (i:Nat) (b:ops[i]?=some o) (c:eB ops σ o=some true) (h:o.wp P a w (qi P ops Q (i+1)) Q):qi P ops Q i a w:=Gh Z b c h
def fy (Z:Fr a n D σ) (f:Mem W w fs) (i:Nat) (g:ops[i]?=some o) (h:eB ops σ o=some true) (l:o.dst=some d) (hy:Yl P (λb=>Mem W b fs) σ o v) (k:∀e,Fr e n D ((d,v)::σ)->qi P ops Q (i+1) e w) (c:d<n:=by decide):qi P ops Q i a w:=
 MH (S:=λb=>Mem W b fs) Z f g h l c hy k
def eD (ex:List Nat) (listed:Array Bool):Bool:=ex.any λj=>listed.getD j false
def ql (P:aji) (md:aec) (ops:Array ajm) (Q:ajp->Act->ajg->Prop) (S:ajg->Prop) (ex:List Nat):Nat->Array Bool->Act->ajg->Prop
 |0,listed,a,w=>acJ md ops listed=[]/\Q .normal a w
 |fuel+1,listed,a,w=>
  (acJ md ops listed=[]->Q .normal a w)/\
  ∀i∈acJ md ops listed,wpOp P ops Q i (λc b=>(eD ex (listed.setIfInBounds i true)=false->S b)/\ql P md ops Q S ex fuel (listed.setIfInBounds i true) c b) a w
theorem MJ {ex:List Nat}:∀(fuel:Nat) (listed:Array Bool) (a:Act) (w:ajg),ql P md ops Q S ex fuel listed a w->wpAny P md ops Q fuel listed a w
 |0,_,_,_,h=>h
 |fuel+1,_,_,_,h=>⟨h.1,λi hi=>wpOp_mono (λb c e=>MJ fuel _ b c e.2) (h.2 i hi)⟩
def Cn (md:aec) (ops:Array ajm) (ex:List Nat) (i:Nat):Bool:=ex.all λj=>match ops[j]? with
 |some o=>o.after.any λe=>ae9 md e&&e.on==i
 |none=>true
def XJ {l:Array Bool} {i:Nat} (h:ex.contains i=false):eD ex (l.setIfInBounds i true)=eD ex l:=by
 unfold eD
 rw [ab3,aeF,aeF]
 have c:∀j∈ex,i≠j:=λj b e=>by
  subst e
  have:ex.contains i=true:=by simpa using b
  rw [h] at this;cases this
 constructor
 ·rintro ⟨j,b,f⟩;exact ⟨j,b,by rwa [getD_set_ne false (c j b)] at f⟩
 ·rintro ⟨j,b,f⟩;exact ⟨j,b,by rwa [getD_set_ne false (c j b)]⟩
def Qf {l:Array Bool} {i:Nat} (h:eD ex (l.setIfInBounds i true)=false):eD ex l=false:=by
 cases hp:eD ex l with
 |false=>rfl
 |true=>
  unfold eD at h hp
  obtain ⟨j,b,c⟩:=aeF.1 hp
  rw [List.any_eq_false] at h
  exact absurd (getD_set_true (i:=i) c) (h j b)
def Qg {t:ajm} {T:ajg->Prop} (hi:ops[i]?=some t) (q:∀(j:Nat) (o:ajm) A b,ops[j]?=some o->o.op≠ .select A b)
  (hQ:∀c (a:Act) w,Q (.panic c) (a.put t.dst v) w->Q (.panic c) a w) (B:ex.contains i=false):
  ∀(fuel:Nat) (listed:Array Bool) (a:Act) (w:ajg),((∀w,T w)\/(T=S/\Cn md ops ex i=true/\eD ex listed=false))->
   (∀j u,ops[j]?=some u->j≠i->listed.getD j true=false->(∀e∈u.after,ae9 md e=true->e.on≠i)->t.apart ops u=true)->
   i∈acJ md ops listed->YieldsIf P ops T t v a->(eD ex listed=false->S w)->
   ql P md ops Q S ex fuel (listed.setIfInBounds i true) (a.put t.dst v) w->ql P md ops Q S ex (fuel+1) listed a w:=by
 intro fuel
 induction fuel with
 | zero =>
  intro listed a w M _ x N C H
  have R:T w:=by rcases M with h|⟨h,_,l⟩<;>first|exact h w|(rw [h];exact C l)
  refine ⟨λh=>(by rw [h] at x;cases x),λj O=>?_⟩
  by_cases f:j=i
  ·subst f;exact N.wpOp hi R ⟨λl=>C (Qf l),H⟩
  ·have:=ready_mono O f
   rw [H.1] at this
   cases this
 | succ fuel ih =>
  intro listed a w M g x N C H
  have R:T w:=by rcases M with h|⟨h,_,l⟩<;>first|exact h w|(rw [h];exact C l)
  refine ⟨λh=>(by rw [h] at x;cases x),λj O=>?_⟩
  by_cases f:j=i
  ·subst f;exact N.wpOp hi R ⟨λl=>C (Qf l),H⟩
  ·have y:=H.2 j (ready_mono O f)
   obtain ⟨r,u,m,E⟩:=mem_ready.1 O
   have s:∀e∈u.after,ae9 md e=true->e.on≠i:=λe U F heq=>by
    have y:=E e U F
    have Z:=(mem_ready.1 x).1
    rw [heq] at y
    rcases ab0 i listed.size with V|V
    ·simp [V] at Z y;rw [Z] at y;cases y
    ·simp [Array.getElem?_eq_none V] at y
   have W:(∀w,T w)\/(T=S/\Cn md ops ex i=true/\eD ex (listed.setIfInBounds j true)=false):=by
    rcases M with h|⟨h,z,G⟩
    ·exact .inl h
    ·refine .inr ⟨h,z,?_⟩
     rw [XJ ?_]
     ·exact G
     ·cases hc:ex.contains j with
      |false=>rfl
      |true=>
       have hm:j∈ex:=by simpa using hc
       have z:=ace.1 z j hm
       rw [m] at z
       obtain ⟨e,U,F⟩:=Array.any_eq_true'.1 z
       rw [abH,beq_iff_eq] at F
       exact absurd F.2 (s e U F.1)
   have z:=wpOp_putIf m (g j u m f r s) (λA b=>q i t A b hi) (λA b=>q j u A b m) hQ N y
   have p:∀k ok,ops[k]?=some ok->k≠i->(listed.setIfInBounds j true).getD k true=false->
     (∀e∈ok.after,ae9 md e=true->e.on≠i)->t.apart ops ok=true:=λk ok hk X I Y=>by
    refine g k ok hk X ?_ Y
    by_cases J:j=k
    ·subst J;exact r
    ·rw [getD_set_ne true J] at I;exact I
   refine wpOp_mono (λa' w' G=>?_) z
   have L:eD ex (listed.setIfInBounds j true)=false->S w':=λl=>G.2.1 (by rw [af4 _ _ (ag6 f),XJ B];exact l)
   refine ⟨L,ih (listed.setIfInBounds j true) a' w' W p (ready_mono x (ag6 f)) G.1 L ?_⟩
   rw [af4 _ _ f]
   exact G.2.2
section
variable {ex:List Nat}
def XK {id:Nat} (hm:P.follows .mixedOrders=true) (S:ajg->Prop) (ex:List Nat) (h:ql P .any ops Q S ex ops.size (Array.replicate ops.size false) a w.drew):(aek id ops true).wp P Q a w:=
 wp_region_any hm (MJ _ _ _ _ h)
def Gl {id:Nat} (c:Mem W w fs) (fs':List ajr) (b ex:List Nat) (h:Mem W w.drew fs->Mem W w.drew fs'->ql P .any ops Q (λe=>Mem W e fs') ex ops.size (Array.replicate ops.size false) a w.drew)
  (hm:P.follows .mixedOrders=true:=by kernel_rfl) (f:b.Nodup:=by decide) (g:picks fs b=fs':=by rfl):(aek id ops true).wp P Q a w:=
 XK hm _ ex (h c.drew (c.drew.picks b f g))
def sS (md:aec) (ops:Array ajm) (ex:List Nat) (listed:Array Bool) (i:Nat):Bool:=
 agQ ops&& (aho md ops listed i&& ((acJ md ops listed).contains i&& (!ex.contains i&& (Cn md ops ex i&& !eD ex listed))))
def p9 (md:aec) (ops:Array ajm) (ex:List Nat) (listed:Array Bool) (i:Nat):Bool:=
 agQ ops&& (aho md ops listed i&& ((acJ md ops listed).contains i&& !ex.contains i))
def EK (Z:Fr a n D σ) (l:S w) (g:ops[i]?=some o) (e:eB ops σ o=some true) (m:o.dst=some d) (f:d<n) (b:sS md ops ex listed i=true) (p:∀c (a:Act) w,Q (.panic c) (a.put o.dst v) w->Q (.panic c) a w) (hy:Yl P S σ o v)
  (k:∀h,Fr h n D ((d,v)::σ)->ql P md ops Q S ex fuel (listed.setIfInBounds i true) h w):ql P md ops Q S ex (fuel+1) listed a w:=by
 simp only [sS,abH,acP] at b
 obtain ⟨q,r,s,t,u,x⟩:=b
 exact Qg (T:=S) g (aeR q) p t fuel listed a w (.inr ⟨rfl,u,x⟩) (afm g r) (by simpa using s) (.inl ⟨EG Z e,λw e=>hy a n D Z w e⟩) (λ_=>l) (by rw [m];exact k _ (Z.put f _))
def qH (Z:Fr a n D σ) (h:eD ex listed=false->S w) (f:ops[i]?=some o) (l:eB ops σ o=some true) (m:o.dst=some d) (e:d<n) (b:p9 md ops ex listed i=true) (p:∀c (a:Act) w,Q (.panic c) (a.put o.dst v) w->Q (.panic c) a w) (hy:∀q,Yl P q σ o v)
  (k:∀g,Fr g n D ((d,v)::σ)->ql P md ops Q S ex fuel (listed.setIfInBounds i true) g w):ql P md ops Q S ex (fuel+1) listed a w:=by
 simp only [p9,abH,acP] at b
 obtain ⟨r,s,t,u⟩:=b
 exact Qg (T:=λ_=>True) f (aeR r) p u fuel listed a w (.inl λ_=>trivial) (afm f s) (by simpa using t) (.inl ⟨EG Z l,λw _=>hy (λ_=>True) a n D Z w trivial⟩) h (by rw [m];exact k _ (Z.put e _))
def zck (Z:Fr a n D σ) (h:eD ex listed=false->S w) (f:ops[i]?=some o) (l:eB ops σ o=some false) (m:o.dst=some d) (e:d<n) (b:p9 md ops ex listed i=true) (p:∀c (a:Act) w,Q (.panic c) (a.put o.dst undef) w->Q (.panic c) a w)
  (k:∀g,Fr g n D ((d,undef)::σ)->ql P md ops Q S ex fuel (listed.setIfInBounds i true) g w):ql P md ops Q S ex (fuel+1) listed a w:=by
 simp only [p9,abH,acP] at b
 obtain ⟨q,r,s,t⟩:=b
 exact Qg (T:=λ_=>True) f (aeR q) p t fuel listed a w (.inl λ_=>trivial) (afm f r) (by simpa using s) (.inr ⟨EG Z l,rfl⟩) h (by rw [m];exact k _ (Z.put e _))
def zA (P:aji) (md:aec) (ops:Array ajm) (n:Nat) (ex:List Nat):List Nat->Array Bool->List (Nat×ajh)->Option (Array Bool×List (Nat×ajh))
 |[],l,σ=>some (l,σ)
 | i :: b, l, σ => if p9 md ops ex l i then match AL P ops n i σ with
   |some σ'=>zA P md ops n ex b (l.setIfInBounds i true) σ'
   |none=>none
  else none
def MK {e : Array Bool} (p : ∀ c (a : Act) d v w, Q (.panic c) (a.put d v) w -> Q (.panic c) a w) :
  ∀(l:List Nat) {a:Act} {σ:List (Nat×ajh)} {listed:Array Bool},Fr a n D σ->(eD ex listed=false->S w)->zA P md ops n ex l listed σ=some (e,σ')->(∀m,Fr m n D σ'->ql P md ops Q S ex fuel e m w)->ql P md ops Q S ex (fuel+abr l) listed a w
 |[],a,σ,listed,Z,_,h,k=>by
  injection h with h
  injection h with b x
  subst b;subst x
  exact k a Z
 | i :: l, a, σ, listed, Z, q, h, k => by
  unfold zA at h
  split at h
  ·rename_i hc
   split at h
   ·rename_i σ1 b
    have f:=λm r=>MK p l (a:=m) (σ:=σ1) r (λy=>q (Qf y)) h k
    unfold AL at b
    split at b
    ·cases b
    ·rename_i o u
     split at b
     ·rename_i d s t
      split at b
      ·rename_i g
       split at b
       ·rename_i v z
        injection b with b
        subst b
        exact qH Z q u s t g hc (λc a w=>p c a _ _ w) (λ_=>Yl.pure z) f
       ·cases b
      ·cases b
     ·rename_i d s t
      split at b
      ·rename_i g
       injection b with b
       subst b
       exact zck Z q u s t g hc (λc a w=>p c a _ _ w) f
      ·cases b
     ·cases b
   ·cases h
  ·cases h
def Qh:∀(b:List Nat) {l c:Array Bool} {σ s:List (Nat×ajh)},zA P md ops n ex b l σ=some (c,s)->∃full,s=full++σ
 |[],_,_,σ,s,h=>by injection h with h;injection h with _ h;exact ⟨[],h.symm⟩
 | i :: b, l, c, σ, s, h => by
  unfold zA at h
  split at h
  ·split at h
   ·rename_i s1 e
    obtain ⟨p,rfl⟩:=XH e
    obtain ⟨full,f⟩:=Qh b h
    exact ⟨full++[p],by rw [f];simp⟩
   ·cases h
  ·cases h
def ap (Z:Fr a n D σ) (q:eD ex listed=false->S w) (e:List Nat) (b:Array Bool) (new:List (Nat×ajh)) (k:∀f,Fr f n D (new++σ)->ql P md ops Q S ex fuel b f w)
  (t:∀c (a:Act) d v w,Q (.panic c) (a.put d v) w->Q (.panic c) a w:=by intro _ _ d _ _ h;cases d<;>exact h) (h:(zA P md ops n ex e listed σ).map (λr=>(r.1,thin r.2 σ new,new.map λp=>r.2.lookup p.1))=some (b,true,new.map λp=>some p.2):=by kernel_rfl):ql P md ops Q S ex (fuel+abr e) listed a w:=by
 cases hs:zA P md ops n ex e listed σ with
 |none=>rw [hs] at h;cases h
 |some r=>
  obtain ⟨y,s⟩:=r
  rw [hs] at h
  injection h with h
  injection h with m g
  injection g with g u
  simp only at m
  subst m
  obtain ⟨full,x⟩:=Qh e hs
  exact MK t e Z q hs λf l=>k f (l.thin x g u)
def qe (hr:acJ md ops listed=[]) (h:Q .normal a w):ql P md ops Q S ex fuel listed a w:=by
 cases fuel with
 |zero=>exact ⟨hr,h⟩
 |succ f=>exact ⟨λ_=>h,by rw [hr];simp⟩
def all_nil {X:Nat->Prop}:∀i∈([]:List Nat),X i:=λ_ h=>by cases h
def all_cons {X:Nat->Prop} {r:List Nat} (h:X i) (t:∀i∈r,X i):∀j∈i::r,X j:=λj b=>by
 rcases abX.1 b with rfl|b
 ·exact h
 ·exact t j b
def zh (rs:List Nat) (hr:acJ md ops listed=rs) (b:rs.isEmpty=false) (h:∀i∈rs,wpOp P ops Q i (λf c=>(eD ex (listed.setIfInBounds i true)=false->S c)/\ql P md ops Q S ex fuel (listed.setIfInBounds i true) f c) a w):ql P md ops Q S ex (fuel+1) listed a w:=
 ⟨λe=>(by rw [hr] at e;subst e;cases b),hr▸h⟩
def Gm {f:Nat} {l:Array Bool} (J:Act->ajg->Prop) (h:∀a w,J a w->ql P md ops Q S ex f l a w) (k:(∀a w,J a w->ql P md ops Q S ex f l a w)->ql P md ops Q S ex fuel listed a w):ql P md ops Q S ex fuel listed a w:=k h
def cK {p:Prop} {l:Array Bool} (h:eD ex l=true):eD ex l=false->p:=λe=>by rw [h] at e;cases e
def av {c p X:Prop} (h:p) (k:p->X):(c->p)/\X:=⟨λ_=>h,k h⟩
def dR {p X:Prop} {l:Array Bool} (h:eD ex l=true) (k:X):(eD ex l=false->p)/\X:=⟨λe=>(by rw [h] at e;cases e),k⟩
def qu (Z:Fr a n D σ) (b:ops[i]?=some o) (c:eB ops σ o=some true) (h:o.wp P a w K Q):wpOp P ops Q i K a w:=by
 unfold wpOp
 rw [b]
 simp only [EG Z c,if_true]
 exact .inl h
end
def gP (P:aji) (t:ajj):Bool:=match P.underlying t with
 |some (.struct _)=>false
 |some (.array _ _)=>false
 |some _=>true
 |none=>false
def Co (P:aji) (t:ajj):Option Nat:=match P.underlying t with
 |some (.slice e)=>(P.info? e).map (·.size)
 |_=>none
def Gn (h:gP P t=true) (w:ajg):(isAgg t).run P w= .ok false w:=by
 unfold gP at h
 cases hu:P.underlying t with
 |none=>rw [hu] at h;cases h
 |some d=>rw [hu] at h;simp only [isAgg,abJ,run_underlying hu,abD];cases d<;>first|rfl|cases h
def Pd {p:Addr} (b:o.op= .load t x) (c:look σ x=some (.pointer (some p))) (ht:gP P t=true) (hc:∀w,S w->w.cell? p=some v):Yl P S σ o v:=λa n D Z w e=>by
 unfold execOp
 simp [b,Z.eval c,ahp,aex,loadVar,Gn ht,load,Sem.run,hc w e]
def Pe {off:Nat} (c:o.op= .load t x) (f:look σ x=some (.pointer (some ⟨b,off,none⟩))) (e:SI P t m) (hm:C.size=m) (hc:∀w,S w->w.rangeAt b off C.toList):Yl P S σ o (.agg C):=λa n D Z w g=>by
 obtain ⟨h,k,l⟩:=e.desc
 have p:=run_loadVar_mid (P:=P) w b off t C.toList h (hc w g) k l (by rw [e.size,<-hm];simp)
 unfold execOp
 simp [c,Z.eval f,ahp,aex,p]
def Yl.indexAddr {ix:ajl} {ad:Addr} {y sz:Nat} (f:o.op= .indexAddr t x ix) (h:look σ x=some (.slice (some ad) m c)) (hi:look σ ix=some (.int k (y:Int))) (hy:y<m) (b:Co P t=some sz):Yl P S σ o (.pointer (some (ad.add (y*sz)))):=λa n D Z w p=>by
 unfold Co at b
 split at b
 ·rename_i e l
  obtain ⟨i,g,rfl⟩:=Option.map_eq_some_iff.1 b
  unfold execOp
  have q:¬m<=y:=by omega
  simp [f,Z.eval h,Z.eval hi,Instr.indexAt,asIntOf,run_underlying l,hy,sizeOf,typeInfo,g]
 ·cases b
def nX (P:aji) (t:ajj):Bool:=match P.underlying t with
 |some (.slice _)=>true
 |_=>false
def Yl.len (b:o.op= .call {callee:= .builtin .len,args:= #[x],argTypes:= #[t]}) (f:look σ x=some (.slice A m c)) (ht:nX P t=true):Yl P S σ o (.int .i64 (m:Int)):=λa n D Z w h=>by
 unfold nX at ht
 split at ht
 ·rename_i e g
  unfold execOp
  simp [b,resolve,invoke,builtin,Z.eval f,Builtin.len_,run_underlying g,goInt]
 ·cases ht
def Yl.min {y:ajl} {ts:Array ajj} {p q:Int} (b:o.op= .call {callee:= .builtin .min,args:= #[x,y],argTypes:=ts}) (c:look σ x=some (.int k p)) (hy:look σ y=some (.int k q)):Yl P S σ o (.int k (if q<p then q else p)):=λa n D Z w e=>by
 unfold execOp
 simp [b,resolve,invoke,builtin,Z.eval c,Z.eval hy,Builtin.min_,Builtin.min2]
def Yl.max {y:ajl} {ts:Array ajj} {p q:Int} (b:o.op= .call {callee:= .builtin .max,args:= #[x,y],argTypes:=ts}) (c:look σ x=some (.int k p)) (hy:look σ y=some (.int k q)):Yl P S σ o (.int k (if q>p then q else p)):=λa n D Z w e=>by
 unfold execOp
 simp [b,resolve,invoke,builtin,Z.eval c,Z.eval hy,Builtin.max_,Builtin.max2]
def Yl.as {u:ajh} (h:Yl P S σ o v) (e:v=u):Yl P S σ o u:=e▸h
def Yl.ix {ix:ajl} (g of y sz:Nat) {m c:Nat} {k:ajn} (b:o.op= .indexAddr t x ix) (e:look σ x=some (.slice (some ⟨g,of,none⟩) m c)) (hi:look σ ix=some (.int k (y:Int))) (hy:y<m:=by omega) (f:Co P t=some sz:=by kernel_rfl):Yl P S σ o (.pointer (some ⟨g,of+y*sz,none⟩)):=
 (Yl.indexAddr (ad:=⟨g,of,none⟩) b e hi hy f).as (by rw [acL])
def Yl.iM {ix:ajl} (g y sz:Nat) {m c:Nat} {k:ajn} (b:o.op= .indexAddr t x ix) (e:look σ x=some (.slice (some ⟨g,0,none⟩) m c)) (hi:look σ ix=some (.int k (y:Int))) (hy:y<m:=by omega) (f:Co P t=some sz:=by kernel_rfl):Yl P S σ o (.pointer (some ⟨g,y*sz,none⟩)):=
 (Yl.indexAddr (ad:=⟨g,0,none⟩) b e hi hy f).as (by rw [acL,ab9])
end
end Go.Proofs.YtekiimhdnigmcaaGreatDoor
