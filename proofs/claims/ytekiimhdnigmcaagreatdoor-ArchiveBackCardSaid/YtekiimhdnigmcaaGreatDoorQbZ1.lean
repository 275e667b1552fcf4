/- Parts. -/
import Derived.RangeFuncNested
import Derived.RangeFuncCalls
import Derived.WalkKit
import Derived.Deep.Draws
import Derived.Maps.AppendAt
import Derived.OwnWalkIn
import Derived.Deep.AppendLies
import Derived.Test.YtekiimhdnigmcaaGreatDoorRows
import Derived.WalkSpells
import Derived.WalkLawsBesides
import Derived.Deep.QuietTactic
import Derived.BigQuiet
import Derived.Deep.MidRow
import Derived.Deep.RegionHeld3
import Derived.RangeFuncBound
import Derived.Shelf.Abstract
import Derived.Shelf.RegionOpen
import Derived.TacticsInMore
import Derived.LoopNIn
import Derived.LoopIn
import Derived.Laws.BytesString
import Derived.Laws.BytesArg
import Derived.ProofKit
import Derived.Below
import Derived.Carry
import Derived.LaidMore
import Derived.Lib.LaidU8
import Derived.Lib.SmallJoins
set_option linter.all false
namespace Go.Proofs.YtekiimhdnigmcaaGreatDoor
open Go.RowKit
open Go renaming World→aiM,Value→aiN,Program→aiO,TypeId→aiP,Ending→aiQ,Operand→aiR,Oper→aiS,IntKind→aiT,Deferred→aiU,Exit→aiV
abbrev aiW:=Option Addr
open List renaming length→abo
open _root_.Go.Proofs.Tryz renaming prog→abp
open _root_.List renaming length_append→abq,getElem?_eq_getElem→abr,getD_eq_getElem?_getD→abt,length_map→abw,length_take→abx,getElem?_eq_some_iff→abB,mem_of_getElem?→abJ,length_set→abK,append_nil→abM,flatMap_cons→abR,length_cons→abV,mem_cons→abY,mem_cons_of_mem→ab5,mem_map→ab7,all_eq_true→ace,range→aco,getElem_of_mem→acp,drop_of_length_le→acs,eq_nil_of_length_eq_zero→acu,drop_eq_getElem_cons→acz,map_cons→acB,pairwise_iff_getElem→acC,lookup_cons→acR,getElem_mem→ac7,getElem?_take→adE,getElem?_drop→adL,getElem?_eq_none→adR,cons_append→aei,pairwise_cons→aey,any_eq_true→aeB,of_mem_zip→aeO,mem_range→aeS,map_map→aeZ,getElem_set→afs,mem_filterMap→afy,nodup_cons→afD,getD_cons_zero→agm,drop_succ_cons→agn,map_fst_zip→agG,drop_zero→agY
open Nat renaming le_refl→abu,lt_or_ge→ab6,eq_zero_or_pos→ach,zero_add→aci,mul_le_mul_right→acy,pow_le_pow_right→adq,add_sub_cancel→adr,succ_mul→adI,mod_two_eq_zero_or_one→adJ,xor_assoc→aer,add_assoc→afe,testBit_zero→afx,testBit_xor→afH,eq_of_testBit_eq→agl,lt_or_gt_of_ne→agA,pow_succ→agP,xor_comm→ahk,or_comm→ahu
open Result renaming andThen_ok→abA
open Bool renaming and_eq_true→abG,eq_iff_iff→ab3,not_eq_true'→acL,or_eq_true→adD
open Sem renaming run_bind→abI
open Value renaming int→abT,slice→afJ
open BitVec renaming ofInt→ab0
open Fence renaming wide→acf,inRound→agZ
open Go renaming IntKind→acw
open Region renaming ready→acF,wanted→acY,Mode→ad3,noSelect_spec→aeT,binds→afc,free_spec→afj,noSelect→agC,free→ag7
open Addr renaming add_mid→acI,add→agF
open _root_.Array renaming getD_eq_getD_getElem?→acQ,getElem?_eq_some_iff→acU,getElem_toList→ad7,getElem?_modify→aeY,setIfInBounds_comm→afP
open Oper renaming wp→acS
open Builtin renaming append_→ac9,lenOf→afL,firstCells→af8
open Instr renaming sliceAt→adG,sureAddr→aek,typeAssert→aeN,sliceBounds→afw,sliceBound→afG,slice→agx,fieldAt→ag0,loadAt→ag8
open DataW renaming trod→adN,trod_struct→ags,TrodAll→agX
open IntKind renaming wrap_u64→adX,signed→ad5,bits→aex,min→aeP,max→aeQ,wrap_i64→agk
open Below renaming refl→ad2,heap_setCell→agi
open World renaming alloc_heap_new→ad6,cell?→aef,setCell→afN,cell?_alloc_lt→af7
open Code renaming region→aea
open Lit renaming int→ae4,wf→agz
open UInt8 renaming ofNat→afr
open Int renaming tmod→afO,le_refl→af4
open IntWalk renaming i64_left→agj
open Ne renaming symm→agQ
open Act renaming put→ahm
variable {p:Nat->Bool} {w W:aiM} {k:aiT} {o:aiS} {c n B b i g m cpu:Nat} {xs:List aiN} {a:Act} {x:aiR} {l ex:List Nat} {P:aiO} {t:aiP} {C:Array aiN} {A:aiW}
theorem hide {p:Prop} (h:p):Hid p:=h
def z8 {k:Nat} {o:Obj} (h:w.heap[k]?=some o):k<w.heap.size:=(acU.1 h).1
section
variable {P:aiO} {g:aiR} {ps:Array Tmp} {assign body:Code} {Q:aiV->Act->aiM->Prop} {a:Act} {w:aiM} {gf:Nat} {lb:Array aiN} {xs:List (Array aiN)} {S:List Nat} {N:Nat->Prop}
end
def add_block (a:Addr) (n:Nat):(a.add n).block=a.block:=by unfold agF;split<;>rfl
def Ww (a:Addr) (i j:Nat):(a.add i).add j=a.add (i+j):=by
 unfold agF
 by_cases hi:i=0<;>by_cases b:j=0<;>simp [hi,b,afe]
structure Rd (w:aiM) (B size:Nat) (A:aiW) (n:Nat) (xs:List aiN):Prop where
 len:abo xs=n*size
 row:0<n->∃ad,A=some ad/\ad.block<B/\∀j u,xs[j]?=some u->w.cell? (ad.add j)=some u
section
variable {w w':aiM} {B B' size n:Nat} {A:aiW} {xs:List aiN}
theorem Rd.nil:Rd w B size A 0 []:=⟨by simp,λh=>by omega⟩
theorem Rd.yF (h:Rd w B size A n xs) (hk:∀p:Addr,p.block<B->w'.cell? p=w.cell? p):Rd w' B size A n xs:=
 ⟨h.len,λb=>by
  obtain ⟨c,e,a,hc⟩:=h.row b
  exact ⟨c,e,a,λj u d=>(hk _ (by rw [add_block];exact a)).trans (hc j u d)⟩⟩
theorem Rd.more (h:Rd w B size A n xs) (c:B<=B'):Rd w B' size A n xs:=
 ⟨h.len,λa=>by
  obtain ⟨b,e,d,hc⟩:=h.row a
  exact ⟨b,e,by omega,hc⟩⟩
theorem Rd.below (h:Rd w B size A n xs) (hb:Below B w w'):Rd w' B size A n xs:=h.yF λ_ a=>hb.cell a
theorem Rd.drewN (h:Rd w B size A n xs) (k:Nat):Rd (w.drewN k) B size A n xs:=⟨h.len,h.row⟩
theorem Rd.alloc (h:Rd w B size A n xs) (a:B<=w.heap.size) (o:Obj):Rd (w.alloc o) B size A n xs:=h.yF λp b=>af7 w o p (by omega)
theorem Rd.from (h:Rd w B size A n xs) {k cap:Nat} (hk:k<=n) (hc:n<=cap):
  Rd w B size (if cap=k then A else A.map (·.add (k*size))) (n-k) (xs.drop (k*size)):=by
 refine ⟨by rw [List.length_drop,h.len,Nat.sub_mul],λf=>?_⟩
 obtain ⟨b,rfl,c,a⟩:=h.row (by omega)
 rw [if_neg (by omega)]
 refine ⟨b.add (k*size),rfl,by rw [add_block];exact c,λj u d=>?_⟩
 rw [Ww]
 exact a _ u (by rw [<-d,adL])
theorem Rd.upto (h:Rd w B size A n xs) {k:Nat} (hk:k<=n):Rd w B size A k (xs.take (k*size)):=by
 refine ⟨by rw [abx,h.len];exact Nat.min_eq_left (acy _ hk),λf=>?_⟩
 obtain ⟨c,rfl,d,a⟩:=h.row (by omega)
 refine ⟨c,rfl,d,λj u b=>a j u ?_⟩
 rw [adE] at b
 split at b
 ·exact b
 ·cases b
def aa9 {base:Nat} {e:aiP} {v:aiN} (h:w.ownsRow base e size v n xs) (b:v= .slice A n c):Rd w w.heap.size size A n xs:=by
 subst b
 refine ⟨h.1,λk=>?_⟩
 rcases h.2 with ⟨a,l⟩|⟨g,cap,cur,a,m,d,_,_,_,ht⟩
 ·omega
 ·injection a with f o p
  subst f
  refine ⟨_,rfl,z8 d,λj u i=>?_⟩
  exact h.cells (g:=g) rfl j u i
theorem Rd.at {k:Nat} (h:Rd w B 1 A n xs) (hk:k<n):∃a,A=some a/\a.block<B/\∃b:k<abo xs,w.cell? (a.add k)=some xs[k]:=by
 obtain ⟨a,e,c,hc⟩:=h.row (by omega)
 have b:k<abo xs:=by have:=h.len;omega
 exact ⟨a,e,c,b,hc k _ (abr b)⟩
end
def B8 (b:Nat):aiN:= .int .u8 (b:Int)
def bF (x:Nat):aiN:= .int .u64 (x:Int)
def Ph {base:Nat} {e:aiP} {size:Nat} {v:aiN} (h:w.ownsRow base e size v n xs) (hb:c<=base):w.ownsRow c e size v n xs:=by
 refine ⟨h.1,?_⟩
 rcases h.2 with a|⟨g,cap,cur,a,d,b⟩
 ·exact .inl a
 ·exact .inr ⟨g,cap,cur,a,by omega,b⟩
structure EI (P:aiO) (t e:aiP) (z:aiN) (size bytes:Nat):Prop where
 ht:P.underlying t=some (.slice e)
 hi:(P.info? e).map (λi=>(i.zero,i.size,i.bytes))=some (some z,size,bytes)
 hz:z.cells.size=size
 hs:0<size
section
variable {P:aiO} {w:aiM} {base:Nat} {t e:aiP} {z:aiN} {size bytes:Nat}
def qnd (b:EI P t e z size bytes) (f:aiP) {v:aiN} {n:Nat} {xs:List aiN} (a:w.ownsRow base e size v n xs) (c:Nat):(ac9 #[t,t] f #[v,.slice none 0 c]).run P w= .ok v w:=by
 obtain ⟨i,hi,_⟩:=info_parts b.hi
 rcases a.2 with ⟨rfl,rfl⟩|⟨g,cap,cur,rfl,_,_,d,_⟩
 ·simp [ac9,run_underlying b.ht,sizeOf,typeInfo,hi,afL,af8]
 ·simp [ac9,run_underlying b.ht,sizeOf,typeInfo,hi,afL,af8,d,storeCells]
def qz9 (p:EI P t e z size bytes) (r:aiP) {v:aiN} {n:Nat} {xs:List aiN} (a:w.ownsRow base e size v n xs)
  {B:Nat} {A:aiW} {m c:Nat} {news:List aiN} (hr:Rd w B size A m news) (h1:∀u∈news,u.oneCell'=true)
  (b:(n+m)*bytes<=140737488355328) (h63:n+m<=9223372036854775807) (o:base<=w.heap.size):
  ∃k l w',(ac9 #[t,t] r #[v,.slice A m c]).run P w= .ok (.slice k (n+m) l) w'/\w'.ownsRow base e size (.slice k (n+m) l) (n+m) (xs++news)/\w.grownBy w' v.ownBlock/\
   ((afJ k (n+m) l).ownBlock=v.ownBlock\/(afJ k (n+m) l).ownBlock=some w.heap.size):=by
 obtain ⟨i,hi,hz,s,x⟩:=info_parts p.hi
 rcases A with _|y
 ·have hm:m=0:=by
   rcases ach m with d|d
   ·exact d
   ·obtain ⟨y,h,_⟩:=hr.row d
    cases h
  subst hm
  have C:news=[]:=acu (by simpa using hr.len)
  subst C
  obtain ⟨k,l,rfl⟩:∃A c,v= .slice A n c:=by
   rcases a.2 with ⟨rfl,rfl⟩|⟨g,cap,cur,rfl,_⟩<;>exact ⟨_,_,rfl⟩
  exact ⟨k,l,w,qnd p r a c,by simpa using a,World.grownBy.refl w _,.inl rfl⟩
 ·have f:∀j u,news[j]?=some u->w.cell? (y.add j)=some u:=by
   intro j u D
   rcases ach m with d|d
   ·subst d
    have C:news=[]:=acu (by simpa using hr.len)
    subst C
    simp at D
   ·obtain ⟨F,h,_,hc⟩:=hr.row d
    injection h with h
    subst h
    exact hc j u D
  obtain ⟨H,w',q,E,I,_,J⟩:=run_append_own_at (P:=P) w base t r e i z size bytes p.ht hi hz s x p.hz p.hs v n xs a y m c news hr.len f h1 (by unfold maxLen;exact h63) b o
  obtain ⟨k,l,rfl⟩:∃A c,H= .slice A (n+m) c:=by
   rcases E.2 with ⟨rfl,d⟩|⟨g,cap,cur,rfl,_⟩
   ·rw [d];exact ⟨_,_,rfl⟩
   ·exact ⟨_,_,rfl⟩
  exact ⟨k,l,w',q,E,I,J⟩
def Wx {K:Act->aiM->Prop} {Q:aiV->Act->aiM->Prop} {s:aiR}
  (k:o.op= .call {callee:= .builtin .append,args:= #[s,x],argTypes:= #[t,t]}) (l:EI P t e z size bytes)
  {v:aiN} {n:Nat} {xs:List aiN} (i:w.ownsRow base e size v n xs) (hs:a.eval s=v)
  {B:Nat} {A:aiW} {m c:Nat} {news:List aiN} (hr:Rd w B size A m news) (p:a.eval x= .slice A m c) (h1:∀u∈news,u.oneCell'=true)
  (b:(n+m)*bytes<=140737488355328) (h63:n+m<=9223372036854775807) (d:base<=w.heap.size)
  (h:∀f g w',w'.ownsRow base e size (.slice f (n+m) g) (n+m) (xs++news)->w.grownBy w' v.ownBlock->((Value.slice f (n+m) g).ownBlock=v.ownBlock\/(Value.slice f (n+m) g).ownBlock=some w.heap.size)->K (a.put o.dst (.slice f (n+m) g)) w'):o.wp P a w K Q:=by
 obtain ⟨f,g,w',j,q,r,y⟩:=qz9 (P:=P) l o.type i hr h1 (c:=c) b h63 d
 unfold acS execOp
 simp only [k,resolve,invoke,builtin,abI,Sem.run_pure,abA,List.map_toArray,acB,List.map_nil,hs,p,j]
 exact h f g w' q r y
def Wy {ops:Array aiS} {rest:List aiS} {Q:aiV->Act->aiM->Prop} {s:aiR} (j:o.guard=none)
  (k:o.op= .call {callee:= .builtin .append,args:= #[s,x],argTypes:= #[t,t]}) (l:EI P t e z size bytes)
  {v:aiN} {n:Nat} {xs:List aiN} (i:w.ownsRow base e size v n xs) (hs:a.eval s=v)
  {B:Nat} {A:aiW} {m c:Nat} {news:List aiN} (hr:Rd w B size A m news) (p:a.eval x= .slice A m c) (h1:∀u∈news,u.oneCell'=true)
  (b:(n+m)*bytes<=140737488355328) (h63:n+m<=9223372036854775807) (d:base<=w.heap.size)
  (h:∀f g w',w'.ownsRow base e size (.slice f (n+m) g) (n+m) (xs++news)->w.grownBy w' v.ownBlock->((Value.slice f (n+m) g).ownBlock=v.ownBlock\/(Value.slice f (n+m) g).ownBlock=some w.heap.size)->wpList P ops Q rest (a.put o.dst (.slice f (n+m) g)) w'):
  wpList P ops Q (o::rest) a w:=
 wpList_plain j λ_ q=>Wx k l i hs hr p h1 b h63 d λf g w' r y C=>q _ _ (h f g w' r y C)
end
theorem Rd.one (w:aiM) (x:aiN) (e:aiP):Rd (w.alloc (.cells #[x] e)) (w.heap.size+1) 1 (some ⟨w.heap.size,0,none⟩) 1 [x]:=
 ⟨rfl,λ_=>⟨_,rfl,by simp,λj u a=>cell_one_new w x e j u a⟩⟩
section
variable {bx:Nat} {t:aiP} {base:Nat} {e:aiP} {size:Nat} {G:Nat->Prop} {n:Nat} {xs:List aiN} {W W':aiM} {v:aiN}
end
def qo9 {α:Type} {l:List α} {k:Nat} {u:α} (f:α->aiN) (h:l[k]?=some u):(l.take k).map f++[f u]=(l.take (k+1)).map f:=by
 rw [List.take_add_one,h];simp
def below_drewN {a:aiM} (h:Below B a w) (n:Nat):Below B a (w.drewN n):=⟨h.os,h.tape,h.output,h.size,h.block⟩
def own_drewN {base:Nat} {e:aiP} {size:Nat} {v:aiN} (h:w.ownsRow base e size v n xs) (m:Nat):(w.drewN m).ownsRow base e size v n xs:=h
section
def bA:EI abp 30 5 (.int .u8 0) 1 1:=⟨by kernel_rfl,by kernel_rfl,rfl,by omega⟩
def kM:EI abp 117 41 (.int .u64 0) 1 8:=⟨by kernel_rfl,by kernel_rfl,rfl,by omega⟩
def j6:EI abp 38 3 (.int .i64 0) 1 8:=⟨by kernel_rfl,by kernel_rfl,rfl,by omega⟩
def zml:EI abp 319 9 (.string ⟨#[]⟩) 1 16:=⟨by kernel_rfl,by kernel_rfl,rfl,by omega⟩
end
def aX (x:Int):Prop:= -9223372036854775808<=x/\x<=9223372036854775807
def bL (n:Nat):aiN:= .int .i64 (n:Int)
structure Ev where
 seq:Int
 time:Int
 cpu:Nat
 kind:Nat
 task:Int
 group:Int
 to:Int
 weight:Int
 ticks:Int
 mask:Nat
 got:Int
structure Ev.Ok (e:Ev):Prop where
 seq:aX e.seq
 time:aX e.time
 cpu:e.cpu<256
 kind:e.kind<256
 task:aX e.task
 group:aX e.group
 to:aX e.to
 weight:aX e.weight
 ticks:aX e.ticks
 mask:e.mask<18446744073709551616
 got:aX e.got
def Ev.cells (e:Ev):Array aiN:= #[.int .i64 e.seq,.int .i64 e.time,.int .u8 (e.cpu:Int),.int .u8 (e.kind:Int),.int .i64 e.task,.int .i64 e.group,.int .i64 e.to,.int .i64 e.weight,.int .i64 e.ticks,.int .u64 (e.mask:Int),.int .i64 e.got]
structure jY (w:aiM) (b:Nat) (e:Ev):Prop where
 seq:w.cell? ⟨b,0,none⟩=some (.int .i64 e.seq)
 time:w.cell? ⟨b,1,none⟩=some (.int .i64 e.time)
 cpu:w.cell? ⟨b,2,none⟩=some (.int .u8 (e.cpu:Int))
 kind:w.cell? ⟨b,3,none⟩=some (.int .u8 (e.kind:Int))
 task:w.cell? ⟨b,4,none⟩=some (.int .i64 e.task)
 group:w.cell? ⟨b,5,none⟩=some (.int .i64 e.group)
 to:w.cell? ⟨b,6,none⟩=some (.int .i64 e.to)
 weight:w.cell? ⟨b,7,none⟩=some (.int .i64 e.weight)
 ticks:w.cell? ⟨b,8,none⟩=some (.int .i64 e.ticks)
 mask:w.cell? ⟨b,9,none⟩=some (.int .u64 (e.mask:Int))
 got:w.cell? ⟨b,10,none⟩=some (.int .i64 e.got)
variable {e:Ev}
def jY.keep (h:jY w b e) (hk:∀(o:Nat) (v:aiN),w.cell? ⟨b,o,none⟩=some v->W.cell? ⟨b,o,none⟩=some v):jY W b e:=
 ⟨hk _ _ h.seq,hk _ _ h.time,hk _ _ h.cpu,hk _ _ h.kind,hk _ _ h.task,hk _ _ h.group,hk _ _ h.to,hk _ _ h.weight,hk _ _ h.ticks,hk _ _ h.mask,hk _ _ h.got⟩
theorem jY.below (h:jY w b e) (hk:Below B w W) (hb:b<B):jY W b e:=h.keep λo _ a=>(hk.cell (p:=⟨b,o,none⟩) hb).trans a
def jY.new (w:aiM) (e:Ev) (t:aiP):jY (w.alloc (.cells e.cells t)) w.heap.size e:=by
 constructor<;>rw [World.cell?_alloc_new]<;>rfl
def aB:Nat->List Nat
 |1=>[0,1,3,5]|2=>[0]|3=>[6]|4=>[6]|5=>[4,6]|6=>[6]|7=>[0,3]|8=>[1,3]|9=>[0,2]|10=>[6]|_=>[]
def Ev.iA (e:Ev):Nat->Int
 |0=>e.task|1=>e.group|2=>e.to|3=>e.weight|4=>e.ticks|5=>(e.mask:Int)|_=>e.got
def Ev.within (e:Ev):Nat->Bool
 |0=>decide (1<=e.task/\e.task<=65535)
 |1=>decide ((if e.kind=8 then 1 else 0)<=e.group/\e.group<=255)
 |2=>decide (0<=e.to/\e.to<=63/\e.to≠(e.cpu:Int))
 |3=>decide (1<=e.weight/\e.weight<=65536)
 |4=>decide (1<=e.ticks/\e.ticks<=4294967295)
 |5=>decide (e.mask/2^e.cpu%2=1)
 |_=>decide ((if e.kind=5\/e.kind=6 then 0 else 1)<=e.got/\e.got<=65535)
def Ev.check (e:Ev):Nat:=
 if e.kind=0\/10<e.kind then 60
 else if e.seq<1\/281474976710656<e.seq\/e.time<0\/281474976710656<e.time\/64<=e.cpu then 61
 else if (aB e.kind).all e.within=false then 61
 else if (aco 7).all (λi=>decide (e.iA i=0)||(aB e.kind).contains i)=false then 62
 else 0
def Ev.vals (e:Ev):List Nat:=(aB e.kind).map λi=>(e.iA i).toNat
structure Laid (B:Nat) (w:aiM):Prop where
 uses:∀k,k<11->∃A c,w.cell? ⟨2,k,none⟩=some (.slice A (abo (aB k)) c)/\Rd w B 1 A (abo (aB k)) ((aB k).map bL)
 big:2<B
 names:∀i,i<7->∃s:ByteArray,w.cell? ⟨3,i,none⟩=some (.string s)
 FL:3<B
def Laid.yF (h:Laid B w) (hk:∀p:Addr,p.block<B->W.cell? p=w.cell? p):Laid B W:=
 ⟨λk a=>by obtain ⟨A,c,b,d⟩:=h.uses k a;exact ⟨A,c,(hk _ h.big).trans b,d.yF hk⟩,h.big,λi hi=>by obtain ⟨s,b⟩:=h.names i hi;exact ⟨s,(hk _ h.FL).trans b⟩,h.FL⟩
theorem Laid.below (h:Laid B w) (hb:Below c w W) (a:B<=c):Laid B W:=h.yF λp b=>hb.cell (by omega)
def Laid.alloc (h:Laid B w) (a:B<=w.heap.size) (o:Obj):Laid B (w.alloc o):=h.yF λp b=>af7 w o p (by omega)
def WB (a:aiN) (w:aiM):(aeN (.iface 439 a) 20 439 true).run abp w= .ok (.tuple #[a,.bool true]) w:=by kernel_rfl
def WC (a:aiN) (w:aiM):(aeN (.iface 442 a) 20 439 true).run abp w= .ok (.tuple #[.pointer none,.bool false]) w:=by kernel_rfl
def WE (a:aiN) (w:aiM):(aeN (.iface 442 a) 20 442 true).run abp w= .ok (.tuple #[a,.bool true]) w:=by kernel_rfl
def Ev.num (e:Ev) (i:Nat):Int:=IntKind.u64.wrap (e.iA i)
set_option maxRecDepth 100000 in
set_option maxHeartbeats 1000000 in
theorem LM (e:Ev) (a:e.Ok) (b i:Nat) (hi:i<7) (w:aiM) (hb:jY w b e):
  Calls Tryz.prog 285 #[.pointer (some ⟨b,0,none⟩),.int .i64 (i:Int)] w λr c=>r= .returned (.tuple #[.int .u64 (e.num i),.bool (decide (0<=e.iA i))])/\∃n,c=w.drewN n:=by
 obtain ⟨g,h,j,k,l,m,o,p,q,s,d⟩:=hb
 have t:=WB
 have u:=WC
 have v:=WE
 have hm:IntKind.u64.wrap (e.mask:Int)=(e.mask:Int):=by have:=a.mask;rw [IntKind.wrap_u64];omega
 have f:=hide hm
 clear hm a
 obtain rfl|rfl|rfl|rfl|rfl|rfl|rfl:i=0\/i=1\/i=2\/i=3\/i=4\/i=6\/i=5:=by omega
 case inr.inr.inr.inr.inr.inr=>
  go_enter Tryz.func285,Tryz.ntmps285
  go_wp2
  go_ret2
  exact ⟨by unfold Ev.num Ev.iA;simp [f.out],0,rfl⟩
 all_goals
  go_enter Tryz.func285,Tryz.ntmps285
  go_wp2
  go_quiet (fail)
  go_wp2
  go_ret2
  exact ⟨rfl,_,rfl⟩
def Ev.lim (e:Ev):Nat->Nat×Nat
 |0=>(1,65535)
 |1=>(if e.kind=8 then 1 else 0,255)
 |2=>(0,63)
 |3=>(1,65536)
 |4=>(1,4294967295)
 |5=>(1,18446744073709551615)
 |_=>(if e.kind=5\/e.kind=6 then 0 else 1,65535)
set_option maxRecDepth 100000 in
set_option maxHeartbeats 1000000 in
theorem Pn (e:Ev) (b i:Nat) (hi:i<7) (w:aiM) (hb:jY w b e):
  Calls Tryz.prog 306 #[.pointer (some ⟨b,0,none⟩),.int .i64 (i:Int)] w λr h=>r= .returned (.tuple #[.int .u64 ((e.lim i).1:Int),.int .u64 ((e.lim i).2:Int)])/\h=w:=by
 have j:=hb.kind
 clear hb
 obtain rfl|rfl|rfl|rfl|rfl|rfl|rfl:i=0\/i=2\/i=3\/i=4\/i=5\/i=1\/i=6:=by omega
 case inr.inr.inr.inr.inr.inl=>
  by_cases f:e.kind=8
  ·have c:((e.kind:Int)==8)=true:=by rw [beq_iff_eq];omega
   have H:=hide f
   clear f
   go_enter Tryz.func306,Tryz.ntmps306
   go_wp2
   go_ret2
   exact ⟨by rw [show e.lim 1=(1,255) by have:=H.out;simp [Ev.lim,this]];rfl,rfl⟩
  ·have c:((e.kind:Int)==8)=false:=by rw [beq_eq_false_iff_ne];omega
   have H:=hide f
   clear f
   go_enter Tryz.func306,Tryz.ntmps306
   go_wp2
   go_ret2
   exact ⟨by rw [show e.lim 1=(0,255) by have:=H.out;simp [Ev.lim,this]];rfl,rfl⟩
 case inr.inr.inr.inr.inr.inr=>
  by_cases a:e.kind=5
  ·have c:((e.kind:Int)==5)=true:=by rw [beq_iff_eq];omega
   have H:=hide a
   clear a
   go_enter Tryz.func306,Tryz.ntmps306
   go_wp2
   go_ret2
   exact ⟨by rw [show e.lim 6=(0,65535) by have:=H.out;simp [Ev.lim,this]];rfl,rfl⟩
  ·have c:((e.kind:Int)==5)=false:=by rw [beq_eq_false_iff_ne];omega
   by_cases d:e.kind=6
   ·have g:((e.kind:Int)==6)=true:=by rw [beq_iff_eq];omega
    have H:=hide d
    clear a d
    go_enter Tryz.func306,Tryz.ntmps306
    go_wp2
    go_ret2
    exact ⟨by rw [show e.lim 6=(0,65535) by have:=H.out;simp [Ev.lim,this]];rfl,rfl⟩
   ·have g:((e.kind:Int)==6)=false:=by rw [beq_eq_false_iff_ne];omega
    have H:=hide (show ¬(e.kind=5\/e.kind=6) by omega)
    clear a d
    go_enter Tryz.func306,Tryz.ntmps306
    go_wp2
    go_ret2
    exact ⟨by rw [show e.lim 6=(1,65535) by have:=H.out;simp [Ev.lim,this]];rfl,rfl⟩
 all_goals
  go_enter Tryz.func306,Tryz.ntmps306
  go_wp2
  go_ret2
  exact ⟨rfl,rfl⟩
set_option maxRecDepth 100000 in
set_option maxHeartbeats 1000000 in
theorem q3n (e:Ev) (m:e.Ok) (b i:Nat) (hi:i<7) (w:aiM) (hb:jY w b e) (f:¬(0<=e.iA i/\((e.lim i).1:Int)<=e.num i/\e.num i<=((e.lim i).2:Int))):
  Calls Tryz.prog 284 #[.pointer (some ⟨b,0,none⟩),.int .i64 (i:Int)] w λr a=>r= .returned (.bool false)/\∃n,a=w.drewN n:=by
 have c:=hide (LM e m b i hi w hb)
 have o:∀a,jY a b e->_:=λa g=>Pn e b i hi a g
 have d:∀n,Hid (Calls Tryz.prog 306 #[.pointer (some ⟨b,0,none⟩),.int .i64 (i:Int)] (w.drewN n) λr a=>r= .returned (.tuple #[.int .u64 ((e.lim i).1:Int),.int .u64 ((e.lim i).2:Int)])/\a=w.drewN n):=λn=>hide (Pn e b i hi _ (hb.keep λ_ _ h=>h))
 clear o
 generalize e.iA i=x at f c
 generalize e.num i=y at f c
 generalize e.lim i=z at f d
 obtain ⟨k,j⟩:=z
 simp only at f d
 by_cases p:0<=x
 ·by_cases q:(k:Int)<=y
  ·have l:(j:Int)<y:=by omega
   go_enter Tryz.func284,Tryz.ntmps284
   go_wp2_with (first|(go_at_call 285;refine c.out.mono ?_;rintro r a ⟨rfl,n,rfl⟩)|(go_at_call 306;refine (d _).out.mono ?_;rintro r a ⟨rfl,rfl⟩))
   go_ret
   exact ⟨rfl,_,rfl⟩
  ·have l:y<(k:Int):=by omega
   go_enter Tryz.func284,Tryz.ntmps284
   go_wp2_with (first|(go_at_call 285;refine c.out.mono ?_;rintro r a ⟨rfl,n,rfl⟩)|(go_at_call 306;refine (d _).out.mono ?_;rintro r a ⟨rfl,rfl⟩))
   go_ret
   exact ⟨rfl,_,rfl⟩
 ·have l:x<0:=by omega
  go_enter Tryz.func284,Tryz.ntmps284
  go_wp2_with (first|(go_at_call 285;refine c.out.mono ?_;rintro r a ⟨rfl,n,rfl⟩)|(go_at_call 306;refine (d _).out.mono ?_;rintro r a ⟨rfl,rfl⟩))
  go_ret
  exact ⟨rfl,_,rfl⟩
def Po (a:e.Ok) (i:Nat) (h:0<=e.iA i):e.num i=e.iA i:=by
 have b:e.iA i<18446744073709551616:=by
  unfold Ev.iA
  split
  ·have:=a.task.2;omega
  ·have:=a.group.2;omega
  ·have:=a.to.2;omega
  ·have:=a.weight.2;omega
  ·have:=a.ticks.2;omega
  ·have:=a.mask;omega
  ·have:=a.got.2;omega
 unfold Ev.num
 rw [adX]
 omega
def za2 (m c:Nat) (hm:m<18446744073709551616):(bits .and .u64 ((m:Int)/2^c) 1==1)=decide (m/2^c%2=1):=by
 have e1:(m:Int)/2^c=((m/2^c:Nat):Int):=by simp
 have a:m/2^c<18446744073709551616:=Nat.lt_of_le_of_lt (Nat.div_le_self _ _) hm
 have e2:bits .and .u64 ((m/2^c:Nat):Int) 1=_:=u64_and_nat (m/2^c) 1 a (by omega)
 rw [e1,e2,nat_mask1]
 by_cases h:m/2^c%2=1
 ·rw [h];rfl
 ·have:m/2^c%2=0:=by omega
  rw [this];rfl
set_option maxRecDepth 100000 in
set_option maxHeartbeats 2000000 in
theorem q0a (e:Ev) (k:e.Ok) (hc:e.cpu<64) (b i:Nat) (hi:i<7) (w:aiM) (hb:jY w b e) (d:0<=e.iA i/\((e.lim i).1:Int)<=e.num i/\e.num i<=((e.lim i).2:Int)):
  Calls Tryz.prog 284 #[.pointer (some ⟨b,0,none⟩),.int .i64 (i:Int)] w λr a=>r= .returned (.bool (if i=2 then decide (e.to≠(e.cpu:Int)) else if i=5 then decide (e.mask/2^e.cpu%2=1) else true))/\∃n,a=w.drewN n:=by
 have f:=hide (LM e k b i hi w hb)
 have g:∀n,Hid (Calls Tryz.prog 306 #[.pointer (some ⟨b,0,none⟩),.int .i64 (i:Int)] (w.drewN n) λr a=>r= .returned (.tuple #[.int .u64 ((e.lim i).1:Int),.int .u64 ((e.lim i).2:Int)])/\a=w.drewN n):=λn=>hide (Pn e b i hi _ (hb.keep λ_ _ h=>h))
 have s:=hb.to
 have t:=hb.cpu
 have j:=Po k i d.1
 have hm:=k.mask
 clear hb k
 have c:i=5->e.num i=(e.mask:Int):=by rintro rfl;exact j
 clear j
 generalize e.iA i=x at d f
 generalize e.num i=y at d f c
 generalize e.lim i=z at d g
 obtain ⟨u,m⟩:=z
 obtain ⟨v,hb,l⟩:=d
 simp only at hb l g
 have o:=hide c
 clear c
 obtain rfl|rfl|rfl|rfl|rfl|rfl|rfl:i=2\/i=5\/i=0\/i=1\/i=3\/i=4\/i=6:=by omega
 ·go_enter Tryz.func284,Tryz.ntmps284
  go_wp2_with (first|(go_at_call 285;refine f.out.mono ?_;rintro r a ⟨rfl,n,rfl⟩)|(go_at_call 306;refine (g _).out.mono ?_;rintro r a ⟨rfl,rfl⟩))
  go_quiet (fail)
  go_wp2
  go_ret
  exact ⟨by by_cases h:e.to=(e.cpu:Int)<;>simp [h],_,rfl⟩
 ·have p:y=(e.mask:Int):=o.out rfl
  subst p
  go_enter Tryz.func284,Tryz.ntmps284
  go_wp2_with (first|(go_at_call 285;refine f.out.mono ?_;rintro r a ⟨rfl,n,rfl⟩)|(go_at_call 306;refine (g _).out.mono ?_;rintro r a ⟨rfl,rfl⟩))
  go_ret
  exact ⟨by have q:=za2 e.mask e.cpu hm;simpa using q,_,rfl⟩
 all_goals
  go_enter Tryz.func284,Tryz.ntmps284
  go_wp2_with (first|(go_at_call 285;refine f.out.mono ?_;rintro r a ⟨rfl,n,rfl⟩)|(go_at_call 306;refine (g _).out.mono ?_;rintro r a ⟨rfl,rfl⟩))
  go_ret
  exact ⟨rfl,_,rfl⟩
def WG (e:Ev) (b:e.Ok) (i:Nat) (hi:i<7):e.within i=(decide (0<=e.iA i/\((e.lim i).1:Int)<=e.num i/\e.num i<=((e.lim i).2:Int))&& (if i=2 then decide (e.to≠(e.cpu:Int)) else if i=5 then decide (e.mask/2^e.cpu%2=1) else true)):=by
 by_cases a:0<=e.iA i
 ·rw [Po b i a]
  have hm:=b.mask
  obtain rfl|rfl|rfl|rfl|rfl|rfl|rfl:i=0\/i=1\/i=2\/i=3\/i=4\/i=5\/i=6:=by omega
  all_goals simp only [Ev.iA,Ev.lim,Ev.within] at*
  ·rw [ab3];simp;omega
  ·rw [ab3];by_cases h:e.kind=8<;>simp [h]<;>omega
  ·rw [ab3];simp;omega
  ·rw [ab3];simp;omega
  ·rw [ab3];simp;omega
  ·rw [ab3];simp
   intro h
   have c:e.mask≠0:=by rintro a;rw [a] at h;simp at h
   omega
  ·rw [ab3];by_cases h:e.kind=5\/e.kind=6<;>simp [h]<;>omega
 ·have:decide (0<=e.iA i/\((e.lim i).1:Int)<=e.num i/\e.num i<=((e.lim i).2:Int))=false:=by simp;intro h;omega
  rw [this]
  obtain rfl|rfl|rfl|rfl|rfl|rfl|rfl:i=0\/i=1\/i=2\/i=3\/i=4\/i=5\/i=6:=by omega
  all_goals simp only [Ev.iA,Ev.within] at*
  ·simp;omega
  ·simp;intro h;split at h<;>omega
  ·simp;omega
  ·simp;omega
  ·simp;omega
  ·omega
  ·simp;intro h;split at h<;>omega
def q0b (e:Ev) (a:e.Ok) (hc:e.cpu<64) (b i:Nat) (hi:i<7) (w:aiM) (hb:jY w b e):
  Calls abp 284 #[.pointer (some ⟨b,0,none⟩),.int .i64 (i:Int)] w λr d=>r= .returned (.bool (e.within i))/\∃n,d=w.drewN n:=by
 by_cases c:0<=e.iA i/\((e.lim i).1:Int)<=e.num i/\e.num i<=((e.lim i).2:Int)
 ·refine (q0a e a hc b i hi w hb c).mono ?_
  rintro r d ⟨rfl,h⟩
  exact ⟨by rw [WG e a i hi];simp [c],h⟩
 ·refine (q3n e a b i hi w hb c).mono ?_
  rintro r d ⟨rfl,h⟩
  exact ⟨by rw [WG e a i hi];simp [c],h⟩
def zmo (l:List Nat) (x:Nat) (i:aiN):Prop:=∃k,k<=abo l/\i= .int .i64 (k:Int)/\x∉l.take k
set_option maxHeartbeats 400000 in
theorem q3p (A:aiW) (n c B x:Nat) (l:List Nat) (w:aiM) (hr:Rd w B 1 A n (l.map bL)) (u:n<=140737488355328):
  Calls Tryz.prog 268 #[.slice A n c,.int .i64 (x:Int)] w λr m=>(∃k:Int,r= .returned (.int .i64 k)/\(0<=k↔x∈l))/\m=w:=by
 have j:l.length=n:=by simpa using hr.len
 go_enter Tryz.func268,Tryz.ntmps268
 go_wp2
 go_loop [8] (zmo l x) (λi=>n- (intOf i).toNat)
 case atStart=>exact ⟨0,by omega,rfl,by simp⟩
 case round=>
  obtain ⟨k,v,rfl,d⟩:=hrel
  by_cases e:k<n
  ·obtain ⟨z,rfl,o,p,a⟩:=hr.at e
   simp only [List.getElem_map] at a
   have f:l.take (k+1)=l.take k++[l[k]]:=List.take_succ_eq_append_getElem (by omega)
   have hm:l[k]∈l:=List.getElem_mem _
   generalize l[k]=y at a f hm
   unfold bL at a
   have q:=hide f
   clear f
   by_cases g:x=y
   ·have s:((x:Int)==(y:Int))=true:=by rw [beq_iff_eq];omega
    have H:=hide g
    clear g
    go_wp2
    go_ret
    exact ⟨⟨_,rfl,by rw [H.out];exact ⟨λ_=>hm,λ_=>by omega⟩⟩,rfl⟩
   ·have s:((x:Int)==(y:Int))=false:=by rw [beq_eq_false_iff_ne];omega
    go_wp2
    refine ⟨⟨k+1,by omega,by go_num,?_⟩,by simp [intOf];omega⟩
    rw [q.out]
    simp [d,g]
  ·have:k=n:=by omega
   have b:x∉l:=by rwa [List.take_of_length_le (by omega)] at d
   have t:=hide b
   clear this d b
   go_wp2
   go_ret
   exact ⟨⟨-1,rfl,⟨λh=>by omega,λh=>absurd h t.out⟩⟩,rfl⟩
set_option maxHeartbeats 400000 in
theorem qre (A:aiW) (n c B x:Nat) (l:List Nat) (w:aiM) (hr:Rd w B 1 A n (l.map bL)) (b:n<=140737488355328):
  Calls Tryz.prog 213 #[.slice A n c,.int .i64 (x:Int)] w λr a=>r= .returned (.bool (l.contains x))/\a=w:=by
 have H:=hide (q3p A n c B x l w hr b)
 go_enter Tryz.func213,Tryz.ntmps213
 go_wp2_with (go_at_call 268;refine H.out.mono ?_;rintro r a ⟨⟨k,rfl,d⟩,rfl⟩)
 go_ret
 refine ⟨?_,rfl⟩
 have:(l.contains x)=decide (x∈l):=by rw [Bool.eq_iff_iff];simp
 rw [this]
 rfl
def BL:∀(k i:Nat),i∈aB k->i<7:=by
 intro k i h
 unfold aB at h
 split at h<;>simp at h<;>omega
theorem Aa (k:Nat):abo (aB k)<=4:=by
 unfold aB;split<;>simp
def za3 (a:e.Ok) (i:Nat):e.num i=0↔e.iA i=0:=by
 have b: -9223372036854775808<=e.iA i/\e.iA i<18446744073709551616:=by
  unfold Ev.iA
  split
  ·have:=a.task;unfold aX at this;omega
  ·have:=a.group;unfold aX at this;omega
  ·have:=a.to;unfold aX at this;omega
  ·have:=a.weight;unfold aX at this;omega
  ·have:=a.ticks;unfold aX at this;omega
  ·have:=a.mask;omega
  ·have:=a.got;unfold aX at this;omega
 unfold Ev.num
 rw [adX]
 omega
def zh6 (e:Ev) (w:aiM) (i:aiN) (wr:aiM):Prop:=
 ∃k m,k<=abo (aB e.kind)/\i= .int .i64 (k:Int)/\((aB e.kind).take k).all e.within=true/\wr=w.drewN m
def zh7 (e:Ev) (w:aiM) (i:aiN) (wr:aiM):Prop:=
 ∃k m:Nat,k<=7/\i= .int .i64 (k:Int)/\(aco k).all (λi=>decide (e.iA i=0)||(aB e.kind).contains i)=true/\wr=w.drewN m
set_option maxRecDepth 100000 in
set_option maxHeartbeats 2000000 in
theorem Pp (e : Ev) (M : e.Ok) (B : Nat) (w : aiM) (hL : Laid B w) (hB : B <= w.heap.size) :
  Calls Tryz.prog 243 #[.agg e.cells] w λr l=>r= .returned (.int .i64 (e.check:Int))/\Below w.heap.size w l:=by
 have g:=jY.new w e 73
 have d:Below w.heap.size w (w.alloc (.cells e.cells 73)):=(Below.refl _ _).alloc (Nat.le_refl _) _
 have x:=hL.alloc hB (.cells e.cells 73)
 obtain ⟨s,N⟩:∃s,Hid (e.cells=s):=⟨_,hide rfl⟩
 rw [N.out] at g d x⊢
 by_cases o:e.kind=0\/10<e.kind
 ·have h3:=g.kind
  have j:e.check=60:=by unfold Ev.check;rw [if_pos o]
  have p:=hide j
  clear j
  rcases o with o|o
  ·have y:((e.kind:Int)==0)=true:=by rw [beq_iff_eq];omega
   clear o
   go_enter Tryz.func243,Tryz.ntmps243
   go_wp2
   go_ret
   exact ⟨by rw [p.out];rfl,d⟩
  ·have y:((e.kind:Int)==0)=false:=by rw [beq_eq_false_iff_ne];omega
   have z:10<(e.kind:Int):=by omega
   clear o
   go_enter Tryz.func243,Tryz.ntmps243
   go_wp2
   go_ret
   exact ⟨by rw [p.out];rfl,d⟩
 ·obtain ⟨h0, h1, h2, h3, h4, h5, h6, h7, h8, h9, O⟩ := id g
  have y:((e.kind:Int)==0)=false:=by rw [beq_eq_false_iff_ne];omega
  have z:(e.kind:Int)<=10:=by omega
  clear h4 h5 h6 h7 h8 h9 O
  by_cases P:e.seq<1\/281474976710656<e.seq\/e.time<0\/281474976710656<e.time\/64<=e.cpu
  ·have j:e.check=61:=by unfold Ev.check;rw [if_neg o,if_pos P]
   have p:=hide j
   have t:(e.seq<1)\/(1<=e.seq/\281474976710656<e.seq)\/(1<=e.seq/\e.seq<=281474976710656/\e.time<0)\/(1<=e.seq/\e.seq<=281474976710656/\0<=e.time/\281474976710656<e.time)\/(1<=e.seq/\e.seq<=281474976710656/\0<=e.time/\e.time<=281474976710656/\(64:Int)<=e.cpu):=by omega
   clear j o P
   rcases t with F|⟨F,Q⟩|⟨F,Q,Y⟩|⟨F,Q,Y,a4⟩|⟨F,Q,Y,a4,a5⟩
   all_goals
    go_enter Tryz.func243,Tryz.ntmps243
    go_wp2
    go_ret
    exact ⟨by rw [p.out];rfl,d⟩
  ·have hr1 : 1 <= e.seq := by omega
   have hr2:e.seq<=281474976710656:=by omega
   have hr3:0<=e.time:=by omega
   have hr4:e.time<=281474976710656:=by omega
   have R:e.cpu<64:=by omega
   clear P
   obtain ⟨A,c,hu,C⟩:=x.uses e.kind (by omega)
   have Z:=Aa e.kind
   go_enter Tryz.func243,Tryz.ntmps243
   go_wp2
   go_loopw [44] (zh6 e (w.alloc (.cells s 73))) (λi _=>(aB e.kind).length- (intOf i).toNat)
   case atStart=>exact ⟨0,0,by omega,rfl,by simp,rfl⟩
   case round =>
    obtain ⟨k,m,o,rfl,a,rfl⟩:=hrel
    by_cases u:k<(aB e.kind).length
    ·obtain ⟨ad,rfl,hbl,hl',f⟩:=C.at u
     simp only [List.getElem_map] at f
     have hi:=BL e.kind _ (List.getElem_mem u)
     have v:(aB e.kind).take (k+1)=(aB e.kind).take k++[(aB e.kind)[k]]:=List.take_succ_eq_append_getElem u
     have hm:(aB e.kind)[k]∈aB e.kind:=List.getElem_mem _
     generalize (aB e.kind)[k]=i at f hi v hm
     unfold bL at f
     have G:=hide (q0b e M R w.heap.size i hi ((w.alloc (.cells s 73)).drewN m) (g.keep λ_ _ h=>h))
     have H:=hide v
     have I:=hide a
     clear v a
     by_cases J:e.within i=true
     ·rw [J] at G
      go_wp2_with (go_at_call 284;refine G.out.mono ?_;rintro r l ⟨rfl,n,rfl⟩)
      refine ⟨⟨k+1,m+n,by omega,by go_num,?_,by simp⟩,by simp [intOf];omega⟩
      rw [H.out];simp [J];simpa using I.out
     ·rw [show e.within i=false by simpa using J] at G
      go_wp2_with (go_at_call 284;refine G.out.mono ?_;rintro r l ⟨rfl,n,rfl⟩)
      go_ret
      refine ⟨?_,below_drewN d _⟩
      have:e.check=61:=by
       have:(aB e.kind).all e.within=false:=by rw [List.all_eq_false];exact ⟨i,hm,by simpa using J⟩
       unfold Ev.check;rw [if_neg (by omega),if_neg (by omega),if_pos this]
      rw [this];rfl
    ·have S : (aB e.kind).length <= k := by omega
     have D:(aB e.kind).all e.within=true:=by rwa [List.take_of_length_le S] at a
     have I:=hide D
     clear D a
     have hz1:(0:Int)<7:=by omega
     go_wp2
     go_loopw [52] (zh7 e (w.alloc (.cells s 73))) (λi _=>7- (intOf i).toNat)
     case atStart=>exact ⟨0,m,by omega,rfl,by simp,rfl⟩
     case round =>
      obtain ⟨b,T,hk2,rfl,a,rfl⟩:=hrel
      by_cases E:b<7
      ·have U:=hide (LM e M w.heap.size b E ((w.alloc (.cells s 73)).drewN T) (g.keep λ_ _ h=>h))
       have HN:=hide (za3 M b)
       have v:List.range (b+1)=List.range b++[b]:=List.range_succ
       have H:=hide v
       have K:=hide a
       clear v a
       have p:∀L,Hid (Calls Tryz.prog 213 #[.slice A (aB e.kind).length c,.int .i64 (b:Int)] ((w.alloc (.cells s 73)).drewN L) λr l=>r= .returned (.bool ((aB e.kind).contains b))/\l=(w.alloc (.cells s 73)).drewN L):=λL=>hide (qre A _ c B b (aB e.kind) _ (C.drewN L) (by omega))
       by_cases hz:e.iA b=0
       ·have V:(e.num b !=0)=false:=by simp [HN.out,hz]
        have W:=hide hz
        clear hz
        go_wp2_with (go_at_call 285;refine U.out.mono ?_;rintro r l ⟨rfl,n,rfl⟩)
        refine ⟨⟨b+1,T+n,by omega,by go_num,?_,by simp⟩,by simp [intOf];omega⟩
        rw [H.out,List.all_append,K.out];simp [W.out]
       ·have V:(e.num b !=0)=true:=by simp [HN.out,hz]
        have W:=hide hz
        clear hz
        by_cases q:(aB e.kind).contains b=true
        ·rw [q] at p
         go_wp2_with (first|(go_at_call 285;refine U.out.mono ?_;rintro r l ⟨rfl,n,rfl⟩)|(go_at_call 213;refine (p _).out.mono ?_;rintro r l ⟨rfl,rfl⟩))
         refine ⟨⟨b+1,T+n,by omega,by go_num,?_,by simp⟩,by simp [intOf];omega⟩
         rw [H.out,List.all_append,K.out];simp only [List.all_cons,List.all_nil,q];simp
        ·rw [show (aB e.kind).contains b=false by simpa using q] at p
         go_wp2_with (first|(go_at_call 285;refine U.out.mono ?_;rintro r l ⟨rfl,n,rfl⟩)|(go_at_call 213;refine (p _).out.mono ?_;rintro r l ⟨rfl,rfl⟩))
         go_ret
         refine ⟨?_,below_drewN d _⟩
         have:e.check=62:=by
          have X:(List.range 7).all (λi=>decide (e.iA i=0)||(aB e.kind).contains i)=false:=by
           rw [List.all_eq_false];exact ⟨b,by simp;omega,by simp [W.out];simpa using q⟩
          unfold Ev.check;rw [if_neg (by omega),if_neg (by omega),if_neg (by rw [I.out];simp),if_pos X]
         rw [this];rfl
      ·have ae8:(7:Int)<=b:=by omega
       obtain rfl:b=7:=by omega
       have K:=hide a
       clear a
       go_wp2
       go_ret
       refine ⟨?_,below_drewN d _⟩
       have:e.check=0:=by
        unfold Ev.check;rw [if_neg (by omega),if_neg (by omega),if_neg (by rw [I.out];simp),if_neg (by rw [K.out];simp)]
       rw [this];rfl
def q3q (w:aiM) (kind:Nat) (v i:aiN) (wr:aiM):Prop:=
 ∃k xs,k<=abo (aB kind)/\i= .int .i64 (k:Int)/\wr.ownsRow w.heap.size 9 1 v k xs/\Below w.heap.size w wr
set_option maxRecDepth 100000 in
set_option maxHeartbeats 1000000 in
theorem q0c (kind:Nat) (x:kind<256) (B:Nat) (w:aiM) (o:Laid B w) (p:B<=w.heap.size):
  Calls Tryz.prog 317 #[.int .u8 (kind:Int)] w λr q=>∃v xs,r= .returned v/\q.ownsRow w.heap.size 9 1 v (aB kind).length xs/\Below w.heap.size w q:=by
 by_cases y:10<kind
 ·have l:(10:Int)<(kind:Int):=by omega
  have m:aB kind=[]:=by unfold aB;split<;>first|rfl|omega
  have z:=hide m
  clear m
  go_enter Tryz.func317,Tryz.ntmps317
  go_wp2
  go_ret
  exact ⟨_,[],rfl,by rw [z.out];exact World.ownsRow_nil _ _ _ _,Below.refl _ _⟩
 ·have l:(kind:Int)<=10:=by omega
  obtain ⟨A,c,m,f⟩:=o.uses kind (by omega)
  have t:=Aa kind
  go_enter Tryz.func317,Tryz.ntmps317
  go_wp2
  go_loopw [3,12] (q3q w kind) (λ_ i _=>(aB kind).length- (intOf i).toNat)
  case atStart=>exact ⟨0,[],by omega,rfl,World.ownsRow_nil _ _ _ _,Below.refl _ _⟩
  case round=>
   obtain ⟨k,xs,y,rfl,b,d⟩:=hrel
   have n:=o.below d p
   by_cases h:k<(aB kind).length
   ·obtain ⟨F,rfl,C,D,a⟩:=(f.below (d.mono p)).at h
    simp only [List.getElem_map] at a
    have hi:=BL kind _ (List.getElem_mem h)
    generalize (aB kind)[k]=i at a hi
    unfold bL at a
    obtain ⟨s,hs⟩:=n.names i hi
    go_wp2_with (at_builtin;refine Wy rfl rfl zml (b.alloc _) rfl (Rd.one wr _ _) rfl (by simp [Value.oneCell']) (by omega) (by omega) (by simp;have:=d.size;omega) ?_;intro G H I e j u)
    refine ⟨⟨k+1,_,by omega,by go_num,e,(d.alloc d.size _).grown j (by simp;have:=d.size;omega) (λg E=>(b.lt g E).1)⟩,by simp [intOf];omega⟩
   ·obtain rfl:k=(aB kind).length:=by omega
    clear f
    go_wp2
    go_ret
    exact ⟨_,_,rfl,b,d⟩
def aaq (i x:Nat):aiN:=if i=5 then .int .u64 (x:Int) else .int .i64 (wrap64 (x:Int))
def Ev.fits (i x:Nat):Bool:=i=5||decide (0<=wrap64 (x:Int))
set_option maxRecDepth 100000 in
set_option maxHeartbeats 1000000 in
theorem WH (b i:Nat) (hi:i<7) (w:aiM):
  Calls Tryz.prog 307 #[.pointer (some ⟨b,0,none⟩),.int .i64 (i:Int)] w λr a=>r= .returned (.iface (if i=5 then 442 else 439) (.pointer (some ⟨b,4+i,none⟩)))/\a=w:=by
 obtain rfl|rfl|rfl|rfl|rfl|rfl|rfl:i=0\/i=1\/i=2\/i=3\/i=4\/i=6\/i=5:=by omega
 all_goals
  go_enter Tryz.func307,Tryz.ntmps307
  go_wp2
  go_ret
  exact ⟨rfl,rfl⟩
set_option maxRecDepth 100000 in
set_option maxHeartbeats 1000000 in
theorem zh8 (b i x:Nat) (hi:i<7) (w:aiM) (u:aiN) (hb:w.cell? ⟨b,4+i,none⟩=some u) (a:w.frozen? ⟨b,4+i,none⟩=false):
  Calls Tryz.prog 321 #[.pointer (some ⟨b,0,none⟩),.int .i64 (i:Int),.int .u64 (x:Int)] w λr c=>r= .returned (.bool (Ev.fits i x))/\c=w.setCell ⟨b,4+i,none⟩ (aaq i x):=by
 have e:=WB
 have f:=WC
 have g:=WE
 have hs:=World.cell?_setCell_same w ⟨b,4+i,none⟩ (.int .i64 (wrap64 (x:Int))) hb
 obtain rfl|rfl|rfl|rfl|rfl|rfl|rfl:i=0\/i=1\/i=2\/i=3\/i=4\/i=6\/i=5:=by omega
 case inr.inr.inr.inr.inr.inr=>
  go_enter Tryz.func321,Tryz.ntmps321
  go_wp2_with (go_at_call 307;refine (WH b 5 (by omega) _).mono ?_;rintro r d ⟨rfl,rfl⟩;simp only [reduceIte])
  go_ret
  exact ⟨by simp [Ev.fits],by simp [aaq]⟩
 all_goals
  simp only [Nat.reduceAdd] at hs hb a
  go_enter Tryz.func321,Tryz.ntmps321
  go_wp2_with (go_at_call 307;refine (WH b _ (by omega) _).mono ?_;rintro r d ⟨rfl,rfl⟩;simp only [reduceIte,Nat.reduceEqDiff])
  go_ret
  exact ⟨by simp [Ev.fits],by simp [aaq]⟩
def zh9 (e:Ev) (base:Nat) (a:aiM) (v i:aiN) (wr:aiM):Prop:=
 ∃k,k<=abo (aB e.kind)/\i= .int .i64 (k:Int)/\wr.ownsRow base 41 1 v k ((e.vals.take k).map bF)/\Below base a wr
def uW (h:e.check=0):(e.kind=0\/10<e.kind)=False/\(aB e.kind).all e.within=true/\e.cpu<64/\1<=e.seq/\e.seq<=281474976710656/\0<=e.time/\e.time<=281474976710656:=by
 unfold Ev.check at h
 split at h
 ·cases h
 ·split at h
  ·cases h
  ·split at h
   ·cases h
   ·rename_i a c b
    exact ⟨by simp only [a],by simpa using b,by omega,by omega,by omega,by omega,by omega⟩
def qc3 {e:Ev}:∀{i:Nat},e.within i=true->0<=e.iA i
 |0,h=>by simp only [Ev.within,decide_eq_true_eq] at h;show 0<=e.task;omega
 |1,h=>by simp only [Ev.within,decide_eq_true_eq] at h;show 0<=e.group;have:=h.1;split at this<;>omega
 |2,h=>by simp only [Ev.within,decide_eq_true_eq] at h;show 0<=e.to;omega
 |3,h=>by simp only [Ev.within,decide_eq_true_eq] at h;show 0<=e.weight;omega
 |4,h=>by simp only [Ev.within,decide_eq_true_eq] at h;show 0<=e.ticks;omega
 |5,_=>by show 0<=(e.mask:Int);omega
 |n+6,h=>by simp only [Ev.within,decide_eq_true_eq] at h;show 0<=e.got;have:=h.1;split at this<;>omega
def WI (b:e.Ok) (h:e.check=0) {i:Nat} (hi:i∈aB e.kind):e.num i=(((e.iA i).toNat:Nat):Int):=by
 have a:=(uW h).2.1
 rw [ace] at a
 have c:=qc3 (a i hi)
 rw [Po b i c]
 omega
def Ev.qc2 (e:Ev):List Nat:=if e.check=0 then e.vals else []
structure uX (w:aiM) (err:Nat) (xs:List Nat) (r:aiQ) (w':aiM):Prop where
 ret:∃v,r= .returned (.tuple #[v,.int .i64 (err:Int)])/\w'.ownsRow w.heap.size 41 1 v (abo xs) (xs.map bF)
 below:Below w.heap.size w w'
set_option maxRecDepth 100000 in
set_option maxHeartbeats 1000000 in
theorem q0d (e:Ev) (z:e.Ok) (B:Nat) (w:aiM) (S:Laid B w) (T:B<=w.heap.size):
  Calls Tryz.prog 286 #[.agg e.cells] w (uX w e.check e.qc2):=by
 have j:=jY.new w e 73
 have l:Below w.heap.size w (w.alloc (.cells e.cells 73)):=(Below.refl _ _).alloc (Nat.le_refl _) _
 have m:=S.alloc T (.cells e.cells 73)
 have C:=hide (Pp e z B _ m (by simp;omega))
 obtain ⟨U,D,V,N,W,X,Y,Z,h8,h9,E⟩:=id j
 unfold Ev.cells at*
 by_cases f:e.check=0
 ·have F:((e.check:Int) !=0)=false:=by rw [bne_eq_false_iff_eq];omega
  have G:=hide (show e.qc2=e.vals by unfold Ev.qc2;rw [if_pos f])
  have HN:=hide (λi (hi:i∈aB e.kind)=>WI z f hi)
  have O:e.kind<=10:=by have:=(uW f).1;simp at this;omega
  have P:=Aa e.kind
  have s:Hid (e.vals.length=(aB e.kind).length):=by unfold Ev.vals;rw [List.length_map];exact hide rfl
  have H:=hide f
  clear f
  go_enter Tryz.func286,Tryz.ntmps286
  go_wp2_with (go_at_call 243;refine C.out.mono ?_;rintro r x ⟨rfl,a⟩;have I:=(a.cell (p:=⟨w.heap.size,3,none⟩) (by simp)).trans N;obtain ⟨A,c,hu,t⟩:=(m.below a (by simp;omega)).uses e.kind (by omega))
  have hbz:w.heap.size+1<=x.heap.size:=by have:=a.size;simpa using this
  have u:=j.below a (by simp)
  have J:Below w.heap.size w x:=l.trans (a.mono (by simp))
  clear U D V N W X Y Z h8 h9 E j l C m
  go_loopw [5,20] (zh9 e (w.heap.size+1) x) (λ_ i _=>(aB e.kind).length- (intOf i).toNat)
  case atStart=>exact ⟨0,by omega,rfl,World.ownsRow_nil _ _ _ _,Below.refl _ _⟩
  case round=>
   obtain ⟨k,f,rfl,d,n⟩:=hrel
   by_cases o:k<(aB e.kind).length
   ·obtain ⟨ad,rfl,hbl,hl',b⟩:=(t.below (n.mono (by omega))).at o
    simp only [List.getElem_map] at b
    have hi:=BL e.kind _ (List.getElem_mem o)
    have hm:(aB e.kind)[k]∈aB e.kind:=List.getElem_mem _
    have Q:e.vals[k]?=some (e.iA (aB e.kind)[k]).toNat:=by unfold Ev.vals;rw [List.getElem?_map,List.getElem?_eq_getElem o];rfl
    have K:=hide (qo9 bF Q)
    clear Q
    generalize (aB e.kind)[k]=i at b hi hm K
    unfold bL at b
    have h:=HN.out i hm
    have L:=hide (LM e z w.heap.size i hi wr (u.below n (by omega)))
    rw [h] at L
    clear h
    generalize (e.iA i).toNat=y at L K
    go_wp2_with (first|(go_at_call 285;refine L.out.mono ?_;rintro r w' ⟨rfl,M,rfl⟩)|(at_builtin;refine Wy rfl rfl kM ((own_drewN d M).alloc _) rfl (Rd.one (wr.drewN M) _ _) rfl (by simp [Value.oneCell']) (by omega) (by omega) (by simp;have:=n.size;omega) ?_;intro A2 c2 w2 q v R))
    refine ⟨⟨k+1,by omega,by go_num,by rw [<-K.out];exact q,((below_drewN n M).alloc (by simp;have:=n.size;omega) _).grown v (by simp;have:=n.size;omega) (λg hg=>(d.lt g hg).1)⟩,by simp [intOf];omega⟩
   ·obtain rfl:k=(aB e.kind).length:=by omega
    clear t
    go_wp2
    go_ret2
    have D:=H.out
    refine ⟨⟨_,by rw [D];rfl,?_⟩,J.trans (n.mono (by omega))⟩
    rw [G.out,s.out]
    rw [List.take_of_length_le (by rw [s.out];omega)] at d
    exact Ph d (by omega)
 ·have F:((e.check:Int) !=0)=true:=by rw [bne_iff_ne];omega
  have G:=hide (show e.qc2=[] by unfold Ev.qc2;rw [if_neg f])
  clear f
  go_enter Tryz.func286,Tryz.ntmps286
  go_wp2_with (go_at_call 243;refine C.out.mono ?_;rintro r x ⟨rfl,a⟩)
  go_ret2
  exact ⟨⟨_,rfl,by rw [G.out];exact World.ownsRow_nil _ _ _ _⟩,l.trans (a.mono (by simp))⟩
theorem Rt {α β:Type} {f g:α->Option β}:∀{l:List α},(∀x∈l,f x=g x)->l.filterMap f=l.filterMap g:=by intro x;induction x<;>grind
def iH (n:Nat) (p:Nat->Bool):Bool:=(aco n).all p
theorem vU (h:∀i,i<n->p i=true):iH n p=true:=ace.2 λi hi=>h i (aeS.1 hi)
theorem vV (h:iH n p=true) {i:Nat} (hi:i<n):p i=true:=ace.1 h i (aeS.2 hi)
theorem AJ (hi:i<n) (h:p i=false):iH n p=false:=by grind [iH,vV]
def gJ (k:Nat) (p:Nat->Bool):Prop:=∀i,i<k->p i=true
theorem gJ.zero {p:Nat->Bool}:gJ 0 p:=λi h=>by omega
def gJ.succ {k:Nat} (h:gJ k p) (hk:p k=true):gJ (k+1) p:=λi hi=>by
 rcases ab6 i k with a|a
 ·exact h i a
 ·obtain rfl:i=k:=by omega
  exact hk
theorem gJ.all (h:gJ n p):iH n p=true:=vU h
structure Gr where
 parent:Int
 weight:Int
structure Tk where
 id:Int
 group:Int
 weight:Int
 cpu:Int
 mask:Nat
 ready:Bool
 v:Nat
 r:Nat
structure Sp where
 v:Nat
 r:Nat
 floor:Nat
def Gr.zero:Gr:=⟨0,0⟩
def Tk.zero:Tk:=⟨0,0,0,0,0,false,0,0⟩
def Sp.zero:Sp:=⟨0,0,0⟩
instance ZP:DecidableEq Gr:=λ⟨a,b⟩ ⟨c,d⟩=>decidable_of_iff (a=c/\b=d) (by rw [Gr.mk.injEq])
instance ZQ:DecidableEq Tk:=λ⟨a,b,c,d,e,f,g,h⟩ ⟨i,j,k,l,m,n,o,p⟩=>decidable_of_iff (a=i/\b=j/\c=k/\d=l/\e=m/\f=n/\g=o/\h=p) (by rw [Tk.mk.injEq])
instance ZR:DecidableEq Sp:=λ⟨a,b,c⟩ ⟨d,e,f⟩=>decidable_of_iff (a=d/\b=e/\c=f) (by rw [Sp.mk.injEq])
structure Gr.Ok (x:Gr):Prop where
 parent:aX x.parent
 weight:aX x.weight
structure Tk.Ok (x:Tk):Prop where
 id:aX x.id
 group:aX x.group
 weight:aX x.weight
 cpu:aX x.cpu
 mask:x.mask<18446744073709551616
 v:x.v<18446744073709551616
 r:x.r<4294967296
structure Sp.Ok (x:Sp):Prop where
 v:x.v<18446744073709551616
 r:x.r<4294967296
 floor:x.floor<18446744073709551616
structure bH where
 au:Int
 aj:Nat
 gs:List Gr
 cl:List Int
 cu:List Int
 ts:List Tk
 sp:List (List Sp)
structure bH.Ok (s:bH):Prop where
 au:aX s.au
 aj:s.aj<18446744073709551616
 gs:∀x∈s.gs,x.Ok
 cl:∀x∈s.cl,aX x
 cu:∀x∈s.cu,aX x
 ts:∀x∈s.ts,x.Ok
 sp:∀l∈s.sp,∀x∈l,x.Ok
def bH.spot (s:bH) (g c:Nat):Sp:=(s.sp.getD g []).getD c Sp.zero
def bH.par (s:bH) (g:Nat):Int:=(s.gs.getD g Gr.zero).parent
def jJ (l:List Gr):Nat->Nat->Nat
 |0,_=>0
 |f+1,g=>if g=0 then 0 else jJ l f (l.getD g Gr.zero).parent.toNat+1
def jh (l:List Gr) (g:Nat):Nat:=jJ l g g
def fq (l:List Gr) (g:Nat):Prop:=0<=(l.getD g Gr.zero).parent/\(l.getD g Gr.zero).parent<g
def mo (w:Int):Bool:=decide (1<=w/\w<=65536)
def qH (l:List Gr) (g:Nat):Bool:=g==0||decide (0<=(l.getD g Gr.zero).parent/\(l.getD g Gr.zero).parent<g/\(mo (l.getD g Gr.zero).weight=true)/\jh l g<=4)
def dO (l:List Gr):Bool:=decide (1<=abo l/\abo l<=256/\l.getD 0 Gr.zero=⟨0,1⟩)&&iH (abo l) (qH l)
theorem q55 {l:List Gr}:∀(f g:Nat),(∀i,0<i->i<=g->fq l i)->g<=f->jJ l f g=jJ l g g:=by
 have key:∀(g f a:Nat),(∀i,0<i->i<=g->fq l i)->g<=f->g<=a->jJ l f g=jJ l a g:=by
  intro g
  induction g using Nat.strongRecOn with
  | _ g d =>
   intro f a b e h
   by_cases c:g=0
   ·subst c
    cases f<;>cases a<;>simp [jJ]
   ·obtain ⟨f,rfl⟩:∃k,f=k+1:=⟨f-1,by omega⟩
    obtain ⟨a,rfl⟩:∃k,a=k+1:=⟨a-1,by omega⟩
    have j:=b g (by omega) (abu _)
    grind [Gr.zero,fq,jJ]
 grind
def q56 (l:List Gr):jh l 0=0:=rfl
def Ru {l:List Gr} (h:∀i,0<i->i<=g->fq l i) (a:0<g):jh l g=jh l (l.getD g Gr.zero).parent.toNat+1:=by
 obtain ⟨k,rfl⟩:∃k,g=k+1:=⟨g-1,by omega⟩
 have b:=h (k+1) a (abu _)
 unfold fq at b
 show jJ l (k+1) (k+1)=_
 rw [jJ,if_neg (by omega),q55 k _ (λi hi c=>h i hi (by omega)) (by omega)]
 rfl
def M6 {l:List Gr} (h:qH l g=true) (a:0<g):fq l g:=by
 unfold qH at h
 rw [adD,beq_iff_eq,decide_eq_true_eq] at h
 rcases h with h|h
 ·omega
 ·exact ⟨h.1,h.2.1⟩
theorem qt {l:List Gr} (h:dO l=true):1<=abo l/\abo l<=256/\l.getD 0 Gr.zero=⟨0,1⟩/\∀g,g<abo l->qH l g=true:=by grind [vV,dO]
def cB (v r:Nat) (w:Int):Bool:=decide (1<=w/\w<=65536/\(r:Int)<w/\(v<18446744073709551615\/r=0))
def yg (mask:Nat) (au:Int):Bool:=decide (2^au.toNat<=mask)
def eF (s:bH) (t:Tk):Bool:=
 decide (1<=t.id/\t.id<=65535/\0<=t.group/\t.group<abo s.sp/\0<=t.cpu/\t.cpu<s.au)&& (mo t.weight&& (!yg t.mask s.au&& (decide (t.mask/2^t.cpu.toNat%2=1)&&cB t.v t.r t.weight)))
def gK (s:bH):Bool:=decide (1<=s.au/\s.au<=64/\s.aj<=1099511627776)&&dO s.gs
def iQ (t:Int):Bool:=decide (0<=t/\t<=281474976710656)
def eZ (s:bH) (g:Nat) (x:Sp):Bool:=cB x.v x.r (s.gs.getD g Gr.zero).weight&& (g !=0||decide (x.v=0/\x.r=0))
def rowOk (s:bH) (g:Nat):Bool:=decide (abo (s.sp.getD g [])=s.au)&&iH (abo (s.sp.getD g [])) λc=>eZ s g (s.spot g c)
def jr (s:bH) (i:Nat):Bool:=(i==0||decide ((s.ts.getD (i-1) Tk.zero).id<(s.ts.getD i Tk.zero).id))&&eF s (s.ts.getD i Tk.zero)
def M7 (s:bH):Bool:=decide ((abo s.cl:Int)=s.au/\(abo s.cu:Int)=s.au/\abo s.sp=abo s.gs)
def nQ (s:bH):Bool:=(gK s&&M7 s)&& (iH (abo s.cl) (λc=>iQ (s.cl.getD c 0))&& (iH (abo s.sp) (rowOk s)&&iH (abo s.ts) (jr s)))
structure Mb where
 v:Nat
 k:Nat
 id:Nat
def Mb.lt (a b:Mb):Bool:=decide (a.v<b.v\/a.v=b.v/\(a.k<b.k\/a.k=b.k/\a.id<b.id))
def aN (b:Mb) (l:List Mb):Mb:=l.foldl (λb x=>if x.lt b then x else b) b
def bO:Mb:=⟨18446744073709551615,18446744073709551615,18446744073709551615⟩
def Tk.here (t:Tk) (g c:Nat):Bool:=t.ready&& (decide (t.group=g)&&decide (t.cpu=c))
def vX (t:Tk) (g c:Nat):Option Mb:=if t.here g c then some ⟨t.v,0,t.id.toNat⟩ else none
def lH (s:bH) (c:Nat) (m:Nat->List Mb) (g h:Nat):Option Mb:=if s.par h=g/\m h≠[] then some ⟨(s.spot h c).v,1,h⟩ else none
def lI (s:bH) (c:Nat):Nat->Nat->List Mb
 |0,g=>s.ts.filterMap (vX · g c)
 |f+1,g=>s.ts.filterMap (vX · g c)++((aco (abo s.sp)).drop (g+1)).filterMap (lH s c (lI s c f) g)
def aU (s:bH) (g c:Nat):List Mb:=lI s c (abo s.sp-g) g
def kR (s:bH) (g c:Nat):Bool:=decide (aU s g c=[]\/(aN bO (aU s g c)).v<=(s.spot g c).floor)
def gN (l:List Tk) (id:Int):Option Nat:=l.findIdx? λt=>t.id==id
def fu (s:bH) (c:Nat):Bool:=decide (s.cu.getD c 0=0)||match gN s.ts (s.cu.getD c 0) with
 |some i=>(s.ts.getD i Tk.zero).ready&&decide ((s.ts.getD i Tk.zero).cpu=c)
 |none=>false
def lu (s:bH):Bool:=nQ s&&iH (abo s.cu) λc=>fu s c&&iH (abo s.sp) λg=>kR s g c
theorem q57 {s:bH} {c:Nat}:∀(n f a g:Nat),abo s.sp-g<=n->n<=f->n<=a->lI s c f g=lI s c a g:=by
 intro n
 induction n with
 | zero =>
  intro f a g b _ _
  have e:∀f,lI s c f g=s.ts.filterMap (vX · g c):=by
   intro f
   cases f with
   |zero=>rfl
   |succ f=>
    rw [lI,acs (by simp;omega)]
    simp
  rw [e f,e a]
 | succ n j =>
  intro f a g b l m
  obtain ⟨f,rfl⟩:∃k,f=k+1:=⟨f-1,by omega⟩
  obtain ⟨a,rfl⟩:∃k,a=k+1:=⟨a-1,by omega⟩
  rw [lI,lI]
  congr 1
  refine Rt λh d=>?_
  have o:g<h:=by
   obtain ⟨i,hi,rfl⟩:=acp d
   grind
  grind [lH]
theorem M8 (s:bH) (g c:Nat):aU s g c=s.ts.filterMap (vX · g c)++((aco (abo s.sp)).drop (g+1)).filterMap (lH s c (λh=>aU s h c) g):=by
 unfold aU
 rcases ab6 g (abo s.sp) with a|a
 ·obtain ⟨k,b⟩:∃k,abo s.sp-g=k+1:=⟨abo s.sp-g-1,by omega⟩
  rw [b,lI]
  congr 1
  refine Rt λh d=>?_
  have e:g<h:=by
   obtain ⟨i,hi,rfl⟩:=acp d
   grind
  unfold lH
  rw [q57 (abo s.sp-h) k (abo s.sp-h) h (abu _) (by omega) (abu _)]
 ·rw [show abo s.sp-g=0 by omega,lI,acs (by simp;omega)]
  simp
structure SI (P:aiO) (t:aiP) (n:Nat):Prop where
 row:(P.underlying t).map TypeDesc.isRow=some true
 size:(P.info? t).map (·.size)=some n
def SI.desc (b:SI P t n):∃d,P.underlying t=some d/\d.isRow=true:=by
 have h:=b.row
 cases hu:P.underlying t with
 |none=>rw [hu] at h;cases h
 |some d=>rw [hu] at h;exact ⟨d,rfl,by simpa using h⟩
section
variable {P:aiO} {ops:Array aiS} {rest:List aiS} {op:aiS} {a:Act} {w:aiM} {Q:aiV->Act->aiM->Prop} {t:aiP} {n:Nat} {F:Fence} {fn:Nat}
end
section
variable {P:aiO} {ops:Array aiS} {rest:List aiS} {op:aiS} {a:Act} {w:aiM} {Q:aiV->Act->aiM->Prop} {t e:aiP} {z:aiN} {size bytes:Nat} {F:Fence} {fn:Nat} {xs:List aiN}
def qne (b:EI P t e z size bytes) {A:aiW} {n c j:Nat} {k:aiT} (d:j<=n):
  (adG t (.slice A n c) (some (.int k (j:Int))) none none).run P w= .ok (.slice (if c=j then A else A.map (·.add (j*size))) (n-j) (c-j)) w:=by
 obtain ⟨i,hi,_,hs,_⟩:=info_parts b.hi
 simp [adG,run_underlying b.ht,agx,afw,afG,asIntOf,d,sizeOf,typeInfo,hi,hs]
def qnf (b:EI P t e z size bytes) {A:aiW} {n c j:Nat} {k:aiT} (d:j<=c):
  (adG t (.slice A n c) none (some (.int k (j:Int))) none).run P w= .ok (.slice A j c) w:=by
 obtain ⟨i,hi,_,hs,_⟩:=info_parts b.hi
 have f:A.map (·.add 0)=A:=by cases A<;>simp [agF]
 simp [adG,run_underlying b.ht,agx,afw,afG,asIntOf,d,sizeOf,typeInfo,hi,f]
end
def qj {fr:Nat×Nat} (hb:w.heap[b]?=some (.cells C t fr)):w.rangeAt b 0 C.toList:=λj v c=>by
 unfold aef;rw [hb];simpa using c
def WA (hb:w.heap[b]?=some (.cells C t (0,0))) (o n:Nat) (c:o+n<=C.size):w.there b o n:=λj d=>by
 refine ⟨?_,?_⟩
 ·unfold aef;rw [hb]
  simp [Array.getElem?_eq_getElem (by omega:o+j<C.size)]
 ·unfold World.frozen?;rw [hb];simp
def Pj (b:Nat) (t:aiP):∀(g:List aiN) (w:aiM) (pre d:List aiN) (cs:List aiN),w.heap[b]?=some (.cells (pre++cs++d).toArray t (0,0))->abo cs=abo g->
  (w.setCells b (abo pre) g).heap[b]?=some (.cells (pre++g++d).toArray t (0,0))
 |[],w,pre,d,cs,h,i=>by
  have:cs=[]:=acu i
  subst this
  exact h
 | v :: g, w, pre, d, cs, h, i => by
  obtain ⟨c,f,rfl⟩:∃c f,cs=c::f:=by
   cases cs with
   |nil=>simp at i
   |cons c f=>exact ⟨c,f,rfl⟩
  have k:(w.setCell ⟨b,abo pre,none⟩ v).heap[b]?=some (.cells ((pre++[v])++f++d).toArray t (0,0)):=by
   simp [afN,aeY,h]
  have j:=Pj b t g _ (pre++[v]) d f k (by simpa using i)
  rw [abq] at j
  simpa [World.setCells] using j
def qho (h:w.heap[b]?=some (.cells C t (0,0))) (vs:List aiN) (c:C.size=abo vs):(w.setCells b 0 vs).heap[b]?=some (.cells vs.toArray t (0,0)):=by
 have:=Pj b t vs w [] [] C.toList (by simpa using h) (by simpa using c)
 simpa using this
def LK (b:Nat):∀(c:List aiN) (o:Nat) (w:aiM) (k:Nat),k≠b->(w.setCells b o c).heap[k]?=w.heap[k]?
 |[],_,_,_,_=>rfl
 |v::c,o,w,k,d=>by
  have:=LK b c (o+1) (w.setCell ⟨b,o,none⟩ v) k d
  exact this.trans (agi _ _ _ _ d)
def Pk (b:Nat):∀(c:List aiN) (o:Nat) (w:aiM),(w.setCells b o c).os=w.os/\(w.setCells b o c).tape=w.tape/\(w.setCells b o c).output=w.output/\(w.setCells b o c).heap.size=w.heap.size
 |[],_,_=>⟨rfl,rfl,rfl,rfl⟩
 |v::c,o,w=>by
  obtain ⟨d,f,g,h⟩:=Pk b c (o+1) (w.setCell ⟨b,o,none⟩ v)
  exact ⟨d.trans rfl,f.trans rfl,g.trans rfl,h.trans (by simp [afN])⟩
def below_setCells {a:aiM} (h:Below B a w) {b:Nat} (hb:B<=b) (o:Nat) (vs:List aiN):Below B a (w.setCells b o vs):=by
 obtain ⟨c,d,f,g⟩:=Pk b vs o w
 refine ⟨c.trans h.os,d.trans h.tape,f.trans h.output,by rw [g];exact h.size,λk i=>?_⟩
 rw [LK b vs o w k (by omega)]
 exact h.block k i
@[simp] theorem size_setCells (w:aiM) (b o:Nat) (vs:List aiN):(w.setCells b o vs).heap.size=w.heap.size:=(Pk b vs o w).2.2.2
def qjc (t:aiP) (w:aiM):∀(f pre b cs:List aiN),abo cs=abo f->(w.alloc (.cells (pre++cs++b).toArray t)).setCells w.heap.size (abo pre) f=w.alloc (.cells (pre++f++b).toArray t)
 |[],pre,b,cs,g=>by
  have:cs=[]:=acu g
  subst this;rfl
 | v :: f, pre, b, cs, g => by
  obtain ⟨c,d,rfl⟩:∃c d,cs=c::d:=by
   cases cs with
   |nil=>simp at g
   |cons c d=>exact ⟨c,d,rfl⟩
  have i:(w.alloc (.cells (pre++(c::d)++b).toArray t)).setCell ⟨w.heap.size,abo pre,none⟩ v=w.alloc (.cells ((pre++[v])++d++b).toArray t):=by
   rw [World.setCell_alloc_new];simp
  have h:=qjc t w f (pre++[v]) b d (by simpa using g)
  rw [abq] at h
  show ((w.alloc _).setCell ⟨w.heap.size,abo pre,none⟩ v).setCells w.heap.size (abo pre+1) f=_
  rw [i]
  simpa using h
section
variable {P:aiO} {ops:Array aiS} {rest:List aiS} {op:aiS} {a:Act} {w:aiM} {Q:aiV->Act->aiM->Prop} {t tt:aiP} {n:Nat} {F:Fence} {fn:Nat} {C cs:Array aiN} {x y:aiR}
end
def Eb {α:Type} (f:α->List aiN) (sz:Nat) (b:∀x,abo (f x)=sz):∀(l:List α) (k j:Nat) (c:k<abo l),j<sz->(l.flatMap f)[k*sz+j]?=(f l[k])[j]?
 |[],k,_,c,_=>by simp at c
 |x::l,0,j,_,d=>by
  rw [abR,Nat.zero_mul,aci,List.getElem?_append_left (by rw [b];exact d)];rfl
 |x::l,k+1,j,c,d=>by
  rw [abR,List.getElem?_append_right (by rw [b,adI];omega),b]
  have:=Eb f sz b l k j (by simpa using c) d
  rw [show (k+1)*sz+j-sz=k*sz+j by rw [adI];omega,this]
  rfl
def rJ {α:Type} (f:α->List aiN) (sz:Nat) (b:∀x,abo (f x)=sz) (l:List α):abo (l.flatMap f)=abo l*sz:=by
 induction l with
 |nil=>simp
 |cons x l c=>rw [abR,abq,b,c,abV,adI];omega
def q3l {a:Addr} {v:aiN} (h:w.cell? a=some v):a.spot=none:=by
 unfold aef at h
 split at h
 ·split at h
  ·cases h
  ·rename_i hs;simpa using hs
 ·cases h
section
open Go.Shelf
attribute [local go_sem] Oper.semAt_some
def iL:Nat->Nat->List (Nat×Bool)
 |0,_=>[]
 |f+1,x=>if x<128 then [(x,false)] else (x%128,true)::iL f (x/128)
theorem D9 (f y:Nat) (h:y<128):iL (f+1) y=[(y,false)]:=by rw [iL,if_pos h]
theorem Ea (f y:Nat) (h:128<=y):iL (f+1) y=(y%128,true)::iL f (y/128):=by rw [iL,if_neg (by omega)]
def zmm (y:Nat) (h:y<18446744073709551616):bits .and .u64 (y:Int) 127=((y%128:Nat):Int):=by
 have:bits .and .u64 (y:Int) 127=_:=u64_and_nat y 127 h (by omega)
 rw [this,nat_mask7]
def zmn (y:Nat) (h:y<256):((y:Nat):Int)%256=(y:Int):=by omega
def bJ (p:Nat×Bool):Nat:=if p.2 then p.1+128 else p.1
def ak (x:Nat):List Nat:=(iL 10 x).map bJ
def Wz:∀(f x:Nat),∀p∈iL f x,p.1<128
 |0,_,p,h=>by simp [iL] at h
 | f + 1, x, p, h => by
  by_cases a:x<128
  ·rw [D9 f x a] at h;simp at h;subst h;exact a
  ·rw [Ea f x (by omega)] at h
   simp at h
   rcases h with rfl|h
   ·show x%128<128;omega
   ·exact Wz f _ p h
theorem qno:∀(f x:Nat),abo (iL f x)<=f
 |0,_=>by simp [iL]
 |f+1,x=>by
  by_cases a:x<128
  ·rw [D9 f x a];simp
  ·rw [Ea f x (by omega)];simp;exact qno f _
def FK (y:Nat) (h:y<128):bits .or .u8 (y:Int) 128=((y+128:Nat):Int):=by
 have:bits .or .u8 (y:Int) 128=_:=u8_or_nat y 128 (by omega) (by omega)
 rw [this,ahu,nat_join 7 128 y (by decide) (by omega)];omega
theorem BK (x:Nat):abo (ak x)<=10:=by unfold ak;rw [abw];exact qno 10 x
theorem uH (a:List Nat):abo (a.flatMap ak)<=10*abo a:=by
 induction a with
 |nil=>simp
 |cons x r b=>have:=BK x;simp only [abR,abq,abV];omega
end
def pI (l:List Nat) (i:Nat):Nat×Nat:=
 if abo l<=i then (0,10) else if i=9/\1<l.getD i 0 then (0,11) else if 0<i/\l.getD i 0=0 then (0,12) else (l.getD i 0,0)
def Pw {x:Nat} (h:l[i]?=some x):pI l i=if i=9/\1<x then (0,11) else if 0<i/\x=0 then (0,12) else (x,0):=by
 have hi:i<abo l:=(abB.1 h).1
 unfold pI;rw [if_neg (by omega),abt,h];rfl
set_option maxHeartbeats 400000 in
theorem q3x (A:aiW) (n c i B j:Nat) (l:List Nat) (w:aiM) (hr:Rd w B 1 A n (l.map B8)) (hb:w.cell? ⟨j,0,none⟩=some (.slice A n c)) (k:∀b∈l,b<256) (v:n<=200000000000000) (hi:i<=200000000000000):
  Calls Tryz.prog 111 #[.int .i64 (i:Int),.pointer (some ⟨j,0,none⟩)] w λe o=>e= .returned (.tuple #[.int .u8 ((pI l i).1:Int),.int .i64 ((pI l i).2:Int)])/\o=w:=by
 have d:l.length=n:=by simpa using hr.len
 by_cases f:i<n
 ·obtain ⟨m,rfl,p,g,a⟩:=hr.at f
  have q:=k _ (List.getElem_mem (by omega:i<l.length))
  have h:l[i]?=some l[i]:=List.getElem?_eq_getElem (by omega:i<l.length)
  simp only [List.getElem_map] at a
  generalize l[i]=x at a q h
  unfold B8 at a
  clear hr k d g
  by_cases r:i=9
  ·subst r
   have s:w.cell? ⟨m.block,m.off+9,none⟩=some (.int .u8 (x:Int)):=a
   go_enter Tryz.func111,Tryz.ntmps111
   go_wp2
   all_goals
    go_ret2
    refine ⟨?_,rfl⟩
    try simp only [beq_iff_eq,beq_eq_false_iff_ne,ne_eq] at*
    rw [Pw h]
    first|(rw [if_pos (by omega)];rfl)|(rw [if_neg (by omega),if_pos (by omega)];rfl)|(rw [if_neg (by omega),if_neg (by omega)];rfl)
  ·go_enter Tryz.func111,Tryz.ntmps111
   go_wp2
   all_goals
    go_ret2
    refine ⟨?_,rfl⟩
    try simp only [beq_iff_eq,beq_eq_false_iff_ne,ne_eq] at*
    rw [Pw h]
    first|(rw [if_pos (by omega)];rfl)|(rw [if_neg (by omega),if_pos (by omega)];rfl)|(rw [if_neg (by omega),if_neg (by omega)];rfl)
 ·have t:(n:Int)<=(i:Int):=by omega
  have u:=hide (show pI l i=(0,10) by unfold pI;rw [if_pos (by omega)])
  go_enter Tryz.func111,Tryz.ntmps111
  go_wp2
  go_ret2
  exact ⟨by rw [u.out];rfl,rfl⟩
def nC:Nat->Nat->List Nat->Nat×Nat×Nat
 |_,_,[]=>(0,0,10)
 |i,a,b::r=>
  if i=9/\1<b then (0,0,11) else if 0<i/\b=0 then (0,0,12) else
  if b<128 then (a+b*128^i,i+1,0) else nC (i+1) (a+(b-128)*128^i) r
def aD (l:List Nat):Nat×Nat×Nat:=nC 0 0 l
def zia (n:Nat) (l:List Nat) (x i:aiN):Prop:=
 ∃k a:Nat,k<=n/\k<10/\a<128^k/\x= .int .u64 (a:Int)/\i= .int .i64 (k:Int)/\aD l=nC k a (l.drop k)
def za5 (y:Nat) (h:y<256):bits .and .u8 (y:Int) 127=((y%128:Nat):Int):=by
 have:bits .and .u8 (y:Int) 127=_:=u8_and_nat y 127 h (by omega)
 rw [this,nat_mask7]
def Px (k:Nat):(128:Nat)^k=2^ (7*k):=by rw [Nat.pow_mul]
def WO (k:Nat) (hk:k<=9):(128:Nat)^k<=9223372036854775808:=Nat.le_trans (adq (by omega) hk) (by decide)
def zib (a y k:Nat) (b:a<128^k) (hk:k<10) (hy:y<256) (c:k=9->y<=1):
  bits .or .u64 (a:Int) (IntKind.u64.wrap (IntKind.u64.wrap (bits .and .u8 (y:Int) 127)*2^ (7*k)))=((a+y%128*128^k:Nat):Int):=by
 have hz:y%128*128^k<18446744073709551616:=by
  by_cases h:k=9
  ·have:=c h;subst h
   have:y%128*128^9<=1*128^9:=acy _ (by omega)
   omega
  ·have d:=adq (show 0<128 by omega) (show k<=8 by omega)
   have:y%128*128^k<=127*128^8:=Nat.mul_le_mul (by omega) d
   omega
 have e:a<18446744073709551616:=by have:=WO k (by omega);omega
 have e1:IntKind.u64.wrap ((y%128:Nat):Int)=((y%128:Nat):Int):=by rw [adX];omega
 have e2:((y%128:Nat):Int)*2^ (7*k)=((y%128*128^k:Nat):Int):=by rw [Px];simp
 rw [za5 y hy,e1,e2]
 have e3:IntKind.u64.wrap ((y%128*128^k:Nat):Int)=((y%128*128^k:Nat):Int):=by rw [adX];omega
 rw [e3,u64_or_nat a _ e hz,ahu,nat_join (7*k) _ a (by rw [Px];exact Nat.mul_mod_left _ _) (by rw [<-Px];exact b)]
 omega
def WQ (a y k:Nat) (b:a<128^k):a+y%128*128^k<128^ (k+1):=by
 have c:y%128*128^k<=127*128^k:=acy _ (by omega)
 rw [agP];omega
def zmq (a:∀b∈l,b<256) (k:Nat):(pI l k).1<256:=by
 unfold pI
 by_cases h:abo l<=k
 ·rw [if_pos h];show 0<256;omega
 ·rw [if_neg h]
  have:=a _ (ac7 (by omega:k<abo l))
  have e:l.getD k 0=l[k]:=by rw [abt,abr (by omega:k<abo l)];rfl
  rw [e]
  split
  ·show 0<256;omega
  ·split
   ·show 0<256;omega
   ·exact this
def za6 (l:List Nat) (k a:Nat):
  ((pI l k).2≠0->nC k a (l.drop k)=(0,0,(pI l k).2))/\
  ((pI l k).2=0->k<abo l/\(k=9->(pI l k).1<=1)/\nC k a (l.drop k)=if (pI l k).1<128 then (a+(pI l k).1*128^k,k+1,0) else nC (k+1) (a+((pI l k).1-128)*128^k) (l.drop (k+1))):=by
 by_cases h:k<abo l
 ·have d:l[k]?=some l[k]:=abr h
  rw [Pw d,acz h]
  generalize l[k]=x
  rw [nC]
  by_cases b:k=9/\1<x
  ·rw [if_pos b,if_pos b];simp
  ·rw [if_neg b,if_neg b]
   by_cases c:0<k/\x=0
   ·rw [if_pos c,if_pos c];simp
   ·rw [if_neg c,if_neg c]
    refine ⟨λh=>absurd rfl h,λ_=>⟨h,λf=>?_,rfl⟩⟩
    show x<=1
    omega
 ·have e:pI l k=(0,10):=by unfold pI;rw [if_pos (by omega)]
  rw [e,List.drop_eq_nil_of_le (by omega)]
  exact ⟨λ_=>rfl,λh=>by simp at h⟩
set_option maxRecDepth 100000 in
set_option maxHeartbeats 400000 in
theorem LQ (A:aiW) (n c:Nat) (l:List Nat) (w:aiM) (hr:Rd w w.heap.size 1 A n (l.map B8)) (x:∀b∈l,b<256) (F:n<=200000000000000):
  Calls Tryz.prog 52 #[.slice A n c] w λe r=>e= .returned (.tuple #[.int .u64 ((aD l).1:Int),.int .i64 ((aD l).2.1:Int),.int .i64 ((aD l).2.2:Int)])/\Below w.heap.size w r:=by
 have z:l.length=n:=by simpa using hr.len
 go_enter Tryz.func52,Tryz.ntmps52
 go_wp2
 have j:(w.alloc (.cells #[.slice A n c] 30)).cell? ⟨w.heap.size,0,none⟩=some (.slice A n c):=by simp
 have t:=hr.alloc (Nat.le_refl _) (.cells #[.slice A n c] 30)
 go_loop [5,7] (zia n l) (λ_ i=>10- (intOf i).toNat)
 case atStart=>exact ⟨0,0,by omega,by omega,by omega,rfl,rfl,rfl⟩
 case round=>
  obtain ⟨k,g,J,m,h,rfl,rfl,B⟩:=hrel
  have f:=za6 l k g
  rw [<-B] at f
  have u:=zmq x k
  have C:=q3x A n c k w.heap.size w.heap.size l _ t j x F (by omega)
  have o:=hide C
  clear C B
  generalize pI l k=p at f u o
  obtain ⟨y,e⟩:=p
  obtain ⟨a,d⟩:=f
  simp only at a d u o
  by_cases D:e=0
  ·subst D
   obtain ⟨G,H,f⟩:=d rfl
   have s:=hide f
   have E:=hide (zib g y k h m u H)
   have v:=WQ g y k h
   clear f a d
   by_cases q:y<128
   ·go_wp2_with (go_at_call 111;refine (o.out).mono ?_;rintro e r ⟨rfl,rfl⟩)
    go_ret3
    refine ⟨?_,(Below.refl _ _).alloc (Nat.le_refl _) _⟩
    rw [s.out,if_pos q]
    have e1:y%128=y:=by omega
    have:=E.out
    rw [e1] at this
    simp [this]
   ·go_wp2_with (go_at_call 111;refine (o.out).mono ?_;rintro e r ⟨rfl,rfl⟩)
    have e1:y%128=y-128:=by omega
    refine ⟨⟨k+1,g+y%128*128^k,by omega,by omega,v,by rw [E.out],by go_num,?_⟩,by simp [intOf];omega⟩
    rw [s.out,if_neg q,e1]
  ·have s:=hide (a D)
   have I:((e:Int) !=0)=true:=by rw [bne_iff_ne];omega
   clear a d
   go_wp2_with (go_at_call 111;refine (o.out).mono ?_;rintro e r ⟨rfl,rfl⟩)
   go_ret3
   exact ⟨by rw [s.out];rfl,(Below.refl _ _).alloc (Nat.le_refl _) _⟩
def Ev.zero:Ev:=⟨0,0,0,0,0,0,0,0,0,0,0⟩
def Ev.base (e:Ev):Ev:={Ev.zero with seq:=e.seq,time:=e.time,cpu:=e.cpu,kind:=e.kind}
def Ev.tF (e:Ev) (i:Nat) (v:Int) (m:Nat):Ev:=
 match i with
 |0=>{e with task:=v}
 |1=>{e with group:=v}
 |2=>{e with to:=v}
 |3=>{e with weight:=v}
 |4=>{e with ticks:=v}
 |5=>{e with mask:=m}
 |_=>{e with got:=v}
def Ev.put (e:Ev) (i x:Nat):Ev:=e.tF i (wrap64 (x:Int)) x
def Ev.fill (e:Ev) (l:List (Nat×Nat)):Ev:=l.foldl (λe p=>e.put p.1 p.2) e
def Ev.made (e:Ev) (vs:List Nat):Ev:=e.base.fill ((aB e.kind).zip vs)
def Ev.dx (e:Ev) (vs:List Nat):Nat:=
 if e.kind=0\/10<e.kind then 60 else if abo vs≠abo (aB e.kind) then 2 else if (e.made vs).check≠0 then 61 else 0
def Ev.dZ (e:Ev) (vs:List Nat):Ev:=if e.dx vs=0 then e.made vs else Ev.zero
def q3s (e:Ev) (i x:Nat) (hi:i<7):e.cells.setIfInBounds (4+i) (aaq i x)=(e.put i x).cells:=by
 obtain rfl|rfl|rfl|rfl|rfl|rfl|rfl:i=0\/i=1\/i=2\/i=3\/i=4\/i=6\/i=5:=by omega
 all_goals simp [Ev.cells,Ev.put,Ev.tF,aaq,Array.setIfInBounds]
def Ed (x:Int):aX (wrap64 x):=by unfold aX;rw [<-agj,agk];omega
def zmp (h:e.Ok) (i x:Nat) (a:x<18446744073709551616):(e.put i x).Ok:=by
 unfold Ev.put Ev.tF
 split
 ·exact {h with task:=Ed _}
 ·exact {h with group:=Ed _}
 ·exact {h with to:=Ed _}
 ·exact {h with weight:=Ed _}
 ·exact {h with ticks:=Ed _}
 ·exact {h with mask:=a}
 ·exact {h with got:=Ed _}
theorem oL:aX 0:=⟨by omega,by omega⟩
def WJ (h:e.Ok):e.base.Ok:=⟨h.seq,h.time,h.cpu,h.kind,oL,oL,oL,oL,oL,by show 0<18446744073709551616;omega,oL⟩
def Pq {e:Ev} (h:e.Ok):∀(l:List (Nat×Nat)),(∀p∈l,p.2<18446744073709551616)->(e.fill l).Ok
 |[],_=>h
 |p::l,a=>Pq (zmp h p.1 p.2 (a p (by simp))) l (λq b=>a q (by simp [b]))
structure mR (w:aiM) (e:Ev) (err:Nat) (r:aiQ) (w':aiM):Prop where
 ret:r= .returned (.tuple #[.agg e.cells,.int .i64 (err:Int)])
 below:Below w.heap.size w w'
def WK (e:Ev) (l:List (Nat×Nat)) (p:Nat×Nat):e.fill (l++[p])=(e.fill l).put p.1 p.2:=by unfold Ev.fill;rw [List.foldl_append];rfl
def qul (k:Nat):k=1\/k=2\/k=3\/k=4\/k=5\/k=6\/k=7\/k=8\/k=9\/k=10\/(aB k=[]/\(k=0\/10<k)):=by
 by_cases h:k=0\/10<k
 ·have:aB k=[]:=by unfold aB;split<;>first|rfl|omega
  simp [this,h]
 ·omega
def WL (e:Ev) (vs:List Nat):(e.made vs).kind=e.kind/\(e.made vs).seq=e.seq/\(e.made vs).time=e.time/\(e.made vs).cpu=e.cpu:=by
 have:∀(l:List (Nat×Nat)) (o:Ev),(o.fill l).kind=o.kind/\(o.fill l).seq=o.seq/\(o.fill l).time=o.time/\(o.fill l).cpu=o.cpu:=by
  intro l
  induction l with
  |nil=>intro o;exact ⟨rfl,rfl,rfl,rfl⟩
  |cons p l b=>
   intro o
   have h:=b (o.put p.1 p.2)
   have a:(o.put p.1 p.2).kind=o.kind/\(o.put p.1 p.2).seq=o.seq/\(o.put p.1 p.2).time=o.time/\(o.put p.1 p.2).cpu=o.cpu:=by unfold Ev.put Ev.tF;split<;>exact ⟨rfl,rfl,rfl,rfl⟩
   rw [a.1,a.2.1,a.2.2.1,a.2.2.2] at h
   exact h
 exact this _ _
theorem q3u (o:Ev) (i:Nat) (v:Int) (m:Nat) (a:i≠5) (hi:i<7):(o.tF i v m).iA i=v:=by
 obtain rfl|rfl|rfl|rfl|rfl|rfl:i=0\/i=1\/i=2\/i=3\/i=4\/i=6:=by omega
 all_goals rfl
theorem q0e (o:Ev) (i j:Nat) (v:Int) (m:Nat) (hi:i<7) (a:j<7) (h:j≠i):(o.tF i v m).iA j=o.iA j:=by
 obtain rfl|rfl|rfl|rfl|rfl|rfl|rfl:i=0\/i=1\/i=2\/i=3\/i=4\/i=5\/i=6:=by omega
 all_goals
  obtain rfl|rfl|rfl|rfl|rfl|rfl|rfl:j=0\/j=1\/j=2\/j=3\/j=4\/j=5\/j=6:=by omega
  all_goals first|rfl|(exact absurd rfl h)
def za4 (o:Ev) (i x:Nat) (a:i≠5) (hi:i<7):(o.put i x).iA i=wrap64 (x:Int):=by
 unfold Ev.put;exact q3u o i _ x a hi
def q3v (o:Ev) (i j x:Nat) (hi:i<7) (a:j<7) (h:j≠i):(o.put i x).iA j=o.iA j:=by
 unfold Ev.put;exact q0e o i j _ x hi a h
def LP (j:Nat) (a:j<7):∀(l:List (Nat×Nat)) (o:Ev),(∀p∈l,p.1<7/\p.1≠j)->(o.fill l).iA j=o.iA j
 |[],_,_=>rfl
 |p::l,o,h=>by
  have b:=h p (by simp)
  have c:=LP j a l (o.put p.1 p.2) (λq d=>h q (by simp [d]))
  exact c.trans (q3v o p.1 j p.2 b.1 a (λe=>b.2 e.symm))
def Pt (i x:Nat) (d:i≠5):∀(l:List (Nat×Nat)) (o:Ev),(∀p∈l,p.1<7)->(l.map (·.1)).Nodup->(i,x)∈l->(o.fill l).iA i=wrap64 (x:Int)
 |[],_,_,_,h=>by simp at h
 | p :: l, o, b, c, h => by
  rw [acB,afD] at c
  rcases abY.1 h with rfl|h
  ·have hi:i<7:=b (i,x) (by simp)
   have f:=LP i hi l (o.put i x) (λq a=>⟨b q (by simp [a]),λe=>c.1 (by rw [<-e];exact ab7.2 ⟨q,a,rfl⟩)⟩)
   exact f.trans (za4 o i x d hi)
  ·exact Pt i x d l (o.put p.1 p.2) (λq a=>b q (by simp [a])) c.2 h
def WM (k:Nat):(aB k).Nodup:=by
 unfold aB;split<;>decide
def BM (e:Ev) (vs:List Nat) (j:abo vs=abo (aB e.kind)) (h:(((aB e.kind).zip vs).all λp=>Ev.fits p.1 p.2)=false):(e.made vs).check≠0:=by
 intro hc
 have a:=(uW hc).2.1
 rw [(WL e vs).1,ace] at a
 rw [List.all_eq_false] at h
 obtain ⟨⟨i,x⟩,hm,b⟩:=h
 have hi:=(aeO hm).1
 have d:=qc3 (a i hi)
 have c:i≠5:=by rintro rfl;simp [Ev.fits] at b
 have f:(e.made vs).iA i=wrap64 (x:Int):=by
  refine Pt i x c _ _ (λp g=>BL _ _ (aeO g).1) ?_ hm
  rw [agG (by omega)]
  exact WM _
 rw [f] at d
 simp [Ev.fits,c] at b
 omega
structure Bs where
 seq:Int
 time:Int
structure Bs.Ok (b:Bs):Prop where
 seq:aX b.seq
 time:aX b.time
def Bs.cells (b:Bs):Array aiN:= #[.int .i64 b.seq,.int .i64 b.time]
def Bs.right (b:Bs):Bool:=decide (1<=b.seq/\b.seq<=281474976710656/\0<=b.time/\b.time<=281474976710656)
def Bs.behind (b:Bs) (e:Ev):Bool:=decide (b.seq<=e.seq/\b.time<=e.time)
def Ev.at (e:Ev):Bs:=⟨e.seq,e.time⟩
def qed (b:Bs) (e:Ev):Nat:=if e.check≠0 then e.check else if b.right=true/\b.behind e=true then 0 else 70
def yG (b:Bs) (e:Ev):List Nat:=(e.seq-b.seq).toNat::(e.time-b.time).toNat::e.vals
def zk (b:Bs) (e:Ev):List Nat:=e.kind::(yG b e).flatMap ak
def xI (b:Bs) (e:Ev):List Nat:=if qed b e=0 then zk b e else []
def aV:Nat->List Nat->List Nat×Nat×Nat
 |0,_=>([],0,0)
 |k+1,l=>
  if (aD l).2.2≠0 then ([],0,(aD l).2.2)
  else if (aV k (l.drop (aD l).2.1)).2.2≠0 then ([],0,(aV k (l.drop (aD l).2.1)).2.2)
  else ((aD l).1::(aV k (l.drop (aD l).2.1)).1,(aD l).2.1+(aV k (l.drop (aD l).2.1)).2.1,0)
def Bs.ev (b:Bs) (cpu kind a c:Nat):Ev:={Ev.zero with seq:=b.seq+(a:Int),time:=b.time+(c:Int),cpu:=cpu,kind:=kind}
def tH (b:Bs) (cpu kind:Nat) (q:List Nat×Nat×Nat):Ev×Nat×Nat:=
 if q.2.2≠0 then (Ev.zero,0,q.2.2)
 else if 281474976710656-b.seq<(q.1.getD 0 0:Nat)\/281474976710656-b.time<(q.1.getD 1 0:Nat) then (Ev.zero,0,61)
 else if (b.ev cpu kind (q.1.getD 0 0) (q.1.getD 1 0)).dx (q.1.drop 2)≠0 then (Ev.zero,0,61)
 else ((b.ev cpu kind (q.1.getD 0 0) (q.1.getD 1 0)).made (q.1.drop 2),1+q.2.1,0)
def bD (b:Bs) (cpu:Nat) (l:List Nat):Ev×Nat×Nat:=
 if b.right=false then (Ev.zero,0,70)
 else if l=[] then (Ev.zero,0,10)
 else if abo (aB (l.getD 0 0))=0 then (Ev.zero,0,60)
 else tH b cpu (l.getD 0 0) (aV (2+abo (aB (l.getD 0 0))) (l.drop 1))
def Ev.after (e q:Ev):Bool:=decide (e.cpu=q.cpu/\q.seq<e.seq/\q.time<=e.time)
def iM:Option Ev->Nat->List Ev->Int×Nat
 |_,_,[]=>(-1,0)
 |p,i,e::r=>
  if e.check≠0 then ((i:Int),e.check)
  else if p.all (λq=>e.after q)=false then ((i:Int),71)
  else iM (some e) (i+1) r
def jg (l:List Ev):Int×Nat:=iM none 0 l
def recs:Bs->List Ev->List Nat
 |_,[]=>[]
 |b,e::r=>zk b e++recs e.at r
def r9 (b:Bs) (l:List Ev):Nat:=
 if (jg l).2≠0 then (jg l).2 else if b.right=true/\l.head?.all b.behind=true then 0 else 70
def uY (b:Bs) (l:List Ev):List Nat:=if r9 b l=0 then recs b l else []
def q5 (cpu:Nat):Nat->Bs->Option Ev->List Nat->List Ev×Nat×Nat
 |0,_,_,_=>([],0,0)
 |n+1,b,p,l=>
  if (bD b cpu l).2.2≠0 then ([],0,(bD b cpu l).2.2)
  else if p.any (λq=>decide ((bD b cpu l).1.seq=q.seq))=true then ([],0,71)
  else if (q5 cpu n (bD b cpu l).1.at (some (bD b cpu l).1) (l.drop (bD b cpu l).2.1)).2.2≠0 then ([],0,(q5 cpu n (bD b cpu l).1.at (some (bD b cpu l).1) (l.drop (bD b cpu l).2.1)).2.2)
  else ((bD b cpu l).1::(q5 cpu n (bD b cpu l).1.at (some (bD b cpu l).1) (l.drop (bD b cpu l).2.1)).1,(bD b cpu l).2.1+(q5 cpu n (bD b cpu l).1.at (some (bD b cpu l).1) (l.drop (bD b cpu l).2.1)).2.1,0)
def gW (b:Bs) (cpu:Nat) (n:Int) (l:List Nat):List Ev×Nat×Nat:=
 if n<0 then ([],0,2) else if b.right=false then ([],0,70) else q5 cpu n.toNat b none l
theorem q3z:∀(l:List Nat) (i a:Nat),(nC i a l).2.1<=i+abo l/\((nC i a l).2.2=0->i<(nC i a l).2.1):=by intro x;induction x<;>grind [nC]
theorem xJ (l:List Nat):(aD l).2.1<=abo l:=by have:=(q3z l 0 0).1;unfold aD;omega
theorem WR (l:List Nat) (h:(aD l).2.2=0):0<(aD l).2.1:=(q3z l 0 0).2 h
def WS:∀(l:List Nat) (i a:Nat),(∀b∈l,b<256)->a<128^i->i<=9->(nC i a l).1<18446744073709551616
 |[],i,a,_,_,_=>by simp [nC]
 | b :: r, i, a, c, d, hi => by
  have g:=c b (by simp)
  have j:=WO i hi
  rw [nC]
  split
  ·show 0<_;omega
  ·rename_i k
   split
   ·show 0<_;omega
   ·split
    ·show a+b*128^i<_
     rcases ab6 i 9 with h|h
     ·have m:(128:Nat)^i<=128^8:=adq (by omega) (by omega)
      have n:(128:Nat)^8=72057594037927936:=by decide
      have e:b*128^i<=127*128^i:=acy _ (by omega)
      omega
     ·have e:b*128^i<=1*128^i:=acy _ (by omega)
      omega
    ·rcases ab6 i 9 with h|h
     ·refine WS r (i+1) _ (λx f=>c x (by simp [f])) ?_ (by omega)
      have:=WQ a (b-128) i d
      rwa [show (b-128)%128=b-128 by omega] at this
     ·omega
theorem FM (l:List Nat) (a:∀b∈l,b<256):(aD l).1<18446744073709551616:=WS l 0 0 a (by omega) (by omega)
def jX (l:List Nat):ByteArray:=⟨(l.map λb=>afr b).toArray⟩
def za0 {P:aiO} {ts te:aiP} (hs:P.underlying t=some (.slice te)) (k:P.underlying te=some (.int .u8)) (m:P.underlying ts=some .string) {w:aiM} {B:Nat} {A:aiW} {n c:Nat} {l:List Nat} (hr:Rd w B 1 A n (l.map B8)):
  (convert t ts (.slice A n c)).run P w= .ok (.string (jX l)) w:=by
 have f:abo l=n:=by simpa using hr.len
 cases A with
 | none =>
  have r:n=0:=by
   rcases ach n with h|h
   ·exact h
   ·obtain ⟨p,g,_⟩:=hr.row h;cases g
  have i:l=[]:=acu (by omega)
  subst i
  rw [run_convert_bytes_nil w t te hs k n c ts m]
  rfl
 | some a =>
  have d:∀j u,(l.map B8)[j]?=some u->w.cell? (a.add j)=some u:=by
   intro j u o
   rcases ach n with h|h
   ·have:l=[]:=acu (by omega)
    subst this;simp at o
   ·obtain ⟨p,g,_,q⟩:=hr.row h
    injection g with g;subst g
    exact q j u o
  have i:=run_loadCells_list (P:=P) w a (l.map B8) d
  have e:l.map B8=(l.map (λb:Nat=>(b:Int))).map (abT .u8):=by rw [aeZ];rfl
  rw [abw,f,e] at i
  rw [run_convert_bytes_string w t ts te _ n c hs k m,run_bytesToString w a n c _ i,foldl_push_bytes]
  simp [jX,ByteArray.empty,ByteArray.emptyWithCapacity]
  rfl
def zh5 {n c:Nat} (hr:Rd w B 1 A n (l.map B8)):(convert 30 9 (.slice A n c)).run abp w= .ok (.string (jX l)) w:=
 za0 (te:=5) (by kernel_rfl) (by kernel_rfl) (by kernel_rfl) hr
def za1 {m:List Nat} (a:∀b∈l,b<256) (hm:∀b∈m,b<256) (h:jX l=jX m):l=m:=by
 unfold jX at h
 injection h with h
 have d:(l.map λb=>afr b)=(m.map λb=>afr b):=by simpa using h
 have c:=congrArg (List.map λx:UInt8=>x.toNat) d
 rw [aeZ,aeZ] at c
 have e:∀l:List Nat,(∀b∈l,b<256)->l.map ((λx:UInt8=>x.toNat)∘λb=>afr b)=l:=λl a=>by
  conv=>rhs;rw [<-List.map_id l]
  exact List.map_congr_left (λb f=>by have:=a b f;simp;omega)
 rwa [e l a,e m hm] at c
section
def Cg:Nat:=3988292384
def mI (c:Nat):Nat:=if c%2=1 then (c/2)^^^Cg else c/2
def tN:List Nat:=[0,498536548,997073096,651767980,1994146192,1802195444,1303535960,1342533948,3988292384,4027552580,3604390888,3412177804,2607071920,2262029012,2685067896,3183342108]
def rP (c:Nat):Nat:=(c/16)^^^ (tN.getD (c%16) 0)
def Er (c x:Nat):Nat:=rP (rP (c^^^x))
def zm (c:Nat) (l:List Nat):Nat:=l.foldl Er c
def zy (l:List Nat):Nat:=4294967295-zm 4294967295 l
def yL (y:Nat):Nat:=mI (mI (mI (mI (mI (mI (mI (mI y)))))))
def zbd (a b:Nat):(a^^^b)/2=a/2^^^b/2:=by
 have:=Nat.shiftRight_xor_distrib (a:=a) (b:=b) (i:=1)
 simpa [Nat.shiftRight_eq_div_pow] using this
def zbe (a b:Nat):(a^^^b)%2=(a+b)%2:=by
 have h:(a^^^b).testBit 0=((a.testBit 0)^^ (b.testBit 0)):=afH ..
 rw [afx,afx,afx] at h
 rcases adJ a with c|c<;>rcases adJ b with d|d
 ·rw [c,d] at h
  have:¬(a^^^b)%2=1:=of_decide_eq_false h
  omega
 ·rw [c,d] at h
  have:(a^^^b)%2=1:=of_decide_eq_true h
  omega
 ·rw [c,d] at h
  have:(a^^^b)%2=1:=of_decide_eq_true h
  omega
 ·rw [c,d] at h
  have:¬(a^^^b)%2=1:=of_decide_eq_false h
  omega
def qur (a b:Nat):mI (a^^^b)=mI a^^^mI b:=by
 unfold mI
 have hm:=zbe a b
 rw [zbd]
 rcases adJ a with c|c<;>rcases adJ b with d|d
 ·rw [if_neg (by omega),if_neg (by omega),if_neg (by omega)]
 ·rw [if_pos (by omega),if_neg (by omega),if_pos (by omega),aer]
 ·rw [if_pos (by omega),if_pos (by omega),if_neg (by omega),aer,aer,ahk Cg]
 ·rw [if_neg (by omega),if_pos (by omega),if_pos (by omega)]
  rw [aer,ahk Cg,aer,Nat.xor_self,Nat.xor_zero]
def Mi (h:Nat):mI (2*h)=h:=by unfold mI;rw [if_neg (by omega)];omega
def q4g (k c:Nat):c=(2^k*(c/2^k))^^^ (c%2^k):=by
 apply agl
 intro i
 rw [afH,Nat.testBit_mod_two_pow,Nat.testBit_two_pow_mul,Nat.testBit_div_two_pow]
 by_cases h:i<k
 ·simp [h,Nat.not_le.2 h]
 ·simp [h,Nat.le_of_not_lt h]
theorem XF (c:Nat):rP c=mI (mI (mI (mI c))):=by
 have h:=q4g 4 c
 conv=>rhs;rw [h]
 simp only [qur]
 rw [show 2^4*(c/2^4)=2*(2*(2*(2*(c/16)))) by omega,Mi,Mi,Mi,Mi]
 unfold rP
 congr 1
 have a:c%2^4<16:=Nat.mod_lt _ (by decide)
 show tN.getD (c%2^4) 0=_
 generalize c%2^4=y at a
 have:∀y,y<16->tN.getD y 0=mI (mI (mI (mI y))):=by decide
 exact this y a
def qus (c x:Nat):Er c x=yL (c^^^x):=by unfold Er yL;rw [XF,XF]
def F8 {a:Nat} (c:a<4294967296) (hb:b<4294967296):a^^^b<4294967296:=Nat.xor_lt_two_pow (n:=32) c hb
theorem q0k (h:c<4294967296):mI c<4294967296:=by
 unfold mI
 split
 ·exact F8 (by omega) (by decide)
 ·omega
theorem zih (h:c<4294967296):yL c<4294967296:=by grind [q0k,yL]
def qut {x:Nat} (hc:c<4294967296) (a:x<256):Er c x<4294967296:=by
 rw [qus];exact zih (F8 hc (by omega))
def Mj:∀(l:List Nat) {c:Nat},c<4294967296->(∀x∈l,x<256)->zm c l<4294967296
 |[],_,h,_=>h
 |x::l,_,h,a=>Mj l (qut h (a x List.mem_cons_self)) (λy b=>a y (ab5 _ b))
def zbf (h:c<4294967296):c^^^4294967295=4294967295-c:=by
 apply agl
 intro i
 rw [show 4294967295-c=2^32- (c+1) by omega,afH,Nat.testBit_two_pow_sub_succ (by omega),show (4294967295:Nat)=2^32-1 from rfl,Nat.testBit_two_pow_sub_one]
 by_cases hi:i<32
 ·simp [hi]
 ·have:c.testBit i=false:=Nat.testBit_lt_two_pow (Nat.lt_of_lt_of_le h (adq (n:=2) (by decide) (by omega:32<=i)))
  simp [hi,this]
end
section
open Go.ChangeShapes Go.WideShapes
section
variable {H:Type} {enc:aiP×aiN->H} {P:aiO}
def WT (g:laidOutB P=true) {W w:aiM} (hb:Below W.heap.size W w):∀{ts:List aiP} {c:List aiN} {e:List (DataW H)} {ps:List MemPlace},
  (ts.all λt=>P.readableRec t&&decide (t<P.types.size))=true->agX enc P W 0 (λ_=>true) true ts c e ps->(∀x∈ps,x.block<W.heap.size)->
  agX enc P w 0 (λb=>decide (b<W.heap.size)) true ts c e ps
 |[],c,e,ps,_,h,_=>by
  obtain ⟨rfl,rfl,rfl⟩:=trodAll_nil h
  rfl
 |t::ts,c,e,ps,ht,h,a=>by
  obtain ⟨v,i,d,j,p,q,rfl,rfl,rfl,k,l⟩:=trodAll_cons h
  simp only [List.all_cons,abG,decide_eq_true_eq] at ht
  exact ⟨p,q,Below.trod g ht.1.1 ht.1.2 k hb (λx f=>a x (List.mem_append_left _ f)),WT g hb (by simpa using ht.2) l (λx f=>a x (List.mem_append_right _ f)),rfl⟩
def q30 {f:Func} {s:ChangeSpec} {args:Array aiN} {ds gs:List (DataW H)} {before:List MemPlace} {tb:aiP}
  (l:laidOutB P=true) (a:(f.params.toList.all λt=>P.readableRec t&&decide (t<P.types.size))=true)
  (hr:f.resultTypes= #[tb]) (b:P.underlying tb=some .bool) (j:s.vars=[])
  (c:DataW.Whole enc P f.params.toList s.vars false W args.toList ds gs before) (hs:s.fn H ds={results:=[.lit (.bool true)],args:=ds}) (hb:Below W.heap.size W w):
  s.post enc P f false true false false W args (.bool true) w:=by
 have g:∀x∈before,x.block<W.heap.size:=λp m=>c.lt p m
 have i:=c
 obtain ⟨p,q,n,k,e,o,r⟩:=c
 rw [j] at k
 obtain ⟨rfl,rfl⟩:=trodVars_none k
 rw [abM] at e
 subst e
 refine ⟨ds,[],before,[],before,[],i,?_,?_,?_,hb.frame _,λh=>by cases h⟩
 ·rw [abM,hs,hr]
  exact trodAll_mk1 (shut_bool b _)
 ·rw [abM,hs]
  exact WT l hb a n g
 ·rw [abM,hs,j]
  rfl
end
def FN:Tryz.prog.underlying 5=some (.int .u8):=by kernel_rfl
def za7:Tryz.prog.cellsOf 5=1:=by kernel_rfl
def q0f:Tryz.prog.cellsOf 110=2:=by kernel_rfl
section
variable {H:Type} {enc:aiP×aiN->H} {W:aiM} {b0:Nat} {v:aiN} {d:DataW H} {p:List MemPlace}
def WU {a:Int} (h:(ae4 .i64 a).wf=true):aX a:=by
 simpa [agz,aeP,aeQ,ad5,aex,aX] using h
def jo {a:Int} (h:(ae4 .u8 a).wf=true):0<=a/\a<=255:=by
 simpa [agz,aeP,aeQ,ad5,aex] using h
end
end
theorem Yz:∀(l:List Nat) (i a x m:Nat),(∀b∈l,b<256)->i<=9->nC i a l=(x,m,0)->
  ∃y,x=a+y*128^i/\(iL (10-i) y).map bJ=l.take (m-i)/\i<m/\(0<i->0<y)
 |[],i,a,x,m,_,_,h=>by simp [nC] at h
 | b :: r, i, a, x, m, e, hi, h => by
  have g:=e b (by simp)
  rw [nC] at h
  split at h
  ·simp at h
  ·rename_i p
   split at h
   ·simp at h
   ·rename_i q
    split at h
    ·rename_i c
     simp only [Prod.mk.injEq] at h
     obtain ⟨rfl,rfl,_⟩:=h
     refine ⟨b,rfl,?_,by omega,λ_=>by omega⟩
     obtain ⟨f,d⟩:∃f,10-i=f+1:=⟨9-i,by omega⟩
     rw [d,D9 f b c,show i+1-i=1 by omega]
     rfl
    ·rename_i c
     obtain ⟨y,s,j,t,n⟩:=Yz r (i+1) _ x m (λb g=>e b (by simp [g])) (by omega) h
     have u:=n (by omega)
     refine ⟨(b-128)+128*y,?_,?_,by omega,λ_=>by omega⟩
     ·grind
     ·obtain ⟨f,d⟩:∃f,10-i=f+1:=⟨9-i,by omega⟩
      rw [d,Ea f _ (by omega),show ((b-128)+128*y)%128=b-128 by omega,show ((b-128)+128*y)/128=y by omega]
      rw [show f=10- (i+1) by omega,acB,j]
      obtain ⟨k,o⟩:∃k,m-i=k+1:=⟨m-i-1,by omega⟩
      rw [o,List.take_succ_cons,show m- (i+1)=k by omega]
      congr 1
      show b-128+128=b
      omega
theorem QD {x:Nat} (a:∀b∈l,b<256) (h:aD l=(x,m,0)):ak x=l.take m:=by
 obtain ⟨y,c,d,e,_⟩:=Yz l 0 0 x m a (by omega) h
 grind [ak]
theorem YA:∀(j:Nat) (l xs:List Nat) (u:Nat),(∀b∈l,b<256)->aV j l=(xs,u,0)->xs.flatMap ak=l.take u/\abo xs=j/\(∀x∈xs,x<18446744073709551616)/\u<=abo l:=by intro x;induction x<;>grind [aV,aD,QD,FM,xJ]
def YB {e:Ev}:∀{i:Nat},i<7->i≠5->e.within i=true->e.iA i<=4294967295
 |0,_,_,h=>by simp only [Ev.within,decide_eq_true_eq] at h;show e.task<=_;omega
 |1,_,_,h=>by simp only [Ev.within,decide_eq_true_eq] at h;show e.group<=_;omega
 |2,_,_,h=>by simp only [Ev.within,decide_eq_true_eq] at h;show e.to<=_;omega
 |3,_,_,h=>by simp only [Ev.within,decide_eq_true_eq] at h;show e.weight<=_;omega
 |4,_,_,h=>by simp only [Ev.within,decide_eq_true_eq] at h;show e.ticks<=_;omega
 |5,_,a,_=>absurd rfl a
 |n+6,_,_,h=>by simp only [Ev.within,decide_eq_true_eq] at h;show e.got<=_;omega
theorem zb4 (o:Ev) (i x:Nat) (hi:i<7):(o.put i x).mask=if i=5 then x else o.mask:=by
 obtain rfl|rfl|rfl|rfl|rfl|rfl|rfl:i=0\/i=1\/i=2\/i=3\/i=4\/i=5\/i=6:=by omega
 all_goals rfl
theorem YC (x:Nat):∀(l:List (Nat×Nat)) (o:Ev),(∀p∈l,p.1<7)->(l.map (·.1)).Nodup->(5,x)∈l->(o.fill l).mask=x
 |[],_,_,_,h=>by simp at h
 | p :: l, o, c, b, h => by
  rw [acB,afD] at b
  rcases abY.1 h with rfl|h
  ·have d:=LP 5 (by omega) l (o.put 5 x) (λq a=>⟨c q (by simp [a]),λe=>b.1 (by rw [<-e];exact ab7.2 ⟨q,a,rfl⟩)⟩)
   have f:((o.fill ((5,x)::l)).mask:Int)=((o.put 5 x).mask:Int):=d
   grind [zb4]
  ·exact YC x l (o.put p.1 p.2) (λq a=>c q (by simp [a])) b.2 h
def zb5 (i:Nat) (h:i<=8):2^ (64-7*i)=128*2^ (64-7*(i+1)):=by
 rw [show 64-7*i=7+(64-7*(i+1)) by omega,Nat.pow_add]
def zb6 (a y i:Nat):a+(y%128+128-128)*128^i+y/128*128^ (i+1)=a+y*128^i:=by
 rw [agP,adr,afe,Nat.mul_comm (128^i) 128,<-Nat.mul_assoc,<-Nat.add_mul]
 congr 2
 omega
theorem YD:∀(f y i b:Nat) (a:List Nat),i+f=10->1<=f->y<2^ (64-7*i)->(0<i->0<y)->
  nC i b ((iL f y).map bJ++a)=(b+y*128^i,i+abo (iL f y),0)
 |0,_,_,_,_,_,h,_,_=>by omega
 | f + 1, y, i, b, a, hi, _, c, k => by
  have j:i=9->y<2:=λe=>by subst e;simpa using c
  by_cases h:y<128
  ·rw [D9 f y h]
   show nC i b (y::a)=_
   rw [nC,if_neg (by omega),if_neg (by omega),if_pos h]
   rfl
  ·rw [Ea f y (by omega)]
   show nC i b ((y%128+128)::((iL f (y/128)).map bJ++a))=_
   have d:i<=8:=by
    rcases ab6 i 9 with h|h
    ·omega
    ·have:=j (by omega);omega
   have g:y/128<2^ (64-7*(i+1)):=by
    rw [zb5 i d] at c
    exact Nat.div_lt_of_lt_mul c
   rw [nC,if_neg (by omega),if_neg (by omega),if_neg (by omega),YD f (y/128) (i+1) _ a (by omega) (by omega) g (λ_=>by omega),zb6]
   simp only [abV,Prod.mk.injEq,and_true,true_and]
   omega
theorem MF {y:Nat} (rest:List Nat) (hy:y<18446744073709551616):aD (ak y++rest)=(y,abo (ak y),0):=by grind [ak,YD,aD]
theorem MG:∀(xs a:List Nat),(∀x∈xs,x<18446744073709551616)->aV (abo xs) (xs.flatMap ak++a)=(xs,abo (xs.flatMap ak),0):=by intro x;induction x<;>grind [aV,MF]
theorem zm4 {a b:Ev} (h1:a.seq=b.seq) (d:a.time=b.time) (e:a.cpu=b.cpu) (f:a.kind=b.kind) (c:∀i,i<7->a.iA i=b.iA i):a=b:=by
 have g:a.task=b.task:=c 0 (by omega)
 have h:a.group=b.group:=c 1 (by omega)
 have j:a.to=b.to:=c 2 (by omega)
 have k:a.weight=b.weight:=c 3 (by omega)
 have l:a.ticks=b.ticks:=c 4 (by omega)
 have m:(a.mask:Int)=(b.mask:Int):=c 5 (by omega)
 have n:a.got=b.got:=c 6 (by omega)
 cases a
 cases b
 simp only at*
 simp_all
 omega
def wrap_small {x:Int} (a:0<=x) (h1:x<=4294967295):wrap64 ((x.toNat:Nat):Int)=x:=by
 rw [<-agj,agk];omega
def zb7 (e:Ev):∀i,i<7->e.base.iA i=0:=by
 intro i hi
 obtain rfl|rfl|rfl|rfl|rfl|rfl|rfl:i=0\/i=1\/i=2\/i=3\/i=4\/i=5\/i=6:=by omega
 all_goals rfl
theorem qu9 (h:e.check=0) (i:Nat) (hi:i<7) (a:i∉aB e.kind):e.iA i=0:=by grind [Ev.check,aB]
def q46 {b:Ev} (hc:e.check=0) (h1:b.seq=e.seq) (r:b.time=e.time) (s:b.cpu=e.cpu) (o:b.kind=e.kind):b.made e.vals=e:=by
 have d:=WL b e.vals
 have m:=(uW hc).2.1
 rw [ace] at m
 have q:abo e.vals=abo (aB e.kind):=by unfold Ev.vals;rw [abw]
 have c:∀p∈(aB e.kind).zip e.vals,p.1<7:=λp k=>BL _ _ (aeO k).1
 have j:(((aB e.kind).zip e.vals).map (·.1)).Nodup:=by rw [agG (by omega)];exact WM _
 have f:∀i∈aB e.kind,(i,(e.iA i).toNat)∈(aB e.kind).zip e.vals:=by
  intro i hi
  unfold Ev.vals
  have hz:∀l:List Nat,i∈l->(i,(e.iA i).toNat)∈l.zip (l.map λi=>(e.iA i).toNat):=by
   intro l
   induction l with
   |nil=>intro h;cases h
   | cons a l t =>
    intro h
    rcases abY.1 h with rfl|h
    ·simp
    ·simp only [acB,List.zip_cons_cons,abY]
     exact Or.inr (t h)
  exact hz _ hi
 refine zm4 (d.2.1.trans h1) (d.2.2.1.trans r) (d.2.2.2.trans s) (d.1.trans o) λi hi=>?_
 unfold Ev.made
 rw [o]
 by_cases g:i∈aB e.kind
 ·by_cases n:i=5
  ·subst n
   have:=YC _ _ b.base c j (f 5 g)
   show (((b.base.fill ((aB e.kind).zip e.vals)).mask:Nat):Int)=(e.mask:Int)
   rw [this]
   show (((e.mask:Int).toNat:Nat):Int)=_
   simp
  ·rw [Pt i _ n _ _ c j (f i g)]
   exact wrap_small (qc3 (m i g)) (YB hi n (m i g))
 ·rw [LP i hi _ _ (λp k=>⟨c p k,λh=>g (h▸ (aeO k).1)⟩),zb7 b i hi,qu9 hc i hi g]
def q47 (hc:e.check=0) (c:e.Ok):∀x∈e.vals,x<18446744073709551616:=by
 intro x d
 obtain ⟨i,hi,rfl⟩:=ab7.1 d
 have a:=(uW hc).2.1
 rw [ace] at a
 by_cases b:i=5
 ·subst b
  have:=c.mask
  show ((e.mask:Int)).toNat<_
  simpa using this
 ·have:=YB (BL _ _ hi) b (a i hi)
  have f:=qc3 (a i hi)
  show (e.iA i).toNat<_
  omega
def zb8 (hc:e.check=0):abo (aB e.kind)≠0:=by
 have:=(uW hc).1
 rcases qul e.kind with h|h|h|h|h|h|h|h|h|h|h
 any_goals (rw [h];decide)
 exact absurd h.2 (by rw [this];exact id)
structure Fit (b:Bs) (e:Ev):Prop where
 right:b.right=true
 check:e.check=0
 ok:e.Ok
 behind:b.behind e=true
theorem Fit.nums {b:Bs} (h:Fit b e):(∀x∈yG b e,x<18446744073709551616)/\abo (yG b e)=2+abo (aB e.kind)/\b.seq+(((e.seq-b.seq).toNat:Nat):Int)=e.seq/\b.time+(((e.time-b.time).toNat:Nat):Int)=e.time/\
  1<=b.seq/\0<=b.time/\e.seq<=281474976710656/\e.time<=281474976710656:=by
 have c:=h.right
 have d:=h.behind
 unfold Bs.right at c
 unfold Bs.behind at d
 simp only [decide_eq_true_eq] at c d
 obtain ⟨_,_,_,g1,f,g,i⟩:=uW h.check
 refine ⟨λx a=>?_,?_,by omega,by omega,by omega,by omega,by omega,by omega⟩
 ·unfold yG at a
  rcases abY.1 a with rfl|a
  ·omega
  ·rcases abY.1 a with rfl|a
   ·omega
   ·exact q47 h.check h.ok x a
 ·unfold yG Ev.vals
  simp only [abV,abw]
  omega
def q48 {b:Bs} (h:Fit b e) (rest:List Nat):bD b e.cpu (zk b e++rest)=(e,abo (zk b e),0):=by
 obtain ⟨a,c,d,f,j,k,l,m⟩:=h.nums
 unfold bD zk
 rw [if_neg (by simp [h.right]),if_neg (by simp)]
 simp only [aei,agm,agn,agY]
 rw [if_neg (zb8 h.check),<-c,MG _ rest a]
 unfold tH
 have hm:(b.ev e.cpu e.kind (e.seq-b.seq).toNat (e.time-b.time).toNat).made e.vals=e:=
  q46 h.check d f rfl rfl
 have g:abo e.vals=abo (aB e.kind):=by unfold Ev.vals;rw [abw]
 have i:(b.ev e.cpu e.kind (e.seq-b.seq).toNat (e.time-b.time).toNat).dx e.vals=0:=by
  unfold Ev.dx
  rw [if_neg (by show ¬(e.kind=0\/10<e.kind);rw [(uW h.check).1];exact id),if_neg (by rw [g];show ¬abo (aB e.kind)≠abo (aB e.kind);omega),hm,if_neg (by rw [h.check];omega)]
 simp only [yG,agm,List.getD_cons_succ,agn,agY,ne_eq,not_true_eq_false,if_false]
 rw [if_neg (by omega),i,if_neg (by omega),hm]
 simp only [abV,Prod.mk.injEq,true_and,and_true]
 omega
def Chain (cpu:Nat):Option Ev->Bs->List Ev->Prop
 |_,_,[]=>True
 |p,b,e::r=>Fit b e/\e.cpu=cpu/\(∀q,p=some q->q.seq<e.seq)/\Chain cpu (some e) e.at r
theorem MH (hc:e.check=0):e.at.right=true:=by simp_all [Bs.right,Ev.at,uW]
def YE {cpu:Nat}:∀(es:List Ev) (p:Option Ev) (b:Bs) (a:List Nat),Chain cpu p b es->q5 cpu (abo es) b p (recs b es++a)=(es,abo (recs b es),0)
 |[],_,_,_,_=>rfl
 | e :: r, p, b, a, h => by
  obtain ⟨c,d,f,g⟩:=h
  subst d
  have i:p.any (λq=>decide (e.seq=q.seq))=false:=by
   cases p with
   |none=>rfl
   |some q=>have:=f q rfl;simp;omega
  rw [abV,q5,recs,List.append_assoc,q48 c]
  simp only [List.drop_left,ne_eq,not_true_eq_false,if_false,i,Bool.false_eq_true]
  rw [YE r (some e) e.at a g]
  simp
def YF {cpu:Nat}:∀(es:List Ev) (p:Option Ev) (b:Bs) (i:Nat),Chain cpu p b es->(∀q,p=some q->b=q.at/\q.cpu=cpu)->iM p i es=(-1,0)
 |[],_,_,_,_,_=>rfl
 | e :: r, p, b, i, h, j => by
  obtain ⟨f,g,k,l⟩:=h
  rw [iM,if_neg (by simp [f.check]),if_neg]
  ·exact YF r (some e) e.at (i+1) l (λq a=>by injection a with a;subst a;exact ⟨rfl,g⟩)
  ·cases p with
   |none=>simp
   | some q =>
    obtain ⟨rfl,hc⟩:=j q rfl
    have c:=f.behind
    unfold Bs.behind Ev.at at c
    simp only [decide_eq_true_eq] at c
    have:=k q rfl
    have d:e.after q=true:=by
     unfold Ev.after
     rw [decide_eq_true_eq]
     exact ⟨by rw [g,hc],this,c.2⟩
    simp [d]
def YG {es:List Ev} {b:Bs} (hb:b.right=true) (h:Chain cpu none b es):jg es=(-1,0)/\r9 b es=0/\uY b es=recs b es:=by
 have a:jg es=(-1,0):=YF es none b 0 h (λq d=>by cases d)
 have c:r9 b es=0:=by
  unfold r9
  have f:es.head?.all b.behind=true:=by
   cases es with
   |nil=>rfl
   |cons e r=>simpa using h.1.behind
  rw [a,if_neg (by simp),if_pos ⟨hb,f⟩]
 refine ⟨a,c,?_⟩
 unfold uY
 rw [if_pos c]
theorem q49 {es:List Ev} {b:Bs} (hb:b.right=true) (h:Chain cpu none b es) (rest:List Nat):gW b cpu (abo es:Int) (recs b es++rest)=(es,abo (recs b es),0):=by simp_all [YE,gW]
structure Sm where
 kind:Nat
 cpu:Nat
 seq:Nat
 time:Nat
 task:Nat
 group:Nat
 to:Nat
 weight:Nat
 ticks:Nat
 got:Nat
 mask:Nat
structure Sm.Ok (x:Sm):Prop where
 kind:x.kind<256
 cpu:x.cpu<256
 seq:x.seq<4294967296
 time:x.time<4294967296
 task:x.task<4294967296
 group:x.group<4294967296
 to:x.to<4294967296
 weight:x.weight<4294967296
 ticks:x.ticks<4294967296
 got:x.got<4294967296
 mask:x.mask<18446744073709551616
def Sm.cells (x:Sm):Array aiN:= #[.int .u8 (x.kind:Int),.int .u8 (x.cpu:Int),.int .u32 (x.seq:Int),.int .u32 (x.time:Int),.int .u32 (x.task:Int),.int .u32 (x.group:Int),.int .u32 (x.to:Int),.int .u32 (x.weight:Int),.int .u32 (x.ticks:Int),.int .u32 (x.got:Int),.int .u64 (x.mask:Int)]
def Sm.ev (x:Sm):Ev where
 seq:=((1+x.seq:Nat):Int)
 time:=(x.time:Int)
 cpu:=x.cpu%64
 kind:=1+x.kind%10
 task:=if x.kind%10=0\/x.kind%10=1\/x.kind%10=6\/x.kind%10=8 then ((1+x.task%65535:Nat):Int) else 0
 group:=if x.kind%10=0 then ((x.group%256:Nat):Int) else if x.kind%10=7 then ((1+x.group%255:Nat):Int) else 0
 to:=if x.kind%10=8 then (((x.cpu%64+1+x.to%63)%64:Nat):Int) else 0
 weight:=if x.kind%10=0\/x.kind%10=6\/x.kind%10=7 then ((1+x.weight%65536:Nat):Int) else 0
 ticks:=if x.kind%10=4 then ((max x.ticks 1:Nat):Int) else 0
 mask:=if x.kind%10=0 then x.mask|||2^ (x.cpu%64) else 0
 got:=if x.kind%10=4\/x.kind%10=5 then ((x.got%65535:Nat):Int) else if x.kind%10=2\/x.kind%10=3\/x.kind%10=9 then ((1+x.got%65535:Nat):Int) else 0
def Ev.moved (e:Ev) (s t:Int):Ev:={e with seq:=s,time:=t}
def zi5 (m c:Nat):(m|||2^c)/2^c%2=1:=by
 have h:(m|||2^c).testBit c=true:=by rw [Nat.testBit_or,Nat.testBit_two_pow_self,Bool.or_true]
 rw [Nat.testBit_eq_decide_div_mod_eq,decide_eq_true_eq] at h
 exact h
def G8 (hm:m<18446744073709551616) (hc:c<64):m|||2^c<18446744073709551616:=by
 have:m|||2^c<2^64:=Nat.or_lt_two_pow (by omega) (Nat.pow_lt_pow_right (by omega) hc)
 omega
theorem Sm.check {x:Sm} (h:x.Ok) {s t:Int} (hs:1<=s/\s<=281474976710656) (ht:0<=t/\t<=281474976710656):(x.ev.moved s t).check=0:=by
 have b:=zi5 x.mask (x.cpu%64)
 have hc:x.cpu%64<64:=by omega
 have c:=h.ticks
 have a:x.kind%10=0\/x.kind%10=1\/x.kind%10=2\/x.kind%10=3\/x.kind%10=4\/x.kind%10=5\/x.kind%10=6\/x.kind%10=7\/x.kind%10=8\/x.kind%10=9:=by omega
 unfold Ev.check
 rcases a with a|a|a|a|a|a|a|a|a|a
 all_goals
  rw [if_neg (by simp [Ev.moved,Sm.ev,a]),if_neg (by simp [Ev.moved,Sm.ev];omega),if_neg,if_neg]
  ·simp [Ev.moved,Sm.ev,a,aB,Ev.iA,aco,List.range.loop]
  ·simp [Ev.moved,Sm.ev,a,aB,Ev.within,b]
   try omega
theorem Sm.ok {x:Sm} (h:x.Ok) {s t:Int} (hs:aX s) (ht:aX t):(x.ev.moved s t).Ok:=by
 have:=h.ticks
 have hm:=G8 (c:=x.cpu%64) h.mask (by omega)
 refine ⟨hs,ht,?_,?_,?_,?_,?_,?_,?_,?_,?_⟩
 all_goals (simp only [Ev.moved,Sm.ev,aX])
 all_goals (repeat' split)
 all_goals first|exact hm|omega
def Bs.based (b:Bs):Bs:=⟨1+b.seq%1099511627776,b.time%1099511627776⟩
def sI (k:Nat):Nat:=if k/16%4=0 then 1 else if k/16%4=1 then 3 else if k/16%4=2 then 200 else 4294967296
def stepT (k:Nat):Nat:=if k/64=0 then 1 else if k/64=1 then 300 else if k/64=2 then 100000 else 4294967296
def Bs.step (a:Bs) (x:Sm):Bs:=⟨a.seq+((1+x.seq%sI x.kind:Nat):Int),a.time+((x.time%stepT x.kind:Nat):Int)⟩
def vO (cpu:Nat):Bs->List Sm->List Ev
 |_,[]=>[]
 |a,x::r=>(({x with cpu:=cpu}:Sm).ev.moved (a.step x).seq (a.step x).time)::vO cpu (a.step x) r
def Bs.start (b:Bs):Bs:=⟨b.based.seq-1,b.based.time⟩
def lX (cpu:Nat) (b:Bs) (l:List Sm):List Ev:=vO cpu b.start (l.take 200)
def Rh (b:Bs):b.based.right=true/\1<=b.based.seq/\b.based.seq<=1099511627776/\0<=b.based.time/\b.based.time<1099511627776:=by
 have a:1<=b.based.seq/\b.based.seq<=1099511627776/\0<=b.based.time/\b.based.time<1099511627776:=by
  show 1<=1+b.seq%1099511627776/\1+b.seq%1099511627776<=1099511627776/\0<=b.time%1099511627776/\b.time%1099511627776<1099511627776
  omega
 refine ⟨?_,a⟩
 unfold Bs.right
 rw [decide_eq_true_eq]
 omega
def qvk (a:Bs) {x:Sm} (h:x.Ok):a.seq+1<=(a.step x).seq/\(a.step x).seq<=a.seq+4294967296/\a.time<=(a.step x).time/\(a.step x).time<=a.time+4294967296:=by
 have b:x.seq%sI x.kind<=x.seq:=Nat.mod_le _ _
 have c:x.time%stepT x.kind<=x.time:=Nat.mod_le _ _
 have:=h.seq
 have:=h.time
 show a.seq+1<=a.seq+((1+x.seq%sI x.kind:Nat):Int)/\a.seq+((1+x.seq%sI x.kind:Nat):Int)<=a.seq+4294967296/\a.time<=a.time+((x.time%stepT x.kind:Nat):Int)/\a.time+((x.time%stepT x.kind:Nat):Int)<=a.time+4294967296
 omega
def Zl {cpu:Nat} (d:cpu<256):∀(l:List Sm) (p:Option Ev) (b a:Bs),(∀x∈l,x.Ok)->b.right=true->b.seq<=a.seq+1->b.time<=a.time->(∀q,p=some q->q.seq<=a.seq)->0<=a.seq->0<=a.time->
  a.seq+4294967296*(abo l:Int)<=281474976710656->a.time+4294967296*(abo l:Int)<=281474976710656->Chain (cpu%64) p b (vO cpu a l)
 |[],_,_,_,_,_,_,_,_,_,_,_,_=>trivial
 | x :: r, p, b, a, g, h, n, o, i, u, v, j, k => by
  have c:=g x (by simp)
  have e:({x with cpu:=cpu}:Sm).Ok:=⟨c.kind,d,c.seq,c.time,c.task,c.group,c.to,c.weight,c.ticks,c.got,c.mask⟩
  obtain ⟨s1,w,z,A⟩:=qvk a c
  rw [abV] at j k
  have hc:=Sm.check e (s:=(a.step x).seq) (t:=(a.step x).time) (by omega) (by omega)
  refine ⟨⟨h,hc,Sm.ok e ⟨by omega,by omega⟩ ⟨by omega,by omega⟩,?_⟩,rfl,?_,?_⟩
  ·unfold Bs.behind
   rw [decide_eq_true_eq]
   show b.seq<=(a.step x).seq/\b.time<=(a.step x).time
   omega
  ·intro q f
   have:=i q f
   show q.seq<(a.step x).seq
   omega
  ·refine Zl d r _ _ _ (λy m=>g y (by simp [m])) (MH hc) ?_ ?_ ?_ (by omega) (by omega) (by omega) (by omega)
   ·show (a.step x).seq<=(a.step x).seq+1;omega
   ·exact af4 _
   ·intro q f
    injection f with f
    subst f
    exact af4 _
def qvl (a:cpu<256) (b:Bs) {l:List Sm} (d:∀x∈l,x.Ok):Chain (cpu%64) none b.based (lX cpu b l):=by
 obtain ⟨e,i,j,f,k⟩:=Rh b
 have c:abo (l.take 200)<=200:=by rw [abx];omega
 refine Zl a _ none b.based b.start (λx g=>d x (List.mem_of_mem_take g)) e ?_ (af4 _) (λq h=>by cases h) ?_ f ?_ ?_
 ·show b.based.seq<=b.based.seq-1+1;omega
 ·show 0<=b.based.seq-1;omega
 ·show b.based.seq-1+4294967296*(abo (l.take 200):Int)<=_;omega
 ·show b.based.time+4294967296*(abo (l.take 200):Int)<=_;omega
theorem q02 (cpu:Nat):∀(l:List Sm) (a:Bs),abo (vO cpu a l)=abo l:=by intro x;induction x<;>grind [vO]
def gH (x n:Int):Int:=if n<1 then 0 else x%n
def q5r (x n:Int) (c:1<=n):(afO x n<0->afO x n+n=x%n)/\(0<=afO x n->afO x n=x%n):=by
 have a:= @Int.tmod_eq_emod x n
 have d:=Int.emod_nonneg x (show n≠0 by omega)
 have e:=Int.emod_lt_of_pos x (show 0<n by omega)
 rw [a]
 have b:(n.natAbs:Int)=n:=Int.natAbs_of_nonneg (by omega)
 split
 ·simp;omega
 ·rw [b];omega
set_option maxHeartbeats 400000 in
theorem Zm (x n:Int) (_hx:aX x) (d:aX n) (w:aiM):Calls Tryz.prog 39 #[.int .i64 x,.int .i64 n] w λe f=>e= .returned (.int .i64 (gH x n))/\f=w:=by
 by_cases h:n<1
 ·have g:decide (n<1)=true:=by simpa using h
  have a:gH x n=0:=if_pos h
  rw [a]
  clear a
  go_enter Tryz.func39,Tryz.ntmps39
  go_wp2
  go_ret
  exact ⟨rfl,rfl⟩
 ·have g:decide (n<1)=false:=by simpa using h
  have a:gH x n=x%n:=if_neg h
  rw [a]
  clear a
  have i:=hide (q5r x n (by omega))
  go_enter Tryz.func39,Tryz.ntmps39
  go_wp2
  all_goals
   rename_i b
   have c:=i.out
   have k:=Int.emod_nonneg x (show n≠0 by omega)
   have l:=Int.emod_lt_of_pos x (show 0<n by omega)
   have j:=d.2
   go_ret
   refine ⟨?_,rfl⟩
   first
    |(show Ending.returned (.int .i64 (Int.tmod x n))=_;rw [c.2 b])
    |(show Ending.returned (.int .i64 (wrap64 (Int.tmod x n+n)))=_;rw [c.1 b,<-IntWalk.i64_left,IntKind.wrap_i64];congr 2;omega)
structure ug (b:Bs) (w:aiM) (r:aiQ) (w':aiM):Prop where
 ret:r= .returned (.agg b.based.cells)
 below:Below w.heap.size w w'
set_option maxRecDepth 100000 in
set_option maxHeartbeats 400000 in
theorem q5s (b:Bs) (hb:b.Ok) (w:aiM):Calls Tryz.prog 158 #[.agg b.cells] w (ug b w):=by
 have f:=hide (λx m w=>Zm x 1099511627776 m ⟨by omega,by omega⟩ w)
 have hs:gH b.seq 1099511627776=b.seq%1099511627776:=if_neg (by omega)
 have ht:gH b.time 1099511627776=b.time%1099511627776:=if_neg (by omega)
 have j:=hide hb.seq
 have k:=hide hb.time
 have n:0<=b.seq%1099511627776:=by omega
 have o:b.seq%1099511627776<1099511627776:=by omega
 obtain ⟨q,g⟩:∃q,b.seq%1099511627776=q:=⟨_,rfl⟩
 obtain ⟨p,h⟩:∃q,b.time%1099511627776=q:=⟨_,rfl⟩
 have l:b.based.cells= #[.int .i64 (1+q),.int .i64 p]:=by rw [<-g,<-h];rfl
 rw [g] at n o hs
 rw [h] at ht
 have s:=hide l
 have a:=hide (λW=>(f.out b.seq j.out W))
 rw [hs] at a
 have c:=hide (λW=>(f.out b.time k.out W))
 rw [ht] at c
 simp only [Bs.cells]
 obtain ⟨u,d⟩:∃q,b.seq=q:=⟨_,rfl⟩
 obtain ⟨y,e⟩:∃q,b.time=q:=⟨_,rfl⟩
 rw [d] at a⊢
 rw [e] at c⊢
 clear g h hs ht d e l f j k
 go_enter Tryz.func158,Tryz.ntmps158
 go_wp2
 go_region_with (first
  |(go_at_call 39;with_reducible refine (a.out _).mono ?_;rintro r t ⟨rfl,rfl⟩)
  |(go_at_call 39;with_reducible refine (c.out _).mono ?_;rintro r t ⟨rfl,rfl⟩))
 all_goals
  go_wp2
  refine bodyPost_ret (v:= .agg #[.int .i64 (1+q),.int .i64 p]) ?g1 rfl ?g2
  case g2=>exact ⟨by rw [s.out],(((Below.refl _ _).alloc (Nat.le_refl _) _).alloc (by simp) _).drew⟩
  case g1=>
   have i:IntKind.i64.wrap (1+q)=1+q:=by rw [IntKind.wrap_i64];omega
   rw [i]
   simp [results,Tryz.results158,go_sem]
section
variable {P:aiO} {ops:Array aiS} {Q:aiV->Act->aiM->Prop} {l:Nat} {md:Region.Mode}
def LU (ops:Array aiS):Bool:=ops.all λo=>match o.op with| .defer _=>false|_=>true
def WV (h:LU ops=true) (hi:ops[i]?=some o):∀c,o.op≠ .defer c:=by
 intro c hc
 have hm:o∈ops:=Array.mem_of_getElem? hi
 have:=(Array.all_eq_true_iff_forall_mem.1 h) o hm
 rw [hc] at this
 cases this
def WW {K K':Act->aiM->Prop} (k:∀c,o.op≠ .defer c) (m:¬LetsOut Q) (b:∀a w,K a w->K' a w) (h:o.wp P a w K Q\/(o.asks P a w/\LetsOut Q)):o.wpIn (Fence.wide.inRound l) 0 P a w K' Q:=by
 rcases h with h|h
 ·refine ⟨λ_ _=>trivial,?_⟩
  rw [show (Fence.wide.inRound l).round=some l from rfl,Oper.semAt_some l _ _ k]
  unfold acS at h
  generalize (execOp a.eval o).run P w=r at h
  cases r with
  | ok x i =>
   cases x with
   |value v=>exact b _ _ h
   |skip=>exact b _ _ h
   |defer d=>exact b _ _ h
   |enter f args=>
    refine ⟨λh=>by simp [acf,agZ] at h,?_⟩
    show CallsIn acf 0 P f args i _
    refine (callsIn_wide.2 h).mono ?_
    intro e g j
    cases e with
    |returned v=>exact b _ _ j
    |panicked c=>exact j
    |outgrown=>exact j
   |row r args=>
    refine ⟨λh=>by simp [acf,agZ] at h,λc n _=>?_⟩
    obtain ⟨v,g,p,q⟩:=(h:Rows P r args i _) c n
    exact ⟨v,g,b _ _ p,stepsIn_wide.2 q⟩
   |_=>exact (h:False).elim
  |halt s i=>
   cases s with
   |panic v=>exact h
   |_=>exact (h:False).elim
 ·exact absurd h.2 m
def LV (d:LU ops=true) (e:¬LetsOut Q):∀(b:Nat) (listed:Array Bool) (a:Act) (w:aiM),wpAny P md ops Q b listed a w->wpAnyIn (Fence.wide.inRound l) 0 P md ops Q b listed a w
 |0,_,_,_,h=>h
 | b + 1, listed, a, w, h => by
  refine ⟨h.1,λi hi=>?_⟩
  have c:=h.2 i hi
  unfold wpOp at c
  unfold wpOpIn
  split at c
  ·rename_i f
   rw [f]
   exact LV d e b _ _ _ c
  ·rename_i o f
   rw [f]
   show if acY o (yielded ops a.tmps)=true then _ else _
   split at c
   ·rename_i g
    rw [if_pos g]
    exact WW (WV d f) e (λa w h=>LV d e b _ a w h) c
   ·rename_i g
    rw [if_neg g]
    exact ⟨λ_ _=>trivial,LV d e b _ _ _ c⟩
end
def look (σ:List (Nat×aiN)):aiR->Option aiN
 | .tmp t=>σ.lookup t
 | .const v=>some v
 | .global g=>some (.pointer (some ⟨g,0,none⟩))
 | .func f=>some (.func (.func f) #[] #[])
structure Fr (a:Act) (n:Nat) (D:List aiU) (σ:List (Nat×aiN)):Prop where
 size:a.tmps.size=n
 defers:a.defers=D
 slot:∀t v,σ.lookup t=some v->a.tmps.getD t undef=v
section
variable {a:Act} {n:Nat} {D:List aiU} {σ σ':List (Nat×aiN)}
def Fr.eval (h:Fr a n D σ) {x:aiR} {v:aiN} (b:look σ x=some v):a.eval x=v:=by
 cases x with
 |tmp t=>exact h.slot t v b
 |const u=>injection b
 |global g=>injection b
 |func f=>injection b
theorem Fr.put (h:Fr a n D σ) {d:Nat} (c:d<n) (v:aiN):Fr (a.put (some d) v) n D ((d,v)::σ):=by
 refine ⟨by simpa [ahm] using h.size,h.defers,λt u b=>?_⟩
 have hs:=h.size
 by_cases e:t=d
 ·subst e
  simp only [acR,beq_self_eq_true,Option.some.injEq] at b
  subst b
  simp [ahm,hs,c]
 ·have f:(t==d)=false:=by simpa using e
  simp only [acR,f] at b
  have g:=h.slot t u b
  simp only [ahm,acQ,Array.getElem?_setIfInBounds_ne (agQ e)]
  simpa using g
theorem Fr.sub (h:Fr a n D σ) (hs:σ'.map (λp=>σ.lookup p.1)=σ'.map (λp=>some p.2)):Fr a n D σ':=by
 refine ⟨h.size,h.defers,λt v b=>h.slot t v ?_⟩
 induction σ' with
 |nil=>cases b
 | cons p r d =>
  simp only [acB,List.cons.injEq] at hs
  obtain ⟨k,u⟩:=p
  simp only [acR] at b
  split at b
  ·rename_i c
   rw [beq_iff_eq] at c
   subst c
   rw [hs.1,<-b]
  ·exact d hs.2 b
end
def eB (ops:Array aiS) (σ:List (Nat×aiN)) (o:aiS):Option Bool:=
 match o.guard with
 |none=>some true
 | some (j, b) => match (ops[j]?).bind (·.dst) with
  |none=>none
  |some t=>match σ.lookup t with
   |some (.bool c)=>some (c==b)
   |some (.tuple _)=>some false
   |_=>none
def qum:undef= .tuple #[]:=rfl
def Ee {D:List aiU} {σ:List (Nat×aiN)} {ops:Array aiS} {c:Bool} (h:Fr a n D σ) (d:eB ops σ o=some c):acY o (yielded ops a.tmps)=c:=by
 unfold eB at d
 unfold acY
 cases hg:o.guard with
 |none=>rw [hg] at d;simpa using d
 | some e =>
  obtain ⟨j,b⟩:=e
  rw [hg] at d
  simp only at d⊢
  cases ht:(ops[j]?).bind (·.dst) with
  |none=>rw [ht] at d;cases d
  | some t =>
   rw [ht] at d
   simp only at d
   unfold yielded
   rw [ht]
   simp only [Option.bind_some]
   cases hl:σ.lookup t with
   |none=>rw [hl] at d;cases d
   | some v =>
    rw [hl] at d
    have hs:=h.slot t v hl
    rw [acQ] at hs
    cases hx:a.tmps[t]? with
    |none=>
     rw [hx] at hs
     simp only [Option.getD_none] at hs
     subst hs
     rw [qum] at d
     simp only [Option.some.injEq] at d
     subst d
     rfl
    |some u=>
     rw [hx] at hs
     simp only [Option.getD_some] at hs
     subst hs
     cases u<;>simp only [Option.some.injEq,reduceCtorEq] at d
     ·subst d;rfl
     ·subst d;rfl
def Ef (op:BinOp) (k:aiT) (a b:Int):Option aiN:=
 match op with
 | .add=>some (.int k (k.wrap (a+b)))
 | .sub=>some (.int k (k.wrap (a-b)))
 | .mul=>some (.int k (k.wrap (a*b)))
 | .quo=>if b=0 then none else some (.int k (k.wrap (a.tdiv b)))
 | .rem=>if b=0 then none else some (.int k (a.tmod b))
 | .and=>some (.int k (k.wrap (ab0 k.bits a&&&ab0 k.bits b).toNat))
 | .or=>some (.int k (k.wrap (ab0 k.bits a|||ab0 k.bits b).toNat))
 | .xor=>some (.int k (k.wrap (ab0 k.bits a^^^ab0 k.bits b).toNat))
 | .eql=>some (.bool (a==b))
 | .neq=>some (.bool (a !=b))
 | .lss=>some (.bool (a<b))
 | .leq=>some (.bool (a<=b))
 | .gtr=>some (.bool (a>b))
 | .geq=>some (.bool (a>=b))
 |_=>none
def tJ (op:BinOp):aiN->aiN->Option aiN
 | .int k a,.int c b=>match op with
  | .shl=>if b<0 then none else some (.int k (k.wrap (a*2^ (min b.toNat k.bits))))
  | .shr=>if b<0 then none else some (.int k (a.fdiv (2^ (min b.toNat k.bits))))
  |_=>if k=c then Ef op k a b else none
 | .string a,.string b=>match op with
  | .eql=>some (.bool (a.toList==b.toList))
  | .neq=>some (.bool !(a.toList==b.toList))
  |_=>none
 |_,_=>none
def FP {P : aiO} {op : BinOp} {x y v : aiN} (h : tJ op x y = some v) (t : aiP) (w : aiM) : (binOp op t x y).run P w = .ok v w := by
  unfold tJ at h
  split at h
  · split at h
    · split at h
      · cases h
      · rename_i b;injection h with h;subst h;simp [binOp,Op.shift,b]
    · split at h
      · cases h
      · rename_i b;injection h with h;subst h;simp [binOp,Op.shift,b]
    · split at h
      · rename_i c
        subst c
        unfold Ef at h
        split at h<;>first
          |(injection h with h;subst h;simp [binOp,Op.intArith,Op.intBits,Op.intCmp];done)
          | (split at h
             · cases h
             · rename_i b;injection h with h;subst h;simp [binOp,Op.intDiv,b])
          |cases h
      · cases h
  · split at h
    · injection h with h;subst h;simp [binOp,Op.stringOp]
    · injection h with h;subst h;simp [binOp,Op.stringOp]
    · cases h
  · cases h
def Eh:aiN->Bool
 | .agg _=>false
 | .nilIface=>false
 |_=>true
def xK {P:aiO} (op:BinOp) (t:aiP) (x y:aiR) {a b:aiN} (c:Eh a=true) (w:aiM):(eqGuard op t x y a b).run P w= .ok () w:=by
 unfold eqGuard
 cases a<;>first|exact absurd c (by decide)|(split<;>simp;done)|exact absurd c (by simp [Eh])
def Ei (P:aiO) (s f:Nat):Option Nat:=
 match P.underlying s with
 | some (.struct c) => match c[f]? with
  |some b=>match P.info? b.type with
   |some i=>if i.size=0 then none else some b.offset
   |none=>none
  |none=>none
 |_=>none
def qrn {s f off:Nat} (h:Ei P s f=some off) (a:Addr) (w:aiM):(ag0 s (.pointer (some a)) f).run P w= .ok (.pointer (some (a.add off))) w:=by
 unfold Ei at h
 split at h
 ·rename_i d b
  split at h
  ·rename_i e c
   split at h
   ·rename_i i hi
    split at h
    ·cases h
    ·rename_i hz
     injection h with h;subst h
     simp [ag0,run_underlying b,c,aek,fieldPlace,sizeOf,typeInfo,hi,hz]
   ·cases h
  ·cases h
 ·cases h
def sj (P:aiO) (σ:List (Nat×aiN)):Op->Option aiN
 | .move x=>look σ x
 | .assign x=>look σ x
 | .pick c a b=>match look σ c with
  |some (.bool true)=>look σ a
  |some (.bool false)=>look σ b
  |_=>none
 | .extract t i=>match look σ t with
  |some (.tuple g)=>g[i]?
  |_=>none
 | .unOp .not _ x=>match look σ x with
  |some (.bool b)=>some (.bool !b)
  |_=>none
 | .binOp op _ x y _=>match look σ x,look σ y with
  |some a,some b=>if Eh a then tJ op a b else none
  |_,_=>none
 | .convert d e x=>match P.underlying d,P.underlying e,look σ x with
  |some _,some (.int k),some (.int _ m)=>some (.int k (k.wrap m))
  |_,_,_=>none
 | .fieldAddr s x f=>match look σ x,Ei P s f with
  |some (.pointer (some a)),some off=>some (.pointer (some (a.add off)))
  |_,_=>none
 |_=>none
def WX {D:List aiU} {σ:List (Nat×aiN)} (h:Fr a n D σ) {o:aiS} {v:aiN} (e:sj P σ o.op=some v) (w:aiM):(execOp a.eval o).run P w= .ok (.value v) w:=by
 unfold execOp
 unfold sj at e
 split at e
 ·rename_i x d;simp only [d,h.eval e];rfl
 ·rename_i x d;simp only [d,h.eval e];rfl
 ·rename_i c x y d
  split at e
  ·rename_i hc;simp only [d,h.eval hc,h.eval e];rfl
  ·rename_i hc;simp only [d,h.eval hc,h.eval e];rfl
  ·cases e
 ·rename_i t i d
  split at e
  ·rename_i C ht;simp only [d,h.eval ht,Instr.extract,e];rfl
  ·cases e
 ·rename_i t x d
  split at e
  ·rename_i b g;injection e with e;subst e;simp only [d,h.eval g,Op.unary];rfl
  ·cases e
 ·rename_i op t x y u d
  split at e
  ·rename_i p q g j
   split at e
   ·rename_i l
    simp [d,h.eval g,h.eval j,xK op t x y l,FP e t]
   ·cases e
  ·cases e
 ·rename_i r z x d
  split at e
  ·rename_i E k F m hs A g
   injection e with e;subst e
   simp [d,h.eval g,convert,run_underlying hs,run_underlying A,Conv.intToInt]
  ·cases e
 ·rename_i s x f d
  split at e
  ·rename_i G off g B
   injection e with e;subst e
   simp [d,h.eval g,qrn B]
  ·cases e
 ·cases e
abbrev vI (x:Int):aiN:= .int .i64 x
abbrev vB (x:Int):aiN:= .int .u8 x
abbrev vQ (x:Int):aiN:= .int .u64 x
abbrev vW (x:Int):aiN:= .int .u32 x
abbrev vP (g o:Nat):aiN:= .pointer (some ⟨g,o,none⟩)
abbrev vS (g n c:Nat):aiN:= .slice (some ⟨g,0,none⟩) n c
abbrev vN:aiN:= .slice none 0 0
theorem om {p:Prop} (h:p:=by omega):p:=h
theorem kr {p:Prop} (h:p:=by kernel_rfl):p:=h
theorem de {p:Prop} (h:p:=by decide):p:=h
inductive aiX
 |blk (g:Nat) (cs:Array aiN) (t:aiP)
 |row (v:aiN) (n:Nat) (xs:List aiN) (e:aiP) (size:Nat)
 |obj (g:Nat) (o:Obj)
abbrev abl {α:Type} (A:aiW) (l:List α) (c:Nat):aiN:= .slice A (abo l) c
abbrev abm {α:Type} (A:aiW) (l:List α) (c:Nat) (f:α->aiN) (e s:Nat):aiX:= .row (.slice A (abo l) c) (abo l) (l.map f) e s
abbrev abn {α:Type} (A:aiW) (l:List α) (c:Nat) (f:α->List aiN) (e s:Nat):aiX:= .row (.slice A (abo l) c) (abo l) (l.flatMap f) e s
def aiX.block:aiX->Option Nat
 | .obj g _=>some g
 | .blk g _ _=>some g
 | .row v _ _ _ _=>v.ownBlock
def aiX.holds (base:Nat) (w:aiM):aiX->Prop
 | .obj g o=>base<=g/\w.heap[g]?=some o
 | .blk g a t=>base<=g/\w.heap[g]?=some (.cells a t (0,0))
 | .row v n xs e size=>w.ownsRow base e size v n xs
def aiX.apart (f g:aiX):Prop:=∀x,f.block=some x->g.block≠some x
structure Mem (W w:aiM) (fs:List aiX):Prop where
 below:Below W.heap.size W w
 holds:∀f∈fs,f.holds W.heap.size w
 apart:fs.Pairwise aiX.apart
variable {f:aiX}
def aiX.apart.symm {g:aiX} (h:f.apart g):g.apart f:=λx a b=>h x b a
def Py {base:Nat} {e:aiP} {size:Nat} {v:aiN} (h:w.ownsRow base e size v n xs) {g:Nat} (b:v.ownBlock=some g):base<=g/\g<w.heap.size:=by
 rcases h.2 with ⟨rfl,_⟩|⟨d,cap,cur,rfl,c,a,_⟩
 ·cases b
 ·cases b;exact ⟨c,z8 a⟩
theorem aiX.holds.lt {base:Nat} (h:f.holds base w) {g:Nat} (a:f.block=some g):base<=g/\g<w.heap.size:=by
 cases f with
 |blk b c t=>injection a with a;subst a;exact ⟨h.1,z8 h.2⟩
 |row v n xs e size=>exact Py h a
 |obj b o=>injection a with a;subst a;exact ⟨h.1,z8 h.2⟩
def aiX.holds.keep {base:Nat} {w':aiM} (h:f.holds base w) (hk:∀g,f.block=some g->w'.heap[g]?=w.heap[g]?):f.holds base w':=by
 cases f with
 |obj g o=>exact ⟨h.1,(hk g rfl).trans h.2⟩
 |blk g d t=>exact ⟨h.1,(hk g rfl).trans h.2⟩
 |row v n xs e size=>
  refine ⟨h.1,?_⟩
  rcases h.2 with a|⟨g,cap,cur,rfl,b,c,r⟩
  ·exact .inl a
  ·exact .inr ⟨g,cap,cur,rfl,b,(hk g rfl).trans c,r⟩
section
variable {W w w':aiM} {fs fs':List aiX}
theorem Mem.start (W:aiM):Mem W W []:=⟨ad2 _ _,by simp,.nil⟩
theorem Mem.size (h:Mem W w fs):W.heap.size<=w.heap.size:=h.below.size
theorem Mem.call (h:Mem W w fs) (hb:Below w.heap.size w w'):Mem W w' fs:=
 ⟨h.below.trans (hb.mono h.size),λf a=>(h.holds f a).keep λg b=>hb.block g ((h.holds f a).lt b).2,h.apart⟩
theorem Mem.drew (h:Mem W w fs):Mem W w.drew fs:=h.call (ad2 _ _).drew
theorem Mem.cons (h:Mem W w fs) {f:aiX} (b:f.holds W.heap.size w) (c:∀g,f.block=some g->∀k∈fs,k.block≠some g):Mem W w (f::fs):=
 ⟨h.below,λk a=>by
  rcases abY.1 a with rfl|a
  ·exact b
  ·exact h.holds k a,aey.2 ⟨λk a g d=>c g d k a,h.apart⟩⟩
theorem Mem.nil (h:Mem W w fs) (e:aiP) (size:Nat):Mem W w (.row (.slice none 0 0) 0 [] e size::fs):=
 h.cons (World.ownsRow_nil _ _ _ _) (λg a=>by cases a)
theorem Mem.cZ (h:Mem W w fs) (hb:Below w.heap.size w w') {e:aiP} {size n:Nat} {v:aiN} {xs:List aiN} (hr:w'.ownsRow w.heap.size e size v n xs):Mem W w' (.row v n xs e size::fs):=
 (h.call hb).cons (Ph hr h.size) (λg b k c a => by
  have d:=(Py hr b).1
  have f:=((h.holds k c).lt a).2
  omega)
theorem Mem.alloc (h:Mem W w fs) (b:Array aiN) (t:aiP):Mem W (w.alloc (.cells b t)) (.blk w.heap.size b t::fs):=
 (h.call ((ad2 _ _).alloc (abu _) _)).cons ⟨h.size, ad6 w _⟩ (λg c k d a => by
  injection c with c
  have e:=((h.holds k d).lt a).2
  omega)
theorem Mem.mU (h:Mem W w fs) (o:Obj):Mem W (w.alloc o) (.obj w.heap.size o::fs):=
 (h.call ((ad2 _ _).alloc (abu _) _)).cons ⟨h.size, ad6 w _⟩ (λg b k c a => by
  injection b with b
  have d:=((h.holds k c).lt a).2
  omega)
def picks (fs:List aiX) (a:List Nat):List aiX:=a.filterMap (fs[·]?)
def LW (h:fs.Pairwise aiX.apart):∀{l:List Nat},l.Nodup->(picks fs l).Pairwise aiX.apart
 |[],_=> .nil
 | i :: l, g => by
  rw [afD] at g
  unfold picks
  rw [List.filterMap_cons]
  cases hi:fs[i]? with
  |none=>exact LW h g.2
  | some f =>
   refine aey.2 ⟨λk p=>?_,LW h g.2⟩
   obtain ⟨j,q,m⟩:=afy.1 p
   have n:i≠j:=λe=>g.1 (e▸q)
   obtain ⟨a,b⟩:=abB.1 hi
   obtain ⟨c,d⟩:=abB.1 m
   rcases agA n with o|o
   ·have:=acC.1 h i j a c o
    rwa [b,d] at this
   ·have:=acC.1 h j i c a o
    rw [b,d] at this
    exact this.symm
theorem Mem.picks (h:Mem W w fs) (a:List Nat) (b:a.Nodup) (c:picks fs a=fs'):Mem W w fs':=by
 subst c
 refine ⟨h.below,λf d=>?_,LW h.apart b⟩
 obtain ⟨j,_,e⟩:=afy.1 d
 exact h.holds f (abJ e)
theorem Mem.tail (h:Mem W w (f::fs)):Mem W w fs:=⟨h.below,λk a=>h.holds k (ab5 _ a),(aey.1 h.apart).2⟩
theorem Mem.turn (h:Mem W w fs) {i:Nat} {f s:aiX} (hi:fs[i]?=some f) (hb:Below W.heap.size W w') (hk:∀g,g<w.heap.size->f.block≠some g->w'.heap[g]?=w.heap[g]?)
  (B:s.holds W.heap.size w') (C:∀g,s.block=some g->f.block=some g\/w.heap.size<=g):Mem W w' (fs.set i s):=by
 obtain ⟨n,o⟩:=abB.1 hi
 have a:∀j (b:j<abo fs),j≠i->aiX.apart fs[j] f/\aiX.apart f fs[j]:=λj b l=>by
  rcases agA l with m|m
  ·have:=acC.1 h.apart j i b n m
   rw [o] at this
   exact ⟨this,this.symm⟩
  ·have:=acC.1 h.apart i j n b m
   rw [o] at this
   exact ⟨this.symm,this⟩
 have d:∀j (b:j<abo fs),j≠i->aiX.apart s fs[j]:=λj b l g t r=>by
  rcases C g t with m|m
  ·exact (a j b l).2 g m r
  ·have:=((h.holds _ (ac7 b)).lt r).2
   omega
 refine ⟨hb,λk u=>?_,?_⟩
 ·obtain ⟨j,b,c⟩:=acp u
  rw [afs] at c
  rw [abK] at b
  split at c
  ·subst c;exact B
  ·rename_i v
   subst c
   have A:=h.holds _ (ac7 b)
   exact A.keep λg t=>hk g (A.lt t).2 (λe=>(a j b (agQ v)).1 g t e)
 ·rw [acC]
  intro p q x y z
  rw [abK] at x y
  rw [afs,afs]
  split
  ·rename_i e
   subst e
   rw [if_neg (by omega)]
   exact d q y (by omega)
  ·split
   ·rename_i e
    subst e
    exact (d p x (by omega)).symm
   ·exact acC.1 h.apart p q x y z
theorem Mem.blk (h:Mem W w fs) {i g:Nat} {C:Array aiN} {t:aiP} (hi:fs[i]?=some (.blk g C t)):w.heap[g]?=some (.cells C t (0,0)):=(h.holds _ (abJ hi)).2
theorem Mem.cell (h:Mem W w fs) {i g o:Nat} {C:Array aiN} {t:aiP} {v:aiN} (hi:fs[i]?=some (.blk g C t)) (hc:C[o]?=some v):w.cell? ⟨g,o,none⟩=some v:=by
 simp [aef,h.blk hi,hc]
theorem Mem.own (h:Mem W w fs) {i:Nat} {v:aiN} {n:Nat} {xs:List aiN} {e:aiP} {size:Nat} (hi:fs[i]?=some (.row v n xs e size)):w.ownsRow W.heap.size e size v n xs:=h.holds _ (abJ hi)
theorem Mem.rd (h:Mem W w fs) {i:Nat} {A:aiW} {n c:Nat} {xs:List aiN} {e:aiP} {size:Nat} (hi:fs[i]?=some (.row (.slice A n c) n xs e size)):Rd w w.heap.size size A n xs:=aa9 (h.own hi) rfl
theorem Mem.old (h:Mem W w fs) {size:Nat} {A:aiW} {n:Nat} {xs:List aiN} (hr:Rd W W.heap.size size A n xs):Rd w w.heap.size size A n xs:=(hr.below h.below).more h.size
def aaV {w:aiM} (hb:w.heap[g]?=some (.cells C t (0,0))) {size n:Nat} (a:C.size=n*size):Rd w w.heap.size size (some ⟨g,0,none⟩) n C.toList:=
 ⟨by simpa using a,λ_=>⟨_,rfl,z8 hb,λj u b=>by
  rw [acI,aci]
  simp only [aef,hb]
  simpa using b⟩⟩
theorem Mem.bB (h:Mem W w fs) {i g:Nat} {C:Array aiN} {t:aiP} {size n:Nat} (hi:fs[i]?=some (.blk g C t)) (a:C.size=n*size):Rd w w.heap.size size (some ⟨g,0,none⟩) n C.toList:=aaV (h.blk hi) a
theorem Mem.fU (h:Mem W w fs) {i g:Nat} {C:Array aiN} {e:aiP} {size n:Nat} (hi:fs[i]?=some (.blk g C e)) (a:C.size=n*size) (hm:n<=9223372036854775807):Mem W w (fs.set i (.row (.slice (some ⟨g,0,none⟩) n n) n C.toList e size)):=by
 have c:=h.holds _ (abJ hi)
 refine h.turn hi h.below (λ_ _ _=>rfl) ⟨by simpa using a,.inr ⟨g,n,C,rfl,c.1,c.2,abu _,by unfold maxLen;exact hm,a,?_⟩⟩ (λd b=> .inl b)
 rw [<-a,<-Array.length_toList,List.take_length]
theorem Mem.set (h:Mem W w fs) {i g o:Nat} {C:Array aiN} {t:aiP} (hi:fs[i]?=some (.blk g C t)) (v:aiN):Mem W (w.setCell ⟨g,o,none⟩ v) (fs.set i (.blk g (C.setIfInBounds o v) t)):=by
 have a:=h.holds _ (abJ hi)
 refine h.turn hi (h.below.setCell (p:=⟨g,o,none⟩) a.1 v) (λk d b=>?_) ⟨a.1,?_⟩ (λf c=> .inl c)
 ·exact agi _ _ _ _ (λe=>b (by rw [e];rfl))
 ·simp [afN,aeY,a.2]
theorem Mem.BN (h:Mem W w fs) {i g:Nat} {C ds:Array aiN} {t:aiP} (hi:fs[i]?=some (.blk g C t)) (hs:C.size=ds.size):Mem W (w.setCells g 0 ds.toList) (fs.set i (.blk g ds t)):=by
 have a:=h.holds _ (abJ hi)
 refine h.turn hi (below_setCells h.below a.1 0 _) (λk d b=>?_) ⟨a.1,?_⟩ (λf c=> .inl c)
 ·exact LK _ _ _ _ _ (λe=>b (by rw [e];rfl))
 ·have:=qho a.2 ds.toList (by simpa using hs)
  simpa using this
theorem Mem.append (h:Mem W w fs) {i n:Nat} {v z:aiN} {xs ys:List aiN} {e:aiP} {size c:Nat} (hi:fs[i]?=some (.row v n xs e size)) (l:w'.ownsRow W.heap.size e size z c ys) (k:w.grownBy w' v.ownBlock)
  (hb:z.ownBlock=v.ownBlock\/z.ownBlock=some w.heap.size):Mem W w' (fs.set i (.row z c ys e size)):=by
 have m:=h.own hi
 refine h.turn hi (h.below.grown k h.size (λg b=>(Py m b).1)) (λg d f=>k.block g d (λe=>f e.symm)) l (λg b=>?_)
 have a:z.ownBlock=some g:=b
 rcases hb with j|j
 ·exact .inl (show v.ownBlock=some g by rw [<-j];exact a)
 ·rw [j] at a;injection a with e;exact .inr (by omega)
end
theorem za8 (e:Ev):abo e.vals<=4:=by unfold Ev.vals;rw [abw];exact Aa _
def iN:SI abp 110 2:=⟨by kernel_rfl,by kernel_rfl⟩
def rM (e:Ev):∀v∈e.cells.toList,v.oneCell'=true:=by intro v a;simp [Ev.cells] at a;rcases a with rfl|rfl|rfl|rfl|rfl|rfl|rfl|rfl|rfl|rfl|rfl<;>rfl
def LX (b:Bs):∀v∈b.cells.toList,v.oneCell'=true:=by intro v a;simp [Bs.cells] at a;rcases a with rfl|rfl<;>rfl
def fC (e:Ev):List aiN:=e.cells.toList
def qbv (e:Ev):abo (fC e)=11:=rfl
def FQ (b:Bs) (l:List Ev):Nat->Bs
 |0=>b
 |k+1=>match l[k]? with|some e=>e.at|none=>b
def WY:∀(l:List Ev) (p:Option Ev) (i:Nat),(iM p i l).2=0->(∀e∈l,e.check=0)/\(∀e,l.head?=some e->p.all (λq=>e.after q)=true)/\(∀k (h:k+1<abo l),l[k+1].after l[k]=true)
 |[],_,_,_=>⟨by simp,by simp,by simp⟩
 | e :: r, p, i, h => by
  rw [iM] at h
  split at h
  ·rename_i b;exact absurd h b
  ·rename_i b
   split at h
   ·simp at h
   ·rename_i d
    obtain ⟨g1,f,g⟩:=WY r (some e) (i+1) h
    refine ⟨?_,?_,?_⟩
    ·intro x a
     rcases abY.1 a with rfl|a
     ·simpa using b
     ·exact g1 x a
    ·intro x a
     simp at a;subst a;simpa using d
    ·intro k c
     cases k with
     |zero=>
      cases r with
      |nil=>simp at c
      |cons y r=>exact by simpa using f y rfl
     |succ k=>exact g k (by simpa using c)
theorem qun (h:e.check=0):e.at.right=true:=by simp_all [Bs.right,Ev.at,uW]
theorem qrp {q:Ev} (h:e.after q=true):q.at.behind e=true:=by grind [Bs.behind,Ev.after,Ev.at]
def za9 {b:Bs} {l:List Ev} (hr:(jg l).2=0) (hb:b.right=true) (a:l.head?.all b.behind=true) (k:Nat) (hk:k<abo l):qed (FQ b l k) l[k]=0:=by
 obtain ⟨g1,_,c⟩:=WY l none 0 hr
 unfold qed
 rw [if_neg (by simp [g1 l[k] (ac7 _)]),if_pos]
 cases k with
 |zero=>
  refine ⟨hb,?_⟩
  cases l with
  |nil=>simp at hk
  |cons y r=>show b.behind y=true;simpa using a
 |succ k=>
  have e:FQ b l (k+1)=l[k].at:=by show (match l[k]? with|some e=>e.at|none=>b)=_;rw [abr om]
  rw [e]
  exact ⟨qun (g1 l[k] (ac7 _)),qrp (c k hk)⟩
theorem zic (b:Bs) (e:Ev):abo (zk b e)<=61:=by grind [uH,zk,yG,za8]
theorem q31:∀(j:Nat) (l:List Nat),(aV j l).2.1<=abo l:=by intro x;induction x<;>grind [aV,aD,xJ]
theorem WZ (b:Bs) (cpu:Nat) (l:List Nat):(bD b cpu l).2.1<=abo l/\((bD b cpu l).2.2=0->0<(bD b cpu l).2.1):=by grind [q31,tH,bD,aB]
def su:EI abp 83 73 (.agg Ev.zero.cells) 11 80:=⟨by kernel_rfl,by kernel_rfl,rfl,by omega⟩
def iX (es:List Ev) (a:Nat) (q:List Ev×Nat×Nat):List Ev×Nat×Nat:=if q.2.2≠0 then ([],0,q.2.2) else (es++q.1,a+q.2.1,0)
theorem q32 {cpu j:Nat} {b:Bs} {p:Option Ev} {er:Nat} (d:bD b cpu l=(e,c,er)) (h:er≠0) (es:List Ev) (a:Nat):iX es a (q5 cpu (j+1) b p l)=([],0,er):=by grind [iX,q5]
def q0g {cpu j:Nat} {b:Bs} {p:Option Ev} (d:bD b cpu l=(e,c,0)) (f:p.any (λq=>decide (e.seq=q.seq))=true) (es:List Ev) (a:Nat):iX es a (q5 cpu (j+1) b p l)=([],0,71):=by
 have e1:q5 cpu (j+1) b p l=([],0,71):=by rw [q5,d,if_neg (by simp),if_pos f]
 rw [e1];rfl
theorem q0h {cpu j:Nat} {b:Bs} {p:Option Ev} (d:bD b cpu l=(e,c,0)) (f:p.any (λq=>decide (e.seq=q.seq))=false) (es:List Ev) (a:Nat):iX es a (q5 cpu (j+1) b p l)=iX (es++[e]) (a+c) (q5 cpu j e.at (some e) (l.drop c)):=by grind [iX,q5]
theorem q0i (cpu:Nat):∀(j:Nat) (b:Bs) (p:Option Ev) (l:List Nat),(q5 cpu j b p l).2.2≠0->q5 cpu j b p l=([],0,(q5 cpu j b p l).2.2):=by intro x;cases x<;>grind [q5]
theorem q33 (cpu j:Nat) (b:Bs) (p:Option Ev) (l:List Nat):iX [] 0 (q5 cpu j b p l)=q5 cpu j b p l:=by grind [iX,q5,q0i]
def Pz (m:Int) (l:List Nat):Prop:=m<=1000000000000\/abo l<=1000000000000
def W9 {l:List Ev} (h:Rd w B 11 A n (l.flatMap fC)):abo l=n:=by
 have a:=h.len
 have c:abo (l.flatMap fC)=abo l*11:=by
  clear h a
  induction l with
  |nil=>rfl
  |cons e l b=>rw [abR,abq,b,qbv,abV];omega
 omega
variable {fs:List aiX}
theorem Laid.mem (h:Laid B W) (a:Mem W w fs) (b:B<=W.heap.size):Laid B w:=h.below a.below b
section
open Go.ChangeShapes Go.WideShapes Go.ChangeAt
def FR (P:aiO) (t:aiP) (a:List acw):Bool:=match P.underlying t with
 |some (.struct b)=>decide (b.size=abo a)&&decide (P.cellsOf t=abo a)&& (aco (abo a)).all λi=>match b[i]?,a[i]? with
  |some f,some k=>decide (f.offset=i)&&decide (P.cellsOf f.type=1)&& (match P.underlying f.type with|some (TypeDesc.int c)=>decide (c=k)|_=>false)
  |_,_=>false
 |_=>false
section
variable {H:Type} {enc:aiP×aiN->H} {P:aiO} {W:aiM} {b0:Nat} {sp:Nat->Bool} {held:Bool}
def PD {g:List acw} (b:FR P t g=true) {c:Nat} {r:List aiN} {x:DataW H×List MemPlace} (h:adN enc P W b0 sp held c t r=some x):
  abo r=abo g/\∀(i:Nat) (k:acw),g[i]?=some k->∃z:Int,r[i]?=some (abT k z)/\(ae4 k z).wf=true:=by
 unfold FR at b
 split at b
 ·rename_i E u
  simp only [abG,decide_eq_true_eq,ace,aeS] at b
  obtain ⟨⟨F,G⟩,y⟩:=b
  obtain ⟨xs,n,_,_,I,J,A⟩:=ags u h
  refine ⟨by omega,λi k s=>?_⟩
  have hi:i<abo g:=(abB.1 s).1
  have e:=y i hi
  rw [s] at e
  split at e
  ·rename_i f K j l
   cases l
   simp only [abG,decide_eq_true_eq] at e
   obtain ⟨⟨B,hc⟩,a⟩:=e
   split at a
   ·rename_i C m
    simp only [decide_eq_true_eq] at a
    subst a
    have o:=A i f j
    rw [B,hc] at o
    have q:i<abo xs:=by omega
    rw [abr q] at o
    obtain ⟨z,hz,_,D⟩:=DataW.trod_int m o
    refine ⟨z,?_,D⟩
    have:=congrArg (·[0]?) hz
    simpa [adE,adL] using this
   ·cases a
  ·cases e
 ·cases b
end
def PE {a:Int} (h:(ae4 .u16 a).wf=true):0<=a/\a<=65535:=by
 simpa [agz,aeP,aeQ,ad5,aex] using h
def uZ {a:Int} (h:(ae4 .u32 a).wf=true):0<=a/\a<=4294967295:=by
 simpa [agz,aeP,aeQ,ad5,aex] using h
def zmr {a:Int} (h:(ae4 .u64 a).wf=true):0<=a/\a<=18446744073709551615:=by
 simpa [agz,aeP,aeQ,ad5,aex] using h
def FT {α:Type} {l m:List α} (h1:abo l=abo m) (h:∀i,i<abo m->l[i]?=m[i]?):l=m:=by
 refine List.ext_getElem? λi=>?_
 by_cases hi:i<abo m
 ·exact h i hi
 ·rw [adR om,adR om]
section
variable {H:Type} {enc:aiP×aiN->H} {W:aiM} {b0:Nat} {v:aiN} {d:DataW H} {p:List MemPlace}
end
section
variable {H:Type} {enc:aiP×aiN->H} {P:aiO} {w:aiM} {base:Nat} {spare:Nat->Bool} {held:Bool}
end
section
variable {H:Type} {enc:aiP×aiN->H} {W:aiM} {b0:Nat} {v:aiN} {d:DataW H} {p:List MemPlace}
end
section
variable {H:Type} {enc:aiP×aiN->H} {W:aiM} {b0:Nat} {v:aiN} {d:DataW H} {p:List MemPlace}
end
def fieldAt (P:aiO) (t:aiP) (i off:Nat) (u:aiP):Bool:=match P.underlying t with
 |some (.struct a)=>match a[i]? with
  |some f=>decide (f.offset=off)&&decide (f.type=u)
  |none=>false
 |_=>false
section
variable {H:Type} {enc:aiP×aiN->H} {P:aiO} {W:aiM} {b0:Nat} {sp:Nat->Bool} {held:Bool}
def q7 {u:aiP} {off:Nat} (a:fieldAt P t i off u=true) {c:Nat} {r:List aiN} {x:DataW H×List MemPlace} (h:adN enc P W b0 sp held c t r=some x):
  abo r=P.cellsOf t/\∃n y,adN enc P W b0 sp held n u ((r.drop off).take (P.cellsOf u))=some y:=by
 unfold fieldAt at a
 split at a
 ·rename_i g j
  split at a
  ·rename_i f b
   simp only [abG,decide_eq_true_eq] at a
   obtain ⟨xs,n,_,_,k,m,l⟩:=ags j h
   refine ⟨k,n,?_⟩
   have e:=l i f b
   have hi:i<g.size:=(acU.1 b).1
   rw [abr om,a.1,a.2] at e
   exact ⟨_,e⟩
  ·cases a
 ·cases a
end
section
variable {H:Type} {enc:aiP×aiN->H} {W:aiM} {b0:Nat} {v:aiN} {d:DataW H} {p:List MemPlace}
def zid:List acw:=[.i64,.i64]
def q35:FR abp 110 zid=true:=by kernel_rfl
def vg {r:List aiN} {off:Nat} {u:aiN} (h:(r.drop off).take 1=[u]):r[off]?=some u:=by
 have:=congrArg (·[0]?) h
 simpa [adE,adL] using this
end
end
def qi (P:aiO) (ops:Array aiS) (Q:aiV->Act->aiM->Prop) (i:Nat) (a:Act) (w:aiM):Prop:=wpList P ops Q (ops.toList.drop i) a w
def Yl (P:aiO) (S:aiM->Prop) (σ:List (Nat×aiN)) (o:aiS) (v:aiN):Prop:=∀(a:Act) (n:Nat) (D:List aiU),Fr a n D σ->∀w,S w->(execOp a.eval o).run P w= .ok (.value v) w
section
variable {P:aiO} {ops:Array aiS} {Q:aiV->Act->aiM->Prop} {a:Act} {w:aiM} {n i j d fuel:Nat} {D:List aiU} {σ σ':List (Nat×aiN)} {o:aiS} {v:aiN} {md:Region.Mode} {S:aiM->Prop} {K:Act->aiM->Prop} {listed:Array Bool}
def zu {id:Nat} (h:qi P ops Q 0 a w):(aea id ops false).wp P Q a w:=wp_region_list (by simpa [qi] using h)
def yH (hi:ops.size=i) (h:Q .normal a w):qi P ops Q i a w:=by
 unfold qi
 rw [acs (by simp [hi])]
 exact h
def FU (Z:Fr a n D σ) (b:ops[i]?=some o) (c:eB ops σ o=some true) (h:o.wp P a w (qi P ops Q (i+1)) Q):qi P ops Q i a w:=by
 obtain ⟨e,f⟩:=acU.1 b
 unfold qi
 rw [acz (by simpa using e),ad7,f]
 unfold wpList
 rw [if_pos (Ee Z c)]
 exact .inl h
def q36 (Z:Fr a n D σ) (e:ops[i]?=some o) (f:eB ops σ o=some false) (g:o.dst=some d) (b:d<n) (k:∀c,Fr c n D ((d,undef)::σ)->qi P ops Q (i+1) c w):qi P ops Q i a w:=by
 obtain ⟨h,l⟩:=acU.1 e
 unfold qi
 rw [acz (by simpa using h),ad7,l]
 unfold wpList
 rw [if_neg (by rw [Ee Z f];simp),g]
 exact k _ (Z.put b _)
def Yl.wp (hy:Yl P S σ o v) (Z:Fr a n D σ) (e:S w) (f:o.dst=some d) (b:d<n) (k:∀c,Fr c n D ((d,v)::σ)->K c w):o.wp P a w K Q:=by
 unfold acS
 rw [hy a n D Z w e,Oper.upon_value,f]
 exact k _ (Z.put b _)
def LY (Z:Fr a n D σ) (e:S w) (f:ops[i]?=some o) (g:eB ops σ o=some true) (h:o.dst=some d) (b:d<n) (hy:Yl P S σ o v) (k:∀c,Fr c n D ((d,v)::σ)->qi P ops Q (i+1) c w):qi P ops Q i a w:=
 FU Z f g (hy.wp Z e h b k)
def Yl.pure (h:sj P σ o.op=some v):Yl P S σ o v:=λ_ _ _ Z w _=>WX Z h w
def Ab (P:aiO) (ops:Array aiS) (n i:Nat) (σ:List (Nat×aiN)):Option (List (Nat×aiN)):=
 match ops[i]? with
 |none=>none
 | some o => match eB ops σ o, o.dst with
  |some true,some d=>if d<n then match sj P σ o.op with
   |some v=>some ((d,v)::σ)
   |none=>none else none
  |some false,some d=>if d<n then some ((d,undef)::σ) else none
  |_,_=>none
def ru (P:aiO) (ops:Array aiS) (n:Nat):Nat->Nat->List (Nat×aiN)->Option (List (Nat×aiN))
 |0,_,σ=>some σ
 |m+1,i,σ=>match Ab P ops n i σ with
  |none=>none
  |some σ'=>ru P ops n m (i+1) σ'
def PG:∀(m i:Nat) {j:Nat} {a:Act} {σ:List (Nat×aiN)},Fr a n D σ->ru P ops n m i σ=some σ'->i+m=j->(∀g,Fr g n D σ'->qi P ops Q j g w)->qi P ops Q i a w
 |0,i,j,a,σ,Z,h,r,k=>by
  injection h with h
  subst h
  have e:i=j:=r
  subst e
  exact k a Z
 | m + 1, i, j, a, σ, Z, h, r, k => by
  unfold ru at h
  split at h
  ·cases h
  ·rename_i σ1 b
   have c:=λg l=>PG m (i+1) (a:=g) (σ:=σ1) l h om k
   unfold Ab at b
   split at b
   ·cases b
   ·rename_i o s
    split at b
    ·rename_i d p q
     split at b
     ·rename_i f
      split at b
      ·rename_i v t
       injection b with b
       subst b
       exact LY (S:=λ_=>True) Z trivial s p q f (Yl.pure t) c
      ·cases b
     ·cases b
    ·rename_i d p q
     split at b
     ·rename_i f
      injection b with b
      subst b
      exact q36 Z s p q f c
     ·cases b
    ·cases b
def Fr.sp {v:aiN} (h:Fr a n D σ) (t:Nat) (u:aiN) (c:σ.lookup t=some v) (e:v=u):Fr a n D ((t,u)::σ):=by
 subst e
 refine ⟨h.size,h.defers,λs x b=>?_⟩
 rw [acR] at b
 split at b
 ·rename_i hs
  rw [beq_iff_eq] at hs
  subst hs
  injection b with b
  subst b
  exact h.slot _ _ c
 ·exact h.slot _ _ b
theorem Fr.to (h:Fr a n D σ) (σ':List (Nat×aiN)) (hs:σ'.map (λp=>σ.lookup p.1)=σ'.map (λp=>some p.2):=by kernel_rfl):Fr a n D σ':=h.sub hs
def Fr.on {b c:Bool} (h:Fr a n D σ) (t:Nat) (hb:b=c) (f:σ.lookup t=some (.bool b):=by rfl):Fr a n D ((t,.bool c)::σ):=by
 subst hb
 refine ⟨h.size,h.defers,λs x e=>?_⟩
 rw [acR] at e
 split at e
 ·rename_i hs
  rw [beq_iff_eq] at hs
  subst hs
  injection e with e
  subst e
  exact h.slot _ _ f
 ·exact h.slot _ _ e
def Fr.tf {b:Bool} (h:Fr a n D σ) (t:Nat) (c:σ.lookup t=some (.bool b)):(b=true/\Fr a n D ((t,.bool true)::σ))\/(b=false/\Fr a n D ((t,.bool false)::σ)):=by
 cases b
 ·exact .inr ⟨rfl,h.on t rfl c⟩
 ·exact .inl ⟨rfl,h.on t rfl c⟩
def Xa {i:Nat} {s:List (Nat×aiN)} (h:Ab P ops n i σ=some s):∃p,s=p::σ:=by
 unfold Ab at h
 split at h
 ·cases h
 ·split at h
  ·split at h
   ·split at h
    ·injection h with h;exact ⟨_,h.symm⟩
    ·cases h
   ·cases h
  ·split at h
   ·injection h with h;exact ⟨_,h.symm⟩
   ·cases h
  ·cases h
def Xb:∀(m i:Nat) {σ s:List (Nat×aiN)},ru P ops n m i σ=some s->∃full,s=full++σ
 |0,_,σ,s,h=>by injection h with h;exact ⟨[],h.symm⟩
 | m + 1, i, σ, s, h => by
  cases h1:Ab P ops n i σ with
  |none=>rw [ru,h1] at h;cases h
  |some s1=>
   rw [ru,h1] at h
   obtain ⟨p,rfl⟩:=Xa h1
   obtain ⟨full,b⟩:=Xb m (i+1) h
   exact ⟨full++[p],by rw [b];simp⟩
def thin (s σ new:List (Nat×aiN)):Bool:=(s.take (abo s-abo σ)).all λp=>(new.any λq=>q.1==p.1)|| !(σ.any λq=>q.1==p.1)
def FV {t:Nat}:∀{l m:List (Nat×aiN)},(l++m).lookup t=match l.lookup t with|some v=>some v|none=>m.lookup t
 |[],m=>rfl
 |q::l,m=>by
  rw [aei,acR,acR]
  split
  ·rfl
  ·exact FV
def FW {t:Nat} {v:aiN}:∀{l:List (Nat×aiN)},l.lookup t=some v->(l.any λq=>q.1==t)=true
 |[],h=>by cases h
 | q :: l, h => by
  rw [acR] at h
  split at h
  ·rename_i b
   rw [beq_iff_eq] at b
   simp [b]
  ·simp only [List.any_cons,adD]
   exact .inr (FW h)
def LZ {t:Nat} {l:List (Nat×aiN)} (h:(l.any λq=>q.1==t)=true):∃p∈l,p.1=t:=by
 rw [aeB] at h
 obtain ⟨p,b,c⟩:=h
 exact ⟨p,b,by simpa using c⟩
theorem Fr.thin {s full new:List (Nat×aiN)} (h:Fr a n D s) (hs:s=full++σ) (ht:Go.Proofs.YtekiimhdnigmcaaGreatDoor.thin s σ new=true) (y:new.map (λp=>s.lookup p.1)=new.map (λp=>some p.2)):Fr a n D (new++σ):=by
 have z:=h.sub y
 refine ⟨h.size,h.defers,λt v b=>?_⟩
 rw [FV] at b
 cases hl:new.lookup t with
 |some u=>
  rw [hl] at b
  injection b with b
  subst b
  exact z.slot t u hl
 | none =>
  rw [hl] at b
  have b:σ.lookup t=some v:=b
  refine h.slot t v ?_
  rw [hs,FV]
  cases hf:full.lookup t with
  |none=>exact b
  | some u =>
   exfalso
   unfold Go.Proofs.YtekiimhdnigmcaaGreatDoor.thin at ht
   have c:s.take (abo s-abo σ)=full:=by rw [hs,abq,adr];exact List.take_left
   rw [c,ace] at ht
   obtain ⟨p,f,g⟩:=LZ (FW hf)
   have:=ht p f
   rw [g,FW b] at this
   simp only [Bool.not_true,Bool.or_false] at this
   obtain ⟨q,k,m⟩:=LZ this
   have A:new.lookup t≠none:=by
    intro B
    have C:∀(l:List (Nat×aiN)),q∈l->l.lookup t≠none:=by
     intro l
     induction l with
     |nil=>intro e;cases e
     | cons r l E =>
      intro e
      rw [acR]
      split
      ·simp
      ·rename_i x
       rcases abY.1 e with rfl|e
       ·exfalso;rw [m] at x;simp at x
       ·exact E e
    exact C new k B
   exact A hl
def fp (Z:Fr a n D σ) (m i:Nat) (new:List (Nat×aiN)) (k:∀b,Fr b n D (new++σ)->qi P ops Q (i+m) b w) (h:(ru P ops n m i σ).map (λs=>(thin s σ new,new.map λp=>s.lookup p.1))=some (true,new.map λp=>some p.2):=by kernel_rfl):qi P ops Q i a w:=by
 cases hs:ru P ops n m i σ with
 |none=>rw [hs] at h;cases h
 |some s=>
  rw [hs] at h
  injection h with h
  injection h with e f
  obtain ⟨full,g⟩:=Xb m i hs
  exact PG m i Z hs rfl λb c=>k b (c.thin g e f)
def fo (Z:Fr a n D σ) (i:Nat) (b:ops[i]?=some o) (c:eB ops σ o=some true) (h:o.wp P a w (qi P ops Q (i+1)) Q):qi P ops Q i a w:=FU Z b c h
def fy (Z:Fr a n D σ) (f:Mem W w fs) (i:Nat) (g:ops[i]?=some o) (h:eB ops σ o=some true) (l:o.dst=some d) (hy:Yl P (λb=>Mem W b fs) σ o v) (k:∀e,Fr e n D ((d,v)::σ)->qi P ops Q (i+1) e w) (c:d<n:=by decide):qi P ops Q i a w:=
 LY (S:=λb=>Mem W b fs) Z f g h l c hy k
def eD (ex:List Nat) (listed:Array Bool):Bool:=ex.any λj=>listed.getD j false
def ql (P:aiO) (md:ad3) (ops:Array aiS) (Q:aiV->Act->aiM->Prop) (S:aiM->Prop) (ex:List Nat):Nat->Array Bool->Act->aiM->Prop
 |0,listed,a,w=>acF md ops listed=[]/\Q .normal a w
 |fuel+1,listed,a,w=>
  (acF md ops listed=[]->Q .normal a w)/\
  ∀i∈acF md ops listed,wpOp P ops Q i (λc b=>(eD ex (listed.setIfInBounds i true)=false->S b)/\ql P md ops Q S ex fuel (listed.setIfInBounds i true) c b) a w
theorem qc4 {ex:List Nat}:∀(fuel:Nat) (listed:Array Bool) (a:Act) (w:aiM),ql P md ops Q S ex fuel listed a w->wpAny P md ops Q fuel listed a w
 |0,_,_,_,h=>h
 |fuel+1,_,_,_,h=>⟨h.1,λi hi=>wpOp_mono (λb c e=>qc4 fuel _ b c e.2) (h.2 i hi)⟩
def BO (md:ad3) (ops:Array aiS) (ex:List Nat) (i:Nat):Bool:=ex.all λj=>match ops[j]? with
 |some o=>o.after.any λe=>afc md e&&e.on==i
 |none=>true
def Xc {l:Array Bool} {i:Nat} (h:ex.contains i=false):eD ex (l.setIfInBounds i true)=eD ex l:=by
 unfold eD
 rw [ab3,aeB,aeB]
 have c:∀j∈ex,i≠j:=λj b e=>by
  subst e
  have:ex.contains i=true:=by simpa using b
  rw [h] at this;cases this
 constructor
 ·rintro ⟨j,b,f⟩;exact ⟨j,b,by rwa [getD_set_ne false (c j b)] at f⟩
 ·rintro ⟨j,b,f⟩;exact ⟨j,b,by rwa [getD_set_ne false (c j b)]⟩
def PI {l:Array Bool} {i:Nat} (h:eD ex (l.setIfInBounds i true)=false):eD ex l=false:=by
 cases hp:eD ex l with
 |false=>rfl
 |true=>
  unfold eD at h hp
  obtain ⟨j,b,c⟩:=aeB.1 hp
  rw [List.any_eq_false] at h
  exact absurd (getD_set_true (i:=i) c) (h j b)
def PK {t:aiS} {T:aiM->Prop} (hi:ops[i]?=some t) (q:∀(j:Nat) (o:aiS) A b,ops[j]?=some o->o.op≠ .select A b)
  (hQ:∀c (a:Act) w,Q (.panic c) (a.put t.dst v) w->Q (.panic c) a w) (B:ex.contains i=false):
  ∀(fuel:Nat) (listed:Array Bool) (a:Act) (w:aiM),((∀w,T w)\/(T=S/\BO md ops ex i=true/\eD ex listed=false))->
   (∀j u,ops[j]?=some u->j≠i->listed.getD j true=false->(∀e∈u.after,afc md e=true->e.on≠i)->t.apart ops u=true)->
   i∈acF md ops listed->YieldsIf P ops T t v a->(eD ex listed=false->S w)->
   ql P md ops Q S ex fuel (listed.setIfInBounds i true) (a.put t.dst v) w->ql P md ops Q S ex (fuel+1) listed a w:=by
 intro fuel
 induction fuel with
 | zero =>
  intro listed a w M _ x N C H
  have R:T w:=by rcases M with h|⟨h,_,l⟩<;>first|exact h w|(rw [h];exact C l)
  refine ⟨λh=>(by rw [h] at x;cases x),λj O=>?_⟩
  by_cases f:j=i
  ·subst f;exact N.wpOp hi R ⟨λl=>C (PI l),H⟩
  ·have:=ready_mono O f
   rw [H.1] at this
   cases this
 | succ fuel ih =>
  intro listed a w M g x N C H
  have R:T w:=by rcases M with h|⟨h,_,l⟩<;>first|exact h w|(rw [h];exact C l)
  refine ⟨λh=>(by rw [h] at x;cases x),λj O=>?_⟩
  by_cases f:j=i
  ·subst f;exact N.wpOp hi R ⟨λl=>C (PI l),H⟩
  ·have y:=H.2 j (ready_mono O f)
   obtain ⟨r,u,m,E⟩:=mem_ready.1 O
   have s:∀e∈u.after,afc md e=true->e.on≠i:=λe U F heq=>by
    have y:=E e U F
    have Z:=(mem_ready.1 x).1
    rw [heq] at y
    rcases ab6 i listed.size with V|V
    ·simp [V] at Z y;rw [Z] at y;cases y
    ·simp [Array.getElem?_eq_none V] at y
   have W:(∀w,T w)\/(T=S/\BO md ops ex i=true/\eD ex (listed.setIfInBounds j true)=false):=by
    rcases M with h|⟨h,z,G⟩
    ·exact .inl h
    ·refine .inr ⟨h,z,?_⟩
     rw [Xc ?_]
     ·exact G
     ·cases hc:ex.contains j with
      |false=>rfl
      |true=>
       have hm:j∈ex:=by simpa using hc
       have z:=ace.1 z j hm
       rw [m] at z
       obtain ⟨e,U,F⟩:=Array.any_eq_true'.1 z
       rw [abG,beq_iff_eq] at F
       exact absurd F.2 (s e U F.1)
   have z:=wpOp_putIf m (g j u m f r s) (λA b=>q i t A b hi) (λA b=>q j u A b m) hQ N y
   have p:∀k ok,ops[k]?=some ok->k≠i->(listed.setIfInBounds j true).getD k true=false->
     (∀e∈ok.after,afc md e=true->e.on≠i)->t.apart ops ok=true:=λk ok hk X I Y=>by
    refine g k ok hk X ?_ Y
    by_cases J:j=k
    ·subst J;exact r
    ·rw [getD_set_ne true J] at I;exact I
   refine wpOp_mono (λa' w' G=>?_) z
   have L:eD ex (listed.setIfInBounds j true)=false->S w':=λl=>G.2.1 (by rw [afP _ _ (agQ f),Xc B];exact l)
   refine ⟨L,ih (listed.setIfInBounds j true) a' w' W p (ready_mono x (agQ f)) G.1 L ?_⟩
   rw [afP _ _ f]
   exact G.2.2
section
variable {ex:List Nat}
def Xd {id:Nat} (hm:P.follows .mixedOrders=true) (S:aiM->Prop) (ex:List Nat) (h:ql P .any ops Q S ex ops.size (Array.replicate ops.size false) a w.drew):(aea id ops true).wp P Q a w:=
 wp_region_any hm (qc4 _ _ _ _ h)
def FX {id:Nat} (c:Mem W w fs) (fs':List aiX) (b ex:List Nat) (h:Mem W w.drew fs->Mem W w.drew fs'->ql P .any ops Q (λe=>Mem W e fs') ex ops.size (Array.replicate ops.size false) a w.drew)
  (hm:P.follows .mixedOrders=true:=by kernel_rfl) (f:b.Nodup:=by decide) (g:picks fs b=fs':=by rfl):(aea id ops true).wp P Q a w:=
 Xd hm _ ex (h c.drew (c.drew.picks b f g))
def sw (md:ad3) (ops:Array aiS) (ex:List Nat) (listed:Array Bool) (i:Nat):Bool:=
 agC ops&& (ag7 md ops listed i&& ((acF md ops listed).contains i&& (!ex.contains i&& (BO md ops ex i&& !eD ex listed))))
def pJ (md:ad3) (ops:Array aiS) (ex:List Nat) (listed:Array Bool) (i:Nat):Bool:=
 agC ops&& (ag7 md ops listed i&& ((acF md ops listed).contains i&& !ex.contains i))
def Ej (Z:Fr a n D σ) (l:S w) (g:ops[i]?=some o) (e:eB ops σ o=some true) (m:o.dst=some d) (f:d<n) (b:sw md ops ex listed i=true) (p:∀c (a:Act) w,Q (.panic c) (a.put o.dst v) w->Q (.panic c) a w) (hy:Yl P S σ o v)
  (k:∀h,Fr h n D ((d,v)::σ)->ql P md ops Q S ex fuel (listed.setIfInBounds i true) h w):ql P md ops Q S ex (fuel+1) listed a w:=by
 simp only [sw,abG,acL] at b
 obtain ⟨q,r,s,t,u,x⟩:=b
 exact PK (T:=S) g (aeT q) p t fuel listed a w (.inr ⟨rfl,u,x⟩) (afj g r) (by simpa using s) (.inl ⟨Ee Z e,λw e=>hy a n D Z w e⟩) (λ_=>l) (by rw [m];exact k _ (Z.put f _))
def pK (Z:Fr a n D σ) (h:eD ex listed=false->S w) (f:ops[i]?=some o) (l:eB ops σ o=some true) (m:o.dst=some d) (e:d<n) (b:pJ md ops ex listed i=true) (p:∀c (a:Act) w,Q (.panic c) (a.put o.dst v) w->Q (.panic c) a w) (hy:∀q,Yl P q σ o v)
  (k:∀g,Fr g n D ((d,v)::σ)->ql P md ops Q S ex fuel (listed.setIfInBounds i true) g w):ql P md ops Q S ex (fuel+1) listed a w:=by
 simp only [pJ,abG,acL] at b
 obtain ⟨r,s,t,u⟩:=b
 exact PK (T:=λ_=>True) f (aeT r) p u fuel listed a w (.inl λ_=>trivial) (afj f s) (by simpa using t) (.inl ⟨Ee Z l,λw _=>hy (λ_=>True) a n D Z w trivial⟩) h (by rw [m];exact k _ (Z.put e _))
def zba (Z:Fr a n D σ) (h:eD ex listed=false->S w) (f:ops[i]?=some o) (l:eB ops σ o=some false) (m:o.dst=some d) (e:d<n) (b:pJ md ops ex listed i=true) (p:∀c (a:Act) w,Q (.panic c) (a.put o.dst undef) w->Q (.panic c) a w)
  (k:∀g,Fr g n D ((d,undef)::σ)->ql P md ops Q S ex fuel (listed.setIfInBounds i true) g w):ql P md ops Q S ex (fuel+1) listed a w:=by
 simp only [pJ,abG,acL] at b
 obtain ⟨q,r,s,t⟩:=b
 exact PK (T:=λ_=>True) f (aeT q) p t fuel listed a w (.inl λ_=>trivial) (afj f r) (by simpa using s) (.inr ⟨Ee Z l,rfl⟩) h (by rw [m];exact k _ (Z.put e _))
def qc5 (P:aiO) (md:ad3) (ops:Array aiS) (n:Nat) (ex:List Nat):List Nat->Array Bool->List (Nat×aiN)->Option (Array Bool×List (Nat×aiN))
 |[],l,σ=>some (l,σ)
 | i :: b, l, σ => if pJ md ops ex l i then match Ab P ops n i σ with
   |some σ'=>qc5 P md ops n ex b (l.setIfInBounds i true) σ'
   |none=>none
  else none
def L6 {e : Array Bool} (p : ∀ c (a : Act) d v w, Q (.panic c) (a.put d v) w -> Q (.panic c) a w) :
  ∀(l:List Nat) {a:Act} {σ:List (Nat×aiN)} {listed:Array Bool},Fr a n D σ->(eD ex listed=false->S w)->qc5 P md ops n ex l listed σ=some (e,σ')->(∀m,Fr m n D σ'->ql P md ops Q S ex fuel e m w)->ql P md ops Q S ex (fuel+abo l) listed a w
 |[],a,σ,listed,Z,_,h,k=>by
  injection h with h
  injection h with b x
  subst b;subst x
  exact k a Z
 | i :: l, a, σ, listed, Z, q, h, k => by
  unfold qc5 at h
  split at h
  ·rename_i hc
   split at h
   ·rename_i σ1 b
    have f:=λm r=>L6 p l (a:=m) (σ:=σ1) r (λy=>q (PI y)) h k
    unfold Ab at b
    split at b
    ·cases b
    ·rename_i o u
     split at b
     ·rename_i d s t
      split at b
      ·rename_i g
       split at b
       ·rename_i v z
        injection b with b
        subst b
        exact pK Z q u s t g hc (λc a w=>p c a _ _ w) (λ_=>Yl.pure z) f
       ·cases b
      ·cases b
     ·rename_i d s t
      split at b
      ·rename_i g
       injection b with b
       subst b
       exact zba Z q u s t g hc (λc a w=>p c a _ _ w) f
      ·cases b
     ·cases b
   ·cases h
  ·cases h
def PL:∀(b:List Nat) {l c:Array Bool} {σ s:List (Nat×aiN)},qc5 P md ops n ex b l σ=some (c,s)->∃full,s=full++σ
 |[],_,_,σ,s,h=>by injection h with h;injection h with _ h;exact ⟨[],h.symm⟩
 | i :: b, l, c, σ, s, h => by
  unfold qc5 at h
  split at h
  ·split at h
   ·rename_i s1 e
    obtain ⟨p,rfl⟩:=Xa e
    obtain ⟨full,f⟩:=PL b h
    exact ⟨full++[p],by rw [f];simp⟩
   ·cases h
  ·cases h
def ap (Z:Fr a n D σ) (q:eD ex listed=false->S w) (e:List Nat) (b:Array Bool) (new:List (Nat×aiN)) (k:∀f,Fr f n D (new++σ)->ql P md ops Q S ex fuel b f w)
  (t:∀c (a:Act) d v w,Q (.panic c) (a.put d v) w->Q (.panic c) a w:=by intro _ _ d _ _ h;cases d<;>exact h) (h:(qc5 P md ops n ex e listed σ).map (λr=>(r.1,thin r.2 σ new,new.map λp=>r.2.lookup p.1))=some (b,true,new.map λp=>some p.2):=by kernel_rfl):ql P md ops Q S ex (fuel+abo e) listed a w:=by
 cases hs:qc5 P md ops n ex e listed σ with
 |none=>rw [hs] at h;cases h
 |some r=>
  obtain ⟨y,s⟩:=r
  rw [hs] at h
  injection h with h
  injection h with m g
  injection g with g u
  simp only at m
  subst m
  obtain ⟨full,x⟩:=PL e hs
  exact L6 t e Z q hs λf l=>k f (l.thin x g u)
def qe (hr:acF md ops listed=[]) (h:Q .normal a w):ql P md ops Q S ex fuel listed a w:=by
 cases fuel with
 |zero=>exact ⟨hr,h⟩
 |succ f=>exact ⟨λ_=>h,by rw [hr];simp⟩
def all_nil {X:Nat->Prop}:∀i∈([]:List Nat),X i:=λ_ h=>by cases h
def all_cons {X:Nat->Prop} {r:List Nat} (h:X i) (t:∀i∈r,X i):∀j∈i::r,X j:=λj b=>by
 rcases abY.1 b with rfl|b
 ·exact h
 ·exact t j b
def zf (rs:List Nat) (hr:acF md ops listed=rs) (b:rs.isEmpty=false) (h:∀i∈rs,wpOp P ops Q i (λf c=>(eD ex (listed.setIfInBounds i true)=false->S c)/\ql P md ops Q S ex fuel (listed.setIfInBounds i true) f c) a w):ql P md ops Q S ex (fuel+1) listed a w:=
 ⟨λe=>(by rw [hr] at e;subst e;cases b),hr▸h⟩
def FY {f:Nat} {l:Array Bool} (J:Act->aiM->Prop) (h:∀a w,J a w->ql P md ops Q S ex f l a w) (k:(∀a w,J a w->ql P md ops Q S ex f l a w)->ql P md ops Q S ex fuel listed a w):ql P md ops Q S ex fuel listed a w:=k h
def bZ {p:Prop} {l:Array Bool} (h:eD ex l=true):eD ex l=false->p:=λe=>by rw [h] at e;cases e
def av {c p X:Prop} (h:p) (k:p->X):(c->p)/\X:=⟨λ_=>h,k h⟩
def dU {p X:Prop} {l:Array Bool} (h:eD ex l=true) (k:X):(eD ex l=false->p)/\X:=⟨λe=>(by rw [h] at e;cases e),k⟩
def qu (Z:Fr a n D σ) (b:ops[i]?=some o) (c:eB ops σ o=some true) (h:o.wp P a w K Q):wpOp P ops Q i K a w:=by
 unfold wpOp
 rw [b]
 simp only [Ee Z c,if_true]
 exact .inl h
end
def gM (P:aiO) (t:aiP):Bool:=match P.underlying t with
 |some (.struct _)=>false
 |some (.array _ _)=>false
 |some _=>true
 |none=>false
def BP (P:aiO) (t:aiP):Option Nat:=match P.underlying t with
 |some (.slice e)=>(P.info? e).map (·.size)
 |_=>none
def FZ (h:gM P t=true) (w:aiM):(isAgg t).run P w= .ok false w:=by
 unfold gM at h
 cases hu:P.underlying t with
 |none=>rw [hu] at h;cases h
 |some d=>rw [hu] at h;simp only [isAgg,abI,run_underlying hu,abA];cases d<;>first|rfl|cases h
def Pd {p:Addr} (b:o.op= .load t x) (c:look σ x=some (.pointer (some p))) (ht:gM P t=true) (hc:∀w,S w->w.cell? p=some v):Yl P S σ o v:=λa n D Z w e=>by
 unfold execOp
 simp [b,Z.eval c,ag8,aek,loadVar,FZ ht,load,Sem.run,hc w e]
def Pe {off:Nat} (c:o.op= .load t x) (f:look σ x=some (.pointer (some ⟨b,off,none⟩))) (e:SI P t m) (hm:C.size=m) (hc:∀w,S w->w.rangeAt b off C.toList):Yl P S σ o (.agg C):=λa n D Z w g=>by
 obtain ⟨h,k,l⟩:=e.desc
 have p:=run_loadVar_mid (P:=P) w b off t C.toList h (hc w g) k l (by rw [e.size,<-hm];simp)
 unfold execOp
 simp [c,Z.eval f,ag8,aek,p]
def Yl.indexAddr {ix:aiR} {ad:Addr} {y sz:Nat} (f:o.op= .indexAddr t x ix) (h:look σ x=some (.slice (some ad) m c)) (hi:look σ ix=some (.int k (y:Int))) (hy:y<m) (b:BP P t=some sz):Yl P S σ o (.pointer (some (ad.add (y*sz)))):=λa n D Z w p=>by
 unfold BP at b
 split at b
 ·rename_i e l
  obtain ⟨i,g,rfl⟩:=Option.map_eq_some_iff.1 b
  unfold execOp
  have q:¬m<=y:=by omega
  simp [f,Z.eval h,Z.eval hi,Instr.indexAt,asIntOf,run_underlying l,hy,sizeOf,typeInfo,g]
 ·cases b
def nN (P:aiO) (t:aiP):Bool:=match P.underlying t with
 |some (.slice _)=>true
 |_=>false
def Yl.len (b:o.op= .call {callee:= .builtin .len,args:= #[x],argTypes:= #[t]}) (f:look σ x=some (.slice A m c)) (ht:nN P t=true):Yl P S σ o (.int .i64 (m:Int)):=λa n D Z w h=>by
 unfold nN at ht
 split at ht
 ·rename_i e g
  unfold execOp
  simp [b,resolve,invoke,builtin,Z.eval f,Builtin.len_,run_underlying g,goInt]
 ·cases ht
def Yl.min {y:aiR} {ts:Array aiP} {p q:Int} (b:o.op= .call {callee:= .builtin .min,args:= #[x,y],argTypes:=ts}) (c:look σ x=some (.int k p)) (hy:look σ y=some (.int k q)):Yl P S σ o (.int k (if q<p then q else p)):=λa n D Z w e=>by
 unfold execOp
 simp [b,resolve,invoke,builtin,Z.eval c,Z.eval hy,Builtin.min_,Builtin.min2]
def Yl.max {y:aiR} {ts:Array aiP} {p q:Int} (b:o.op= .call {callee:= .builtin .max,args:= #[x,y],argTypes:=ts}) (c:look σ x=some (.int k p)) (hy:look σ y=some (.int k q)):Yl P S σ o (.int k (if q>p then q else p)):=λa n D Z w e=>by
 unfold execOp
 simp [b,resolve,invoke,builtin,Z.eval c,Z.eval hy,Builtin.max_,Builtin.max2]
def Yl.as {u:aiN} (h:Yl P S σ o v) (e:v=u):Yl P S σ o u:=e▸h
def Yl.ix {ix:aiR} (g of y sz:Nat) {m c:Nat} {k:aiT} (b:o.op= .indexAddr t x ix) (e:look σ x=some (.slice (some ⟨g,of,none⟩) m c)) (hi:look σ ix=some (.int k (y:Int))) (hy:y<m:=by omega) (f:BP P t=some sz:=by kernel_rfl):Yl P S σ o (.pointer (some ⟨g,of+y*sz,none⟩)):=
 (Yl.indexAddr (ad:=⟨g,of,none⟩) b e hi hy f).as (by rw [acI])
def Yl.iO {ix:aiR} (g y sz:Nat) {m c:Nat} {k:aiT} (b:o.op= .indexAddr t x ix) (e:look σ x=some (.slice (some ⟨g,0,none⟩) m c)) (hi:look σ ix=some (.int k (y:Int))) (hy:y<m:=by omega) (f:BP P t=some sz:=by kernel_rfl):Yl P S σ o (.pointer (some ⟨g,y*sz,none⟩)):=
 (Yl.indexAddr (ad:=⟨g,0,none⟩) b e hi hy f).as (by rw [acI,aci])
end
end Go.Proofs.YtekiimhdnigmcaaGreatDoor
