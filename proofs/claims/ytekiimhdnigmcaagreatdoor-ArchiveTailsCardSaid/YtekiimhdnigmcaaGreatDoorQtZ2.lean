/- Parts. -/
import Derived.Deep.DeepAppendWide
import Derived.Deep.Upon
import Derived.MapKept
import Derived.IntWalk
import Derived.Maps.RangeRun
import Derived.RangeFuncLeaves
import Derived.Recover
import Derived.Lib.AppendZeros
import Derived.ChangeKeysEq
import Derived.Laws.StructEq
import Derived.Laws.Slices
import Derived.Laws.IdiomCopy
import Derived.Lib.Overlaps
import Derived.Deep.AppendSrc
import Derived.Test.YtekiimhdnigmcaaGreatDoorQtZ1
set_option linter.all false
set_option maxRecDepth 100000
set_option maxHeartbeats 1000000
namespace Go.Proofs.YtekiimhdnigmcaaGreatDoor
open Go.RowKit
open List renaming length→abn
open _root_.Go.Proofs.Tryz renaming prog→abo
open _root_.List renaming length_append→abp,getElem?_eq_getElem→abq,getD_eq_getElem?_getD→abt,append_assoc→abu,length_take→abv,length_map→abx,getElem?_eq_some_iff→abB,length_drop→abC,replicate→abD,mem_of_getElem?→abH,take_of_length_le→abI,length_set→abJ,flatMap_cons→abK,mem_of_mem_drop→abL,append_nil→abP,map_append→abU,mem_map→ab0,take_append_drop→ab1,all_eq_true→ab3,mem_append→ab6,drop_of_length_le→ab9,mem_cons_of_mem→acd,drop_eq_getElem_cons→ace,eq_nil_of_length_eq_zero→ach,getElem_of_mem→aco,range→acp,map_cons→acu,pairwise_iff_getElem→acv,mem_cons_self→acB,lookup_cons→acM,drop_drop→acQ,perm_append_comm→acY,getElem?_map→ac0,map_toArray→ac2,size_toArray→ac8,getElem?_set_self→ac9,nil_append→adg,take_add_one→ado,getElem?_take→adv,map_nil→adw,take_left→adJ,getElem?_cons_succ→adQ,set_getElem_self→adT,setIfInBounds_toArray→ad8,getElem?_toArray→aeC,length_singleton→aeP,findIdx?_eq_some_iff_getElem→aeZ,take_append→ae9,drop_append→afa,mem_filterMap→afe,set_cons_zero→aff,drop_left→afj,toArray_replicate→afN,mem_iff_getElem?→afU,pairwise_append→afX,set_cons_succ→agb,foldl_append→agj,ext_getElem?→agm,count_cons→agJ,map_take→ag5,map_drop→ag7
open Nat renaming le_refl→abr,zero_le→abA,lt_or_ge→ab5,zero_add→ab7,mul_le_mul_right→acn,eq_zero_or_pos→acr,add_zero→acE,mul_one→acX,add_sub_cancel_left→ac3,min_eq_left→ac4,le_trans→ada,succ_mul→adD,mod_lt→adW,le_add_right→ad6,sub_self→aeb,add_mul→aef,sub_zero→aeO,add_comm→aeQ,div_le_self→aeS,strongRecOn→aeT,add_assoc→aeW,or_lt_two_pow→ae3,zero_mul→afR,min→afY,lt_of_le_of_lt→agh,two_pow_pos→agS,mul_ne_zero→agY,one_mul→ahk
open Result renaming andThen_ok→abz
open Int renaming toNat_natCast→abE
open Sem renaming run_bind→abF,run_pure→abN,run→ae4
open Bool renaming and_eq_true→abG,eq_iff_iff→abY,not_eq_true'→acF,false_and→ads,and_false→adt,or_eq_true→adM,not_eq_false'→ad7,false_or→ag6
open Value renaming int→abO,oneCell'→abR
open BitVec renaming ofInt→abV
open Builtin renaming zeroCells→abW,append_→ac7,lenOf→afr,nextslicecap→afH,clear_→agq,copy_→agv
open Fence renaming wide→ab4
open Oper renaming upon_value→acg,wp→acN,upon_skip→aeE,upon_enter→afk,upon→afD,semAt_none→agI
open Go renaming IntKind→acj
open _root_.Array renaming length_toList→acs,toArray_toList→acK,getD_eq_getD_getElem?→acL,getElem?_eq_some_iff→acP,toList_map→adi,map→adu,getElem?_append→adR,getElem_toList→ad3,getElem?_modify→aeH,size_append→aeX,getElem?_eq_getElem→afq,toList_append→afW,range→ag9
open Region renaming ready→acz,wanted→acV,Mode→adY
open Addr renaming add_mid→acC
open Op renaming equalIn→acO,equal→adb
open Code renaming wp→ac1,region→ad5,cond→afE,wp_mono→aha
open Option renaming bind_eq_some_iff→adf,map_eq_some_iff→adn,map_some→aep,map_none→aer
open Go.IntKind renaming wrap→adj
open Instr renaming sliceAt→ady,buildSlice→adF,build→aed,sureAddr→aee,typeAssert→aev,fill→aeN,lookup→aeY,sliceBounds→afc,sliceBound→afl,storeAt→afw,slice→agi,mapUpdate→agt,enterLoop→agu,findNow→agR
open Deferred renaming ofValue→adC
open Extern.SlicesOverlaps renaming overlaps→adU
open Below renaming refl→adX
open World renaming alloc_heap_new→ad2,cell?→aea,frozen?→afs,freeze→afF,shape?→afG
open MapKept renaming run_getObj_map→ael
open Pure renaming pure→aeo
open _root_.Go.ByteArray renaming toList_eq→afB
open IntWalk renaming i64_in→agp
open Act renaming eval→ag4
open Min renaming min→ahg
open List.Sublist renaming refl→ahl
variable {e:Exit->Act->World->Prop} {C ys tmps:Array Value} {t tb u:TypeId} {g m N c i B n sz:Nat} {f:FuncId} {xs vs caps:List Value} {R:Ending->World->Prop} {r1:ResultVar} {v2 z:Value} {x y s:Operand} {w W w':World} {fs F:List Fact} {k:Go.IntKind} {A:Option Addr} {l:List Nat} {P:Program} {o:Oper} {ps:Array (Nat×Operand)} {a:Mb}
section
variable {P:Program} {Q:Exit->Act->World->Prop} {a:Act} {W w:World} {n d:Nat} {D:List Deferred} {σ:List (Nat×Value)} {o:Oper} {v:Value} {K:Act->World->Prop} {fs:List Fact}
def xq (P:Program) (e:TypeId):Option (Array Value):=((P.info? e).bind (·.zero)).map Value.cells
def Wd {b:Value} {e:TypeId} (hr:(execOp a.eval o).run P w= .ok (.value (.pointer (some ⟨w.heap.size,0,none⟩))) (w.alloc (.cells C e))) (Z:Fr a n D σ) (i:Mem W w fs) (j:o.dst=some d) (c:d<n)
  (k:∀f h g,Fr f n D ((d,.pointer (some ⟨g,0,none⟩))::σ)->Mem W h (.blk g C e::fs)->K f h):o.wp P a w K Q:=by
 have _:=b
 unfold acN
 rw [hr,acg,j]
 exact k _ _ _ (Z.put c _) (i.alloc C e)
def Oo (Z:Fr a n D σ) (p:Mem W w fs) {e:TypeId} {C:Array Value} (c:o.op= .alloc e) (hz:xq P e=some C) (q:o.dst=some d) (f:d<n)
  (k:∀l m g,Fr l n D ((d,.pointer (some ⟨g,0,none⟩))::σ)->Mem W m (.blk g C e::fs)->K l m):o.wp P a w K Q:=by
 refine Wd (b:=undef) ?_ Z p q f k
 unfold xq at hz
 obtain ⟨z,h,rfl⟩:=adn.1 hz
 obtain ⟨i,hi,j⟩:=adf.1 h
 unfold execOp
 simp [c,Instr.alloc,zeroValue,typeInfo,hi,j,newVar,newRow,newObj]
 rfl
def zQ (Z:Fr a n D σ) (j:Mem W w fs) {e:TypeId} {x:Operand} (c:o.op= .box e x) (l:look σ x=some v) {C:Array Value} (hc:v.cells=C) (m:o.dst=some d) (f:d<n)
  (k:∀h i g,Fr h n D ((d,.pointer (some ⟨g,0,none⟩))::σ)->Mem W i (.blk g C e::fs)->K h i):o.wp P a w K Q:=by
 subst hc
 refine Wd (b:=undef) ?_ Z j m f k
 unfold execOp
 simp [c,Z.eval l,Instr.box,newVar,newRow,newObj]
 rfl
def Wh {off:Nat} (hs:(P.info? t).map (·.size)=some 1) (c:v.oneCell'=true) {u:Value} (hc:w.cell? ⟨g,off,none⟩=some u) (e:w.frozen? ⟨g,off,none⟩=false):
  (afw t (.pointer (some ⟨g,off,none⟩)) v).run P w= .ok () (w.setCell ⟨g,off,none⟩ v):=by
 have ht:w.there g off 1:=λj f=>by
  obtain rfl:j=0:=by omega
  simp [hc,e]
 have b:v.cells= #[v]:=by cases v<;>first|rfl|cases c
 have:=run_storeVar_mid (P:=P) w g off t #[v] (by simpa using ht) (by simpa using hs) (by simp [c])
 have e2:storeVar t ⟨g,off,none⟩ v=storeVar t ⟨g,off,none⟩ (.agg #[v]):=by
  unfold storeVar
  rw [b]
  rfl
 simp only [afw,aee,abF,abN,abz,e2,this]
 rfl
def qG (Z:Fr a n D σ) (b:Mem W w fs) {t:TypeId} {x y:Operand} {i g off:Nat} {C:Array Value} {tb:TypeId} (c:o.op= .store t x y) (f:o.dst=none) (h:look σ x=some (.pointer (some ⟨g,off,none⟩))) (hy:look σ y=some v) (hs:(P.info? t).map (·.size)=some 1) (j:v.oneCell'=true)
  (hi:fs[i]?=some (.blk g C tb)) (l:off<C.size) (k:∀e,Mem W e (fs.set i (.blk g (C.setIfInBounds off v) tb))->K a e):o.wp P a w K Q:=by
 have m:=b.blk hi
 have hc:w.cell? ⟨g,off,none⟩=some C[off]:=b.cell hi (afq l)
 have p:w.frozen? ⟨g,off,none⟩=false:=by simp [afs,m]
 unfold acN execOp
 simp only [c,Z.eval h,Z.eval hy,abF,Wh hs j hc p,abz,abN,aeE,f]
 exact k _ (b.set hi v)
def Wi (Z:Fr a n D σ) (c:Mem W w fs) {t:TypeId} {x y:Operand} {i g m:Nat} {C ds:Array Value} {tb:TypeId} (b:o.op= .store t x y) (f:o.dst=none) (h:look σ x=some (.pointer (some ⟨g,0,none⟩))) (hy:look σ y=some (.agg ds)) (j:SI P t m) (hc:C.size=m) (hm:ds.size=m) (h1:∀u∈ds.toList,u.oneCell'=true)
  (hi:fs[i]?=some (.blk g C tb)) (k:∀e,Mem W e (fs.set i (.blk g ds tb))->K a e):o.wp P a w K Q:=by
 have l:=c.blk hi
 have p:=run_storeVar_mid (P:=P) w g 0 t ds (by rw [hm];exact Vt l 0 m om) (by rw [hm];exact j.size) (by simpa using all_oneCell_toArray h1)
 unfold acN execOp
 simp only [b,Z.eval h,Z.eval hy,abF,afw,aee,abN,p,abz,aeE,f]
 exact k _ (c.Bo hi om)
def callable (P:Program) (f:FuncId):Bool:=match P.funcs[f]? with
 | some fn => fn.name != "runtime.NumGoroutine" && fn.body.isSome
 |none=>false
def DJ (h:callable P f=true) (args:Array Value) (w:World):(callFunc f args).run P w= .ok (.enter f args) w:=by
 unfold callable at h
 split at h
 ·rename_i fn b
  rw [abG,bne_iff_ne] at h
  have c:fn.body≠none:=by intro e;rw [e] at h;simp at h
  simp [callFunc,b,h.1,c,program,ae4,abF]
 ·cases h
def looks (σ:List (Nat×Value)):List Operand->Option (List Value)
 |[]=>some []
 |x::r=>match look σ x,looks σ r with
  |some v,some b=>some (v::b)
  |_,_=>none
def zR (Z:Fr a n D σ):∀{xs:List Operand} {b:List Value},looks σ xs=some b->xs.map a.eval=b
 |[],b,h=>by cases h;rfl
 | x :: r, b, h => by
  unfold looks at h
  split at h
  ·rename_i v f c e
   injection h with h
   subst h
   rw [acu,Z.eval c,zR Z e]
  ·cases h
def zS (Z:Fr a n D σ) {f:FuncId} {xs:Array Operand} {ts:Array TypeId} {vs:List Value} {R:Ending->World->Prop} (c:o.op= .call {callee:= .value (.func f),args:=xs,argTypes:=ts}) (i:looks σ xs.toList=some vs) (j:callable P f=true) (l:o.dst=some d) (g:d<n)
  (m:Calls P f vs.toArray w R) (k:∀e b,R e b->∃v,e= .returned v/\∀h,Fr h n D ((d,v)::σ)->K h b):o.wp P a w K Q:=by
 have e1:xs.map a.eval=vs.toArray:=by
  have:=zR Z i
  rw [<-this,<-adi,acK]
 unfold acN execOp
 simp only [c,resolve,ag4,adC,invoke,abF,abN,abz]
 have e2:xs.map (λx=>a.eval x)=vs.toArray:=e1
 have e3: #[]++adu a.eval xs++ #[]=vs.toArray:=by simp [e1]
 show afD P o a K Q (((callFunc f (#[]++adu a.eval xs++ #[])).run P w))
 rw [e3,DJ j,afk]
 refine m.mono λe b p=>?_
 obtain ⟨v,rfl,q⟩:=k e b p
 show K (a.put o.dst v) b
 rw [l]
 exact q _ (Z.put g v)
def lq (Z:Fr a n D σ) (vs:List Value) {f:FuncId} {xs:Array Operand} {ts:Array TypeId} {R:Ending->World->Prop} (b:o.op= .call {callee:= .value (.func f),args:=xs,argTypes:=ts}) (i:o.dst=some d) (j:Calls P f vs.toArray w R)
  (k:∀e g,R e g->∃v,e= .returned v/\∀h,Fr h n D ((d,v)::σ)->K h g) (l:looks σ xs.toList=some vs:=by kernel_rfl) (m:callable P f=true:=by kernel_rfl) (c:d<n:=by decide):o.wp P a w K Q:=zS Z b l m i c j k
def jd (Z:Fr a n D σ) (i:Mem W w fs) (vs:List Value) (v:Value) {f:FuncId} {xs:Array Operand} {ts:Array TypeId} (c:o.op= .call {callee:= .value (.func f),args:=xs,argTypes:=ts}) (j:o.dst=some d)
  (l:Calls P f vs.toArray w (λr b=>r= .returned v/\Below w.heap.size w b)) (k:∀b,Below w.heap.size w b->Mem W b fs->∀g,Fr g n D ((d,v)::σ)->K g b) (m:looks σ xs.toList=some vs:=by kernel_rfl) (p:callable P f=true:=by kernel_rfl) (e:d<n:=by decide):o.wp P a w K Q:=
 zS Z c m p j e l λ_ b ⟨q,h⟩=>⟨v,q,k b h (i.call h)⟩
def bT (Z:Fr a n D σ) (e:Mem W w fs) (i:Nat) {t:TypeId} {x y:Operand} {g m:Nat} {C ds:Array Value} {tb:TypeId} (b:o.op= .store t x y) (f:o.dst=none) (h:look σ x=some (.pointer (some ⟨g,0,none⟩))) (hy:look σ y=some (.agg ds)) (hi:fs[i]?=some (.blk g C tb)) (j:SI P t m) (hc:C.size=m) (hm:ds.size=m) (h1:∀u∈ds.toList,u.oneCell'=true)
  (k:∀c,Mem W c (fs.set i (.blk g ds tb))->K a c):o.wp P a w K Q:=Wi Z e b f h hy j hc hm h1 hi k
end
section
variable {P:Program} {Q:Exit->Act->World->Prop} {a:Act} {W w:World} {n d:Nat} {D:List Deferred} {σ:List (Nat×Value)} {o:Oper} {v:Value} {K:Act->World->Prop} {fs:List Fact}
def zk8 {base:Nat} {e:TypeId} {size:Nat} (h:w.ownsRow base e size v m xs) (hm:0<m):∃g c,v= .slice (some ⟨g,0,none⟩) m c/\m<=c:=by
 rcases h.2 with ⟨_,b⟩|⟨g,cap,cur,f,_,_,b,_⟩
 ·omega
 ·exact ⟨g,cap,f,b⟩
def Br {base:Nat} {e:TypeId} {size:Nat} (h:w.ownsRow base e size v m xs):∃A c,v= .slice A m c/\m<=c:=by
 rcases h.2 with ⟨b,f⟩|⟨g,cap,cur,b,_,_,f,_⟩
 ·subst f;exact ⟨_,_,b,abr _⟩
 ·exact ⟨_,cap,b,f⟩
def qV (Z:Fr a n D σ) (h:Mem W w fs) {s x:Operand} {t e:TypeId} {z:Value} {size bytes i b m c B:Nat} {A:Option Addr} {xs news:List Value} (j:o.op= .call {callee:= .builtin .append,args:= #[s,x],argTypes:= #[t,t]}) (F:EI P t e z size bytes)
  (hs:look σ s=some v) (G:look σ x=some (.slice A m c)) (hi:fs[i]?=some (.row v b xs e size)) (hr:Rd w B size A m news) (h1:∀u∈news,u.oneCell'=true) (hb:(b+m)*bytes<=140737488355328) (h63:b+m<=9223372036854775807)
  (H:o.dst=some d) (l:d<n) (k:∀y p q f,Fr y n D ((d,.slice q (b+m) f)::σ)->Mem W p (fs.set i (.row (.slice q (b+m) f) (b+m) (xs++news) e size))->b+m<=f->K y p):o.wp P a w K Q:=
 Vj j F (h.own hi) (Z.eval hs) hr (Z.eval G) h1 hb h63 h.size λq f p C I r=>by
  rw [H]
  refine k _ _ _ _ (Z.put l _) (h.append hi C I r) ?_
  rcases C.2 with ⟨E,J⟩|⟨g,cap,cur,E,_,_,J,_⟩
  ·omega
  ·injection E with _ _ L;omega
def xu (σ:List (Nat×Value)):List (Nat×Operand)->Option (List (Nat×Value))
 |[]=>some []
 |(i,x)::r=>match look σ x,xu σ r with
  |some v,some b=>some ((i,v)::b)
  |_,_=>none
def Wj (Z:Fr a n D σ):∀{ps:List (Nat×Operand)} {b:List (Nat×Value)},xu σ ps=some b->ps.map (λp=>(p.1,a.eval p.2))=b
 |[],b,h=>by cases h;rfl
 | (i, x) :: r, b, h => by
  unfold xu at h
  split at h
  ·rename_i v f c e
   injection h with h
   subst h
   rw [acu,Z.eval c,Wj Z e]
  ·cases h
def Oq (Z:Fr a n D σ) {ps:Array (Nat×Operand)} {vs:List (Nat×Value)} (h:xu σ ps.toList=some vs):ps.map (λp=>(p.1,a.eval p.2))=vs.toArray:=by
 rw [<-Wj Z h,<-adi,acK]
def Lc (z:Array Value) (m:Nat):Array Value:=(ag9 m).map (z[· %z.size]!)
def Wm (Z:Fr a n D σ) (x:Mem W w fs) {t len e:Nat} {ps:Array (Nat×Operand)} {vs:List (Nat×Value)} {z:Value} {size bytes:Nat} {C:Array Value} (f:o.op= .buildSlice t len ps) (h:EI P t e z size bytes) (q:decide (0<len/\len*size<=16777216)=true) (y:xu σ ps.toList=some vs)
  (r:aeN (λi=>some (i*size,size)) (Lc z.cells (len*size)) vs=some C) (A:o.dst=some d) (j:d<n)
  (k:∀s u g,Fr s n D ((d,.slice (some ⟨g,0,none⟩) len len)::σ)->Mem W u (.blk g C e::fs)->K s u):o.wp P a w K Q:=by
 obtain ⟨i,hi,hz,l,_⟩:=info_parts h.hi
 have b:=h.hs
 simp only [decide_eq_true_eq] at q
 have B:¬len*size=0:=by
  have:=Nat.mul_pos q.1 b
  omega
 have E:¬len*size>2^24:=by omega
 have c:(execOp a.eval o).run P w= .ok (.value (.slice (some ⟨w.heap.size,0,none⟩) len len)) (w.alloc (.cells C e)):=by
  unfold execOp
  have m:=Oq Z y
  unfold Lc at r
  simp only [f]
  have e1:(adF t len (ps.map λp=>(p.1,a.eval p.2))).run P w= .ok (.slice (some ⟨w.heap.size,0,none⟩) len len) (w.alloc (.cells C e)):=by
   rw [m]
   unfold adF
   simp only [abF,run_underlying h.ht,abz,sizeOf,typeInfo,program,ae4,hi,abN,l,if_neg E,if_neg B,zeroValue,hz,r,newRow,newObj]
   rfl
  simp only [abF,abN]
  show ((adF t len (ps.map λp=>(p.1,a.eval p.2))).run P w).andThen _=_
  rw [e1]
  rfl
 unfold acN
 rw [c,acg,A]
 exact k _ _ _ (Z.put j _) (x.alloc C e)
theorem Mem.Ld (h:Mem W w fs) {i g m c:Nat} {e:TypeId} {size:Nat} {xs:List Value} (hi:fs[i]?=some (.row (.slice (some ⟨g,0,none⟩) m c) m xs e size)) (off:Nat) {ys:List Value} (hy:∀j u,ys[j]?=some u->xs[off+j]?=some u):w.rangeAt g off ys:=λj u b=>by
 have f:=h.own hi
 have:=f.cells (g:=g) rfl (off+j) u (hy j u b)
 rw [acC,ab7] at this
 exact this
theorem Mem.znh (h:Mem W w fs) {i g m c:Nat} {e:TypeId} {size:Nat} {xs:List Value} (hi:fs[i]?=some (.row (.slice (some ⟨g,0,none⟩) m c) m xs e size)):w.rangeAt g 0 xs:=h.Ld hi 0 (λj u b=>by rw [ab7];exact b)
def E5 (Z:Fr a n D σ) (m:Mem W w fs) {t e:Nat} {z:Value} {size bytes:Nat} (c:o.op= .buildSlice t 0 #[]) (h:EI P t e z size bytes) (p:o.dst=some d) (f:d<n)
  (k:∀j l g,Fr j n D ((d,.slice (some ⟨g,0,none⟩) 0 0)::σ)->Mem W l (.row (.slice (some ⟨g,0,none⟩) 0 0) 0 [] e size::fs)->K j l):o.wp P a w K Q:=by
 obtain ⟨i,hi,hz,q,_⟩:=info_parts h.hi
 have b:(execOp a.eval o).run P w= .ok (.value (.slice (some ⟨w.heap.size,0,none⟩) 0 0)) (w.alloc (.cells #[] e)):=by
  unfold execOp
  simp only [c]
  have e1:(adF t 0 #[]).run P w= .ok (.slice (some ⟨w.heap.size,0,none⟩) 0 0) (w.alloc (.cells #[] e)):=by
   unfold adF
   simp only [abF,run_underlying h.ht,abz,sizeOf,typeInfo,program,ae4,hi,abN,newRow,newObj]
   simp [aeN,show ag9 0= #[] from rfl]
   rfl
  simp only [abF,abN,ac2,adw]
  show ((adF t 0 #[]).run P w).andThen _=_
  rw [e1]
  rfl
 unfold acN
 rw [b,acg,p]
 refine k _ _ w.heap.size (Z.put f _) ?_
 have:=(m.alloc #[] e).fu (i:=0) (size:=size) (n:=0) rfl (by simp) om
 exact this
def zU:Nat->List Value->List (Nat×Value)
 |_,[]=>[]
 |i,v::r=>(i,v)::zU (i+1) r
def E8:∀(b:List Value) (i t:Nat) (v:Value),(zU i b).lookup t=some v->i<=t/\b[t-i]?=some v
 |[],_,_,_,h=>by cases h
 | u :: r, i, t, v, h => by
  rw [zU,acM] at h
  split at h
  ·rename_i e
   rw [beq_iff_eq] at e
   subst e
   exact ⟨abr _,by simpa using h⟩
  ·obtain ⟨f,c⟩:=E8 r (i+1) t v h
   refine ⟨by omega,?_⟩
   rw [show t-i=(t- (i+1))+1 by omega,adQ]
   exact c
def yh {f:Nat} {fn:Func} {c:Code} (g:P.funcs[f]?=some fn) (hb:fn.body=some c) (h:fn.ntmps=N) (i:decide (abn vs<=N)=true) {σ0:List (Nat×Value)} (j:zU 0 vs=σ0)
  (k:∀a,Fr a N [] σ0->c.wp P (bodyPost P fn R) a w):Calls P f vs.toArray w R:=by
 subst j
 rw [decide_eq_true_eq] at i
 refine calls_of_wp g hb (k _ ⟨by simp [h];omega,rfl,λt v l=>?_⟩)
 obtain ⟨_,b⟩:=E8 vs 0 t v l
 rw [aeO] at b
 have e:=(abB.1 b).1
 simp only [acL,adR,ac8,if_pos e]
 simp [b]
def uK (c:Array Value):ResultVar->Sem Value
 | .tmp t=>pure (c.getD t undef)
 | .cell b t=>do loadVar t (<-asAddr (c.getD b undef))
def mE (P:Program) (a:Act) (w:World) (r:ResultVar) (v:Value):Prop:=(uK a.tmps r).run P w= .ok v w
def Bt (fn:Func) (b:Array Value):results fn b=(do
 let c<-fn.results.mapM (uK b)
 pure (if h:c.size=1 then c[0] else .tuple c)):=by
 unfold results
 have:uK b=(λ| .tmp t=>pure (b.getD t undef)| .cell a t=>do loadVar t (<-asAddr (b.getD a undef))):=by
  funext r;cases r<;>rfl
 rw [this]
 rfl
theorem mE.tmp {t:Nat} (Z:Fr a n D σ) (h:σ.lookup t=some v):mE P a w (.tmp t) v:=by
 unfold mE uK
 simp only [Z.slot t v h]
 rfl
theorem mE.cellS {b:Nat} (Z:Fr a n D σ) (e:Mem W w fs) (h:σ.lookup b=some (.pointer (some ⟨g,0,none⟩))) (hi:fs[i]?=some (.blk g C tb)) (c:SI P t m) (hm:C.size=m):mE P a w (.cell b t) (.agg C):=by
 obtain ⟨f,j,k⟩:=c.desc
 have l:=run_loadVar_mid (P:=P) w g 0 t C.toList f (qj (e.blk hi)) j k (by rw [c.size,<-hm];simp)
 unfold mE uK
 simp only [Z.slot b _ h]
 simp [asAddr,l]
theorem mE.cell1 {b:Nat} (Z:Fr a n D σ) (c:Mem W w fs) (h:σ.lookup b=some (.pointer (some ⟨g,0,none⟩))) (hi:fs[i]?=some (.blk g C tb)) (ht:gD P t=true) (hc:C[0]?=some v):mE P a w (.cell b t) v:=by
 unfold mE uK
 simp only [Z.slot b _ h]
 simp [asAddr,loadVar,EZ ht,load,ae4,c.cell hi hc]
section
variable {fn:Func} {R:Ending->World->Prop}
def iM {v1:Value} (hr:fn.results= #[r1]) (Z:Fr a n [] σ) (h1:mE P a w r1 v1) (b:R (.returned v1) w):bodyPost P fn R .ret a w:=
 bodyPost_ret (v:=v1) (by
  unfold mE at h1
  rw [Bt,hr]
  generalize uK a.tmps=f at*
  simp [h1]) Z.defers b
def dI {b:ResultVar} {v1:Value} (hr:fn.results= #[r1,b]) (Z:Fr a n [] σ) (h1:mE P a w r1 v1) (c:mE P a w b v2) (e:R (.returned (.tuple #[v1,v2])) w):bodyPost P fn R .ret a w:=
 bodyPost_ret (v:= .tuple #[v1,v2]) (by
  unfold mE at h1 c
  rw [Bt,hr]
  generalize uK a.tmps=f at*
  simp [h1,c]) Z.defers e
def iN {b c:ResultVar} {v1:Value} (hr:fn.results= #[r1,b,c]) (Z:Fr a n [] σ) (h1:mE P a w r1 v1) (e:mE P a w b v2) (g:mE P a w c z) (h:R (.returned (.tuple #[v1,v2,z])) w):bodyPost P fn R .ret a w:=
 bodyPost_ret (v:= .tuple #[v1,v2,z]) (by
  unfold mE at h1 e g
  rw [Bt,hr]
  generalize uK a.tmps=f at*
  simp [h1,e,g]) Z.defers h
end
def q3c {c:Operand} {x y:Code} (Z:Fr a n D σ) (hc:look σ c=some (.bool true)) (h:x.wp P Q a w):(afE c x y).wp P Q a w:=wp_cond_true (Z.eval hc) h
def Ot {c:Operand} {x y:Code} (Z:Fr a n D σ) (hc:look σ c=some (.bool false)) (h:y.wp P Q a w):(afE c x y).wp P Q a w:=wp_cond_false (Z.eval hc) h
def qz {x y:Code} (R:Act->World->Prop) (h:x.wp P (Exit.then R Q) a w) (k:∀a w,R a w->y.wp P Q a w):(Code.seq x y).wp P Q a w:=
 wp_seq (aha (λe a w b=>by cases e<;>first|exact k _ _ b|exact b) h)
def qg {c:Code} (J:Nat->Act->World->Prop) {m:Nat} (A:J m a w) (round:∀k a w,J k a w->c.wp P (Exit.then (λi j=>∃z,z<k/\J z i j) Q) a w):(Code.loop c).wp P Q a w:=by
 intro b r s
 have key:∀m a w,J m a w->∃e i j,Q e i j/\Arrives P (lone (b.at a (.code c:: .inLoop c::r)) s w) b r s e i j:=by
  intro m
  induction m using aeT with
  | _ m B =>
   intro a w C
   obtain ⟨e,p,q,g,f⟩:=round m a w C b (.inLoop c::r) s
   cases e with
   |normal=>
    obtain ⟨E,t,u⟩:=g
    obtain ⟨e2,F,G,y,h⟩:=B E t p q u
    exact ⟨e2,F,G,y,.of_steps (Steps.trans f (.one step_inLoop)) h⟩
   |exit id=>exact ⟨_,p,q,g,.pass (x:= .inLoop c) rfl (λ_ _=> .inl (by simp)) f⟩
   |goto l=>exact ⟨_,p,q,g,.pass (x:= .inLoop c) rfl (λ_ _=> .inl (by simp)) f⟩
   |ret=>exact ⟨_,p,q,g,.pass (x:= .inLoop c) rfl (λ_ _=> .inl (by simp)) f⟩
   |panic H=>exact ⟨_,p,q,g,.pass (x:= .inLoop c) rfl (λ_ _=> .inl (by simp)) f⟩
   |outgrown=>exact ⟨_,p,q,g,.pass (x:= .inLoop c) rfl (λ_ _=> .inl (by simp)) f⟩
 obtain ⟨e,i,j,g,f⟩:=key m a w A
 exact ⟨e,i,j,g,.of_steps (.one step_loop) f⟩
end
def putAt (xs:List Value) (off:Nat) (vs:List Value):List Value:=xs.take off++vs++xs.drop (off+abn vs)
theorem Le {off:Nat} (h:off+abn vs<=abn xs):abn (putAt xs off vs)=abn xs:=by grind [putAt]
theorem Lf {off:Nat} (h:off+abn vs<=abn xs) (j:Nat):(putAt xs off vs)[j]?=if off<=j/\j<off+abn vs then vs[j-off]? else xs[j]?:=by grind [putAt,abu,List.getElem?_append_left,List.getElem?_append_right,abv,ab5]
def qiq {cur:Array Value} {e:TypeId} (hb:w.heap[g]?=some (.cells cur e (0,0))) (off:Nat) (vs:List Value) (f:off+abn vs<=cur.size):
  (w.setCells g off vs).heap[g]?=some (.cells (putAt cur.toList off vs).toArray e (0,0)):=by
 have c:cur=(cur.toList.take off++(cur.toList.drop off).take (abn vs)++cur.toList.drop (off+abn vs)).toArray:=by
  apply Array.toList_inj.1
  simp only [abu]
  rw [<-acQ,ab1,ab1]
 have b:=NY g e vs w (cur.toList.take off) (cur.toList.drop (off+abn vs)) ((cur.toList.drop off).take (abn vs)) (by rw [<-c];exact hb) (by simp only [abv,abC,acs];omega)
 rw [abv,acs,ac4 om] at b
 exact b
section
variable {P:Program} {Q:Exit->Act->World->Prop} {a:Act} {W w:World} {n d:Nat} {D:List Deferred} {σ:List (Nat×Value)} {o:Oper} {v:Value} {K:Act->World->Prop} {fs:List Fact}
theorem Mem.ou (h:Mem W w fs) {i g m c:Nat} {e:TypeId} {size:Nat} {xs:List Value} (hi:fs[i]?=some (.row (.slice (some ⟨g,0,none⟩) m c) m xs e size)) {off:Nat} {vs:List Value} (r:off+abn vs<=abn xs):
  Mem W (w.setCells g off vs) (fs.set i (.row (.slice (some ⟨g,0,none⟩) m c) m (putAt xs off vs) e size)):=by
 have B:=h.own hi
 obtain ⟨l,C⟩:=B
 rcases C with ⟨f,_⟩|⟨E,cap,cur,b,z,F,p,s,q,ht⟩
 ·cases f
 ·injection b with b G t
  injection b with b
  injection b with b
  subst b;subst t
  have A:m*size<=cur.size:=by rw [q];exact acn _ p
  refine h.turn hi (below_setCells h.below z off vs) (λk H u=>KW _ _ _ _ _ (λe=>u (by rw [e];rfl))) ?_ (λE x=> .inl x)
  refine ⟨by rw [Le r];exact l,.inr ⟨g,c,_,rfl,z,qiq F off vs om,p,s,?_,?_⟩⟩
  ·rw [ac8,Le (by simpa using (by omega:off+abn vs<=cur.size)),acs,q]
  ·show (putAt cur.toList off vs).take (m*size)=putAt xs off vs
   subst ht
   have y:off+abn vs<=abn cur.toList/\off+abn vs<=m*size:=by
    rw [abv,acs] at r
    rw [acs]
    omega
   apply agm
   intro j
   rw [Lf r,adv,adv,Lf y.1]
   by_cases f:off<=j/\j<off+abn vs
   ·rw [if_pos f,if_pos om,if_pos f]
   ·rw [if_neg f,if_neg f]
def Lg (h:Mem W w fs) {i g m c:Nat} {e:TypeId} {size:Nat} {xs:List Value} (hi:fs[i]?=some (.row (.slice (some ⟨g,0,none⟩) m c) m xs e size)) (off k:Nat) (z:off+k<=abn xs):w.there g off k:=by
 have r:=h.own hi
 obtain ⟨p,s⟩:=r
 rcases s with ⟨t,_⟩|⟨A,cap,cur,b,B,u,f,x,j,ht⟩
 ·cases t
 ·injection b with b y l
  injection b with b
  injection b with b
  subst b;subst l
  have q:m*size<=cur.size:=by rw [j];exact acn _ f
  exact Vt u off k om
def zf (Z:Fr a n D σ) (f:Mem W w fs) {t:TypeId} {x y:Operand} {i g off m c:Nat} {xs:List Value} {e:TypeId} {size:Nat} (b:o.op= .store t x y) (j:o.dst=none) (l:look σ x=some (.pointer (some ⟨g,off,none⟩))) (hy:look σ y=some v) (hs:(P.info? t).map (·.size)=some 1) (p:v.oneCell'=true)
  (hi:fs[i]?=some (.row (.slice (some ⟨g,0,none⟩) m c) m xs e size)) (q:off<abn xs) (k:∀h,Mem W h (fs.set i (.row (.slice (some ⟨g,0,none⟩) m c) m (putAt xs off [v]) e size))->K a h):o.wp P a w K Q:=by
 have ht:=Lg f hi off 1 om 0 om
 rw [acE] at ht
 obtain ⟨u,r⟩:=Option.isSome_iff_exists.1 ht.1
 unfold acN execOp
 simp only [b,Z.eval l,Z.eval hy,abF,Wh hs p r ht.2,abz,abN,aeE,j]
 exact k _ (f.ou hi (vs:=[v]) q)
def Wn (Z:Fr a n D σ) (HM:Mem W w fs) {s x:Operand} {t e:TypeId} {z:Value} {size bytes f cap m c B B':Nat} {A E:Option Addr} {xs news:List Value} (N:o.op= .call {callee:= .builtin .append,args:= #[s,x],argTypes:= #[t,t]}) (M:EI P t e z size bytes)
  (hs:look σ s=some (.slice A f cap)) (hx:look σ x=some (.slice E m c)) (l:Rd w B size A f xs) (hr:Rd w B' size E m news) (hm:0<m) (hg:cap<f+m) (r:A=none->f=0/\cap=0) (hb:(f+m)*bytes<=140737488355328) (h63:f+m<=9223372036854775807)
  (hd:o.dst=some d) (O:d<n) (k:∀a' F g p,Fr a' n D ((d,.slice (some ⟨g,0,none⟩) (f+m) p)::σ)->Mem W F (.row (.slice (some ⟨g,0,none⟩) (f+m) p) (f+m) (xs++news) e size::fs)->f+m<=p->K a' F):o.wp P a w K Q:=by
 obtain ⟨i,hi,hz,y,H⟩:=info_parts M.hi
 obtain ⟨R,S,_,h⟩:=hr.row hm
 subst S
 have q:abn (xs++news)=(f+m)*size:=by rw [abp,l.len,hr.len,aef]
 obtain ⟨p,F,I,T⟩:∃p F,(ac7 #[t,t] o.type #[.slice A f cap,.slice (some R) m c]).run P w= .ok (.slice (some ⟨w.heap.size,0,none⟩) (f+m) p) F/\
   (f+m<=p/\p<=maxLen/\F=w.drew.alloc (.cells (xs.toArray++news.toArray++abW z.cells (p- (f+m))) e)):=by
  cases A with
  |none=>
   obtain ⟨rfl,rfl⟩:=r rfl
   have U:xs=[]:=ach (by simpa using l.len)
   subst U
   have C:=run_append_nil (P:=P) w t o.type e i z M.ht hi hz R m c news (by rw [y];exact hr.len) h hm om (by rw [H];rw [ab7] at hb;omega)
   refine ⟨_,_,by rw [ab7];exact C,?_,?_,?_⟩
   ·rw [ab7];exact grownCap_ge w m 0 e
   ·exact grownCap_le_maxLen w m 0 e (by unfold maxLen;omega)
   ·simp
  | some b =>
   have holds:∀j u,xs[j]?=some u->w.cell? (b.add j)=some u:=by
    intro j u V
    rcases acr f with X|X
    ·have J:=l.len
     rw [X,afR] at J
     rw [ach J] at V
     simp at V
    ·obtain ⟨ad',G,_,Y⟩:=l.row X
     injection G with G
     subst G
     exact Y j u V
   have C:=run_append_grow (P:=P) w t o.type e i z M.ht hi hz b f cap xs (by rw [y];exact l.len) holds R m c news (by rw [y];exact hr.len) h hg om (by rw [H];exact growslice_fits hg hb)
   exact ⟨_,_,C,grownCap_ge w (f+m) cap e,grownCap_le_maxLen w (f+m) cap e (by unfold maxLen;omega),rfl⟩
 obtain ⟨G,Y,rfl⟩:=T
 have L:(w.drew.alloc (.cells (xs.toArray++news.toArray++abW z.cells (p- (f+m))) e)).ownsRow w.heap.size e size (.slice (some ⟨w.heap.size,0,none⟩) (f+m) p) (f+m) (xs++news):=by
  refine ⟨q,.inr ⟨w.heap.size,_,_,rfl,abr _,ad2 w.drew _,G,Y,?_,?_⟩⟩
  ·simp only [aeX,ac8,size_zeroCells,M.hz,l.len,hr.len,<-aef]
   congr 1
   omega
  ·simp only [afW,abu]
   rw [<-abu,<-q]
   exact adJ
 unfold acN execOp
 simp only [N,resolve,invoke,builtin,abF,abN,abz,ac2,acu,adw,Z.eval hs,Z.eval hx,I]
 rw [acg,hd]
 exact k _ _ w.heap.size p (Z.put O _) (HM.bX ((adX _ _).drew.alloc (by simp) _) L) G
theorem Mem.dw (h:Mem W w fs) {i m:Nat} {e:TypeId} {size:Nat} {xs ys:List Value} (hi:fs[i]?=some (.row v m xs e size)) (b:xs=ys):Mem W w (fs.set i (.row v m ys e size)):=by grind [abB,adT]
end
def Ou {α:Type} (f:α->List Value) (sz:Nat) (b:∀x,abn (f x)=sz):∀(l:List α) (k:Nat) (x:α),k<abn l->putAt (l.flatMap f) (k*sz) (f x)=(l.set k x).flatMap f
 |[],k,x,h=>by simp at h
 |y::r,0,x,h=>by
  unfold putAt
  rw [afR,ab7,b,abK,aff,abK,List.take_zero,adg,List.drop_append_of_le_length (by rw [b];exact abr _),ab9 (by rw [b];exact abr _),adg]
 | y :: r, k + 1, x, h => by
  have c:=Ou f sz b r k x (by simpa using h)
  unfold putAt at c⊢
  rw [abK,agb,abK,<-c,adD]
  have e1:(f y++r.flatMap f).take (k*sz+sz)=f y++(r.flatMap f).take (k*sz):=by
   rw [ae9,abI (by rw [b];omega),b,Nat.add_sub_cancel]
  have e2:(f y++r.flatMap f).drop (k*sz+sz+abn (f x))=(r.flatMap f).drop (k*sz+abn (f x)):=by
   rw [afa,ab9 (by rw [b];omega),adg,b y]
   congr 1
   omega
  rw [e1,e2]
  simp only [abu]
def uL {α:Type} (f:α->List Value) (sz:Nat) (b:∀x,abn (f x)=sz) (l:List α) (k:Nat) (y x:α) (hk:l[k]?=some y) (off:Nat) (p:off<sz) (v:Value) (q:f x=(f y).set off v):putAt (l.flatMap f) (k*sz+off) [v]=(l.set k x).flatMap f:=by
 obtain ⟨g,r⟩:=abB.1 hk
 rw [<-Ou f sz b l k x g,q]
 have h:=qQ f sz b l
 have s:k*sz+sz<=abn l*sz:=by rw [<-adD];exact acn _ g
 have c:abn ((f y).set off v)=sz:=by rw [abJ,b]
 apply agm
 intro j
 rw [Lf (by rw [aeP];omega),Lf (by rw [c];omega),c,aeP]
 by_cases i:k*sz<=j/\j<k*sz+sz
 ·rw [if_pos i]
  have e:=Dx f sz b l k (j-k*sz) g om
  rw [r,show k*sz+(j-k*sz)=j by omega] at e
  by_cases m:k*sz+off<=j/\j<k*sz+off+1
  ·obtain rfl:j=k*sz+off:=by omega
   rw [if_pos m,aeb,show k*sz+off-k*sz=off by omega,ac9 (by rw [b];exact p)]
   rfl
  ·rw [if_neg m,e,List.getElem?_set_ne om]
 ·rw [if_neg i,if_neg om]
theorem Mem.qu (h:Mem W w fs) {α:Type} {f:α->List Value} {sz:Nat} (p:∀x,abn (f x)=sz) {i g m c:Nat} {e:TypeId} {l:List α} (hi:fs[i]?=some (.row (.slice (some ⟨g,0,none⟩) m c) m (l.flatMap f) e sz)) {k off:Nat} {x:α} {v:Value} (hk:l[k]?=some x) (q:(f x)[off]?=some v):w.cell? ⟨g,k*sz+off,none⟩=some v:=by
 obtain ⟨r,s⟩:=abB.1 hk
 have t:off<sz:=by have:=(abB.1 q).1;rwa [p] at this
 have:=h.Ld hi (k*sz+off) (ys:=[v]) (λj u b=>by
  cases j with
  |zero=>
   injection b with b
   subst b
   rw [acE,Dx f sz p l k off r t,s]
   exact q
  |succ j=>cases b)
 exact this 0 v rfl
section
variable {P:Program} {Q:Exit->Act->World->Prop} {a:Act} {W w:World} {n d:Nat} {D:List Deferred} {σ:List (Nat×Value)} {o:Oper} {K:Act->World->Prop} {fs:List Fact}
def Zr (w:World) (a:Addr) (n k:Nat) (h:k≠a.block):(w.freeze a n).heap[k]?=w.heap[k]?:=by
 unfold afF
 split
 ·rfl
 ·simp only [aeH]
  rw [if_neg om]
def below_freeze {W w:World} (h:Below B W w) {a:Addr} (b:B<=a.block) (n:Nat):Below B W (w.freeze a n):=by
 refine h.trans ⟨?_,?_,?_,?_,λk c=>Zr _ _ _ _ om⟩<;>unfold afF<;>split<;>simp
def qux {w:World} {g m:Nat} {e:TypeId} (hb:w.heap[g]?=some (.cells C e (0,0))):(w.freeze ⟨g,m,none⟩ 1).heap[g]?=some (.cells C e (m,m+1)):=by
 unfold afF
 rw [if_neg de]
 simp [aeH,hb]
def Zt (Z:Fr a n D σ) (b:Mem W w fs) (i:Nat) {t e:TypeId} {x:Operand} {g m c:Nat} {C:Array Value} {te:TypeId} (f:o.op= .convert t t x) (v:look σ x=some (.slice (some ⟨g,0,none⟩) m c)) (hi:fs[i]?=some (.blk g C te)) (ht:P.underlying t=some (.slice e)) (y:P.underlying e=some (.int .u8)) (z:o.dst=some d) (h:d<n)
  (k:∀q r,Fr q n D ((d,.slice (some ⟨g,0,none⟩) m c)::σ)->Mem W r (fs.set i (.obj g (.cells C te (C.size,C.size+1))))->K q r):o.wp P a w K Q:=by
 have s:=b.blk hi
 have u:=b.holds _ (abH hi)
 have j:w.shape? g=some (te,C.size):=by unfold afG;rw [s]
 have A:(execOp a.eval o).run P w= .ok (.value (.slice (some ⟨g,0,none⟩) m c)) (w.freeze ⟨g,C.size,none⟩ 1):=by
  unfold execOp
  simp [f,Z.eval v,convert,run_underlying ht,run_underlying y,markStringish,j]
 unfold acN
 rw [A,acg,z]
 refine k _ _ (Z.put h _) (b.turn hi (below_freeze b.below u.1 1) (λk B l=>Zr _ _ _ _ (λe=>l (by rw [e];rfl))) ⟨u.1,qux s⟩ (λE p=> .inl p))
theorem Mem.vO (h:Mem W w fs) {i g:Nat} {C:Array Value} {t:TypeId} {q:Nat×Nat} {size n:Nat} (hi:fs[i]?=some (.obj g (.cells C t q))) (c:C.size=n*size):Rd w w.heap.size size (some ⟨g,0,none⟩) n C.toList:=
 have b:w.heap[g]?=some (.cells C t q):=(h.holds _ (abH hi)).2
 ⟨by simpa using c,λ_=>⟨_,rfl,zN b,λj u e=>by
  rw [acC,ab7]
  simp only [aea,b]
  simpa using e⟩⟩
end
section
variable {w:World} {B size n:Nat} {A:Option Addr} {xs:List Value} {g o:Nat}
theorem Rd.Wo (h:Rd w B size A n xs) (e:0<n) (hs:0<size):∃g o,A=some ⟨g,o,none⟩/\g<B:=by
 obtain ⟨f,rfl,i,hc⟩:=h.row e
 have j:=h.len
 have k:n*size>=1*1:=Nat.mul_le_mul e hs
 have b:=q2p (hc 0 _ (abq om))
 have c:f.spot=none:=by simpa [Addr.add] using b
 obtain ⟨g,o,sp⟩:=f
 cases c
 exact ⟨g,o,rfl,i⟩
theorem Rd.sat (h:Rd w B size A n xs) (k:Nat) (hk:k<n:=by omega) (hs:0<size:=by decide):∃g o,A=some ⟨g,o,none⟩/\g<B:=h.Wo (agh (abA _) hk) hs
theorem Rd.range (h:Rd w B size (some ⟨g,o,none⟩) n xs):w.rangeAt g o xs:=λj u b=>by
 have f:=(abB.1 b).1
 rcases acr n with rfl|c
 ·have:=h.len;omega
 ·obtain ⟨i,e,k,hc⟩:=h.row c
  injection e with e
  subst e
  have:=hc j u b
  rwa [acC] at this
theorem Rd.Bu (h:Rd w B 1 (some ⟨g,o,none⟩) n xs) {k:Nat} {u:Value} (b:xs[k]?=some u):w.cell? ⟨g,o+k*1,none⟩=some u:=by rw [acX];exact h.range k u b
theorem Rd.qc3 {α:Type} {f:α->List Value} (b:∀x,abn (f x)=size) {l:List α} (h:Rd w B size (some ⟨g,o,none⟩) n (l.flatMap f)) {k:Nat} {x:α} (hk:l[k]?=some x):w.rangeAt g (o+k*size) (f x):=λj u c=>by
 obtain ⟨i,m⟩:=abB.1 hk
 have p:j<size:=by have:=(abB.1 c).1;rwa [b] at this
 have e:=h.range (k*size+j) u ((Dx f size b l k j i p).trans (by rw [m];exact c))
 rw [<-aeW] at e
 exact e
theorem Rd.partAt {α:Type} {f:α->List Value} (b:∀x,abn (f x)=size) {l:List α} (h:Rd w B size (some ⟨g,o,none⟩) n (l.flatMap f)) {k j:Nat} {x:α} {u:Value} (hk:l[k]?=some x) (c:(f x)[j]?=some u):w.cell? ⟨g,o+k*size+j,none⟩=some u:=h.qc3 b hk j u c
end
section
variable {W w:World} {fs:List Fact}
theorem Mem.Wp (h:Mem W w fs) {i g m c:Nat} {e:TypeId} {xs:List Value} (hi:fs[i]?=some (.row (.slice (some ⟨g,0,none⟩) m c) m xs e 1)) {k:Nat} {u:Value} (b:xs[k]?=some u):w.cell? ⟨g,k*1,none⟩=some u:=by
 have f:=h.znh hi k u b
 rwa [ab7,<-acX k] at f
def iB {A:Option Addr} {n m c:Nat} (h:n=m):Value.slice A n c= .slice A m c:=by rw [h]
theorem Mem.aY (h:Mem W w fs) {i n m:Nat} {A:Option Addr} {c size:Nat} {e:TypeId} {xs ys:List Value} (hi:fs[i]?=some (.row (.slice A n c) n xs e size)) (b:n=m) (f:xs=ys):Mem W w (fs.set i (.row (.slice A m c) m ys e size)):=by grind [abB,adT]
end
def uM {α:Type} {F:α->Value} {l:List α} {k:Nat} {x:α} (h:l[k]?=some x):(l.map F)[k]?=some (F x):=by rw [ac0,h];rfl
section
variable {P:Program} {Q:Exit->Act->World->Prop} {a:Act} {W w:World} {n d:Nat} {D:List Deferred} {σ:List (Nat×Value)} {o:Oper} {K:Act->World->Prop} {fs:List Fact}
def zgu (Z:Fr a n D σ) (E:Mem W w fs) {t e:Nat} {l c:Operand} {z:Value} {size bytes m:Nat} {v x:IntKind} (p:o.op= .makeSlice t l c) (y:EI P t e z size bytes) (F:look σ l=some (.int v 0)) (hc:look σ c=some (.int x (m:Int))) (hb:bytes*m<=281474976710656) (h63:m<=9223372036854775807) (G:o.dst=some d) (q:d<n)
  (k:∀C j g,Fr C n D ((d,.slice (some ⟨g,0,none⟩) 0 m)::σ)->Mem W j (.row (.slice (some ⟨g,0,none⟩) 0 m) 0 [] e size::fs)->K C j):o.wp P a w K Q:=by
 obtain ⟨i,hi,hz,r,s⟩:=info_parts y.hi
 obtain ⟨j,b,f,u⟩:=run_make_own (P:=P) w w.heap.size t e i z size y.ht hi hz r v x m (by rw [s];exact hb) h63 (abr _)
 have e1:(execOp a.eval o).run P w= .ok (.value (.slice (some ⟨w.heap.size,0,none⟩) 0 m)) j:=by
  unfold execOp
  simp only [p,Z.eval F,Z.eval hc,abF]
  rw [b]
  rfl
 unfold acN
 rw [e1,acg,G]
 exact k _ _ _ (Z.put q _) (E.bX ((adX _ _).grown u (abr _) (λ_ h=>by cases h)) f)
def xw (Z:Fr a n D σ) (E:Mem W w fs) {t e:Nat} {l c:Operand} {z:Value} {size bytes m:Nat} {v x:IntKind} (p:o.op= .makeSlice t l c) (y:EI P t e z size bytes) (F:look σ l=some (.int v (m:Int))) (hc:look σ c=some (.int x (m:Int))) (hb:bytes*m<=281474976710656) (h63:m<=9223372036854775807) (G:o.dst=some d) (q:d<n)
  (k:∀C j g,Fr C n D ((d,.slice (some ⟨g,0,none⟩) m m)::σ)->Mem W j (.row (.slice (some ⟨g,0,none⟩) m m) m (madeCells z.cells (m*size)).toList e size::fs)->K C j):o.wp P a w K Q:=by
 obtain ⟨i,hi,hz,r,s⟩:=info_parts y.hi
 obtain ⟨j,b,f,u⟩:=run_make_full (P:=P) w w.heap.size t e i z size y.ht hi hz r v x m (by rw [s];exact hb) h63 (abr _)
 have e1:(execOp a.eval o).run P w= .ok (.value (.slice (some ⟨w.heap.size,0,none⟩) m m)) j:=by
  unfold execOp
  simp only [p,Z.eval F,Z.eval hc,abF]
  rw [b]
  rfl
 unfold acN
 rw [e1,acg,G]
 exact k _ _ _ (Z.put q _) (E.bX ((adX _ _).grown u (abr _) (λ_ h=>by cases h)) f)
end
theorem Rd.pre {r:List Nat} (h:Rd w B 1 A m ((l++r).map B8)) (b:abn l=n) (hm:n<=m):Rd w B 1 A n (l.map B8):=by
 have c:=h.upto hm
 rwa [acX,abU,List.take_append_of_le_length (by simp [b]),abI (by simp [b])] at c
theorem Mem.sub (h:Mem W w fs) {i g:Nat} {C:Array Value} {t:TypeId} (hi:fs[i]?=some (.blk g C t)) (off:Nat) {ds:Array Value} (b:(C.toList.drop off).take ds.size=ds.toList):w.rangeAt g off ds.toList:=λj u a=>by
 have c:w.rangeAt g 0 C.toList:=qj (h.blk hi)
 have hc:C.toList[off+j]?=some u:=by
  rw [<-b,adv] at a
  split at a
  ·rwa [List.getElem?_drop] at a
  ·cases a
 have:=c (off+j) u hc
 rwa [ab7] at this
def Lh {α:Type} (F:α->Value) (l:List α) (k:Nat) (x:α) (hk:k<abn l):putAt (l.map F) (k*1) [F x]=(l.set k x).map F:=by
 have b:∀l:List α,l.map F=l.flatMap λx=>[F x]:=λl=>by induction l with
  |nil=>rfl
  |cons a r c=>rw [acu,abK,c];rfl
 rw [b,b,<-Ou (λx=>[F x]) 1 (λ_=>rfl) l k x hk]
section
variable {P:Program} {S:World->Prop} {σ:List (Nat×Value)} {o:Oper}
end
theorem Rd.Bv {k:Nat} (h:Rd w B 1 A n (l.map B8)) (hk:k<=n):Rd w B 1 A k ((l.take k).map B8):=by
 have a:=h.upto hk
 rwa [acX,<-ag5] at a
def aX (x:Int):Value:= .int .i64 x
theorem Mem.Ov {fs':List Fact} (h:Mem W w fs) (n:Nat) (c:List Nat) (o:c.Nodup) (d:(c.all (· <n))=true) (p:Go.Proofs.YtekiimhdnigmcaaGreatDoor.picks fs c++fs.drop n=fs'):Mem W w fs':=by
 subst p
 refine ⟨h.below,λf a=>?_,afX.2 ⟨K6 h.apart o,?_,?_⟩⟩
 ·rcases ab6.1 a with a|a
  ·obtain ⟨j,_,e⟩:=afe.1 a
   exact h.holds f (abH e)
  ·exact h.holds f (abL a)
 ·exact h.apart.sublist (List.drop_sublist _ _)
 ·intro f a g q
  obtain ⟨j,e,k⟩:=afe.1 a
  have r:j<n:=by simpa using ab3.1 d j e
  obtain ⟨i,hi,b⟩:=aco q
  rw [List.getElem_drop] at b
  rw [abC] at hi
  obtain ⟨l,m⟩:=abB.1 k
  have:=acv.1 h.apart j (n+i) l om om
  rwa [m,b] at this
section
open Go.MapKept
section
variable {P:Program} {Q:Exit->Act->World->Prop} {a:Act} {W w:World} {n d:Nat} {D:List Deferred} {σ:List (Nat×Value)} {o:Oper} {K:Act->World->Prop} {fs:List Fact} {S:World->Prop}
theorem Mem.jo (h:Mem W w fs) {i g:Nat} {b:Obj} (hi:fs[i]?=some (.obj g b)):w.heap[g]?=some b:=(h.holds _ (abH hi)).2
theorem Mem.setObj (h:Mem W w fs) {i g:Nat} {q:Obj} (hi:fs[i]?=some (.obj g q)) (c:Obj):Mem W {w with heap:=w.heap.setIfInBounds g c} (fs.set i (.obj g c)):=by
 have f:=h.holds _ (abH hi)
 have j:=zN f.2
 have b:∀k,k≠g->(w.heap.setIfInBounds g c)[k]?=w.heap[k]?:=λk l=>Array.getElem?_setIfInBounds_ne (Ne.symm l)
 refine h.turn hi ⟨h.below.os,h.below.tape,h.below.output,by simpa using h.below.size,λk l=>?_⟩ (λk _ m=>b k (λe=>m (by rw [e];rfl))) ⟨f.1,?_⟩ (λr p=> .inl p)
 ·have:=f.1
  exact (b k om).trans (h.below.block k l)
 ·show (w.heap.setIfInBounds g c)[g]?=some c
  rw [Array.getElem?_setIfInBounds_self]
  simp [j]
def q3d (Z:Fr a n D σ) (h:Mem W w fs) {t:TypeId} (b:o.op= .makeMap t none) (i:o.dst=some d) (c:d<n)
  (k:∀e f g,Fr e n D ((d,.map (some g))::σ)->Mem W f (.obj g (.map #[] 0)::fs)->K e f):o.wp P a w K Q:=by
 have e1:(execOp a.eval o).run P w= .ok (.value (.map (some w.heap.size))) (w.alloc (.map #[] 0)):=by
  unfold execOp
  simp only [b,abF]
  rfl
 unfold acN
 rw [e1,acg,i]
 exact k _ _ _ (Z.put c _) (h.mP _)
def Wq (Z:Fr a n D σ) (e:Mem W w fs) {t kt et:TypeId} {kd:TypeDesc} {m x y:Operand} {i g clock:Nat} {es:Array MapEntry} {key val:Value} (b:o.op= .mapUpdate t m x y\/o.op= .insert t m x y) (j:o.dst=none) (ht:P.underlying t=some (.map kt et)) (hk:P.underlying kt=some kd)
  (hm:look σ m=some (.map (some g))) (l:look σ x=some key) (hy:look σ y=some val) (hi:fs[i]?=some (.obj g (.map es clock))) (c:IsKey kd key) (p:Instr.findNow kd key es.toList 0=some none)
  (k:∀f,Mem W f (fs.set i (.obj g (.map (es.push {key,val,born:=clock}) (clock+1))))->K a f):o.wp P a w K Q:=by
 have h:=e.jo hi
 have e1:(agt t (.map (some g)) key val).run P w= .ok () {w with heap:=w.heap.setIfInBounds g (.map (es.push {key,val,born:=clock}) (clock+1))}:=by
  unfold agt
  simp only [abF,run_underlying ht,abz,ael h,run_checkKey hk c,run_findKey hk p,MapKept.run_setObj_map _ h]
 unfold acN execOp
 rcases b with b|b<;>simp only [b,Z.eval hm,Z.eval l,Z.eval hy,abF,e1,abz,abN,aeE,j]
 ·exact k _ (e.setObj hi _)
 ·exact k _ (e.setObj hi _)
def aaQ {kt et:TypeId} {kd:TypeDesc} {m:Operand} {clock j:Nat} {es:Array MapEntry} {key v:Value} (c:o.op= .lookup t m x false) (ht:P.underlying t=some (.map kt et)) (hk:P.underlying kt=some kd) (hm:look σ m=some (.map (some g))) (e:look σ x=some key) (hb:∀w,S w->w.heap[g]?=some (.map es clock)) (b:IsKey kd key) (f:agR kd key es.toList 0=some (some (j,v))):
  Yl P S σ o v:=λa n D Z w h=>by
 have e1:(aeY t (.map (some g)) key false).run P w= .ok v w:=by
  unfold aeY
  simp only [abF,run_underlying ht,abz,ael (hb w h),abN,run_checkKey hk b,run_findKey hk f]
  rfl
 unfold execOp
 simp only [c,Z.eval hm,Z.eval e,abF,e1,abz,abN]
def aa1 {kt et:TypeId} {kd:TypeDesc} {m:Operand} {clock:Nat} {es:Array MapEntry} {key:Value} (c:o.op= .lookup t m x false) (ht:P.underlying t=some (.map kt et)) (hk:P.underlying kt=some kd) (hm:look σ m=some (.map (some g))) (f:look σ x=some key) (hb:∀w,S w->w.heap[g]?=some (.map es clock)) (b:IsKey kd key) (h:agR kd key es.toList 0=some none) (hz:(P.info? et).bind (·.zero)=some z):
  Yl P S σ o z:=λa n D Z w i=>by
 obtain ⟨j,hi,e⟩:=adf.1 hz
 have e1:(aeY t (.map (some g)) key false).run P w= .ok z w:=by
  unfold aeY
  simp only [abF,run_underlying ht,abz,ael (hb w i),abN,run_checkKey hk b,run_findKey hk h,zeroValue,typeInfo,program,ae4,hi,e]
  rfl
 unfold execOp
 simp only [c,Z.eval hm,Z.eval f,abF,e1,abz,abN]
def Yl.makeFunc {fn:Fn} {xs ys:Array Operand} {fst:List Value} (b:o.op= .makeFunc fn xs ys) (c:looks σ xs.toList=some fst) (hy:looks σ ys.toList=some caps):Yl P S σ o (.func fn fst.toArray caps.toArray):=λa n D Z w e=>by
 have e1:xs.map a.eval=fst.toArray:=by
  have:=zR Z c
  rw [<-this,<-adi,acK]
 have e2:ys.map a.eval=caps.toArray:=by
  have:=zR Z hy
  rw [<-this,<-adi,acK]
 unfold execOp
 simp only [b,Instr.makeFunc,abF,abN,abz]
 show Result.ok (Next.value (.func fn (adu a.eval xs) (adu a.eval ys))) w=_
 rw [e1,e2]
def zg (Z:Fr a n D σ) {fo:Operand} {f:FuncId} {xs:Array Operand} {ts:Array TypeId} {vs fst caps:List Value} {R:Ending->World->Prop} (c:o.op= .call {callee:= .value fo,args:=xs,argTypes:=ts}) (g:look σ fo=some (.func (.func f) fst.toArray caps.toArray)) (j:looks σ xs.toList=some vs) (l:callable P f=true) (m:o.dst=some d) (h:d<n)
  (p:Calls P f (fst++vs++caps).toArray w R) (k:∀e b,R e b->∃v,e= .returned v/\∀i,Fr i n D ((d,v)::σ)->K i b):o.wp P a w K Q:=by
 have e1:xs.map a.eval=vs.toArray:=by
  have:=zR Z j
  rw [<-this,<-adi,acK]
 unfold acN execOp
 simp only [c,resolve,Z.eval g,adC,invoke,abF,abN,abz]
 have e3:fst.toArray++adu a.eval xs++caps.toArray=(fst++vs++caps).toArray:=by simp [e1]
 show afD P o a K Q (((callFunc f (fst.toArray++adu a.eval xs++caps.toArray)).run P w))
 rw [e3,DJ l,afk]
 refine p.mono λe b q=>?_
 obtain ⟨v,rfl,r⟩:=k e b q
 show K (a.put o.dst v) b
 rw [m]
 exact r _ (Z.put h v)
end
end
def kH:acj->Nat
 | .i8=>127| .i16=>32767| .i32=>2147483647| .i64=>9223372036854775807
 | .u8=>255| .u16=>65535| .u32=>4294967295| .u64=>18446744073709551615
theorem xA (k:acj) {m:Nat} (h:m<=kH k):adj k (m:Int)=(m:Int):=by
 cases k<;>simp only [kH] at h
 ·exact IntWalk.i8_in _ om
 ·exact IntWalk.i16_in _ om
 ·exact IntWalk.i32_in _ om
 ·exact agp _ om
 ·exact IntWalk.u8_in _ om
 ·exact IntWalk.u16_in _ om
 ·exact IntWalk.u32_in _ om
 ·exact IntWalk.u64_in _ om
def za {x:Int} (h:x=(m:Int)) (hb:m<=9223372036854775807):abO .i64 (Go.IntKind.i64.wrap x)= .int .i64 (m:Int):=by subst h;rw [xA .i64 hb]
def xB {x:Int} (h:x=(m:Int)) (hb:m<=18446744073709551615):abO .u64 (Go.IntKind.u64.wrap x)= .int .u64 (m:Int):=by subst h;rw [xA .u64 hb]
def Bw {x:Int} (h:x=(m:Int)) (hb:m<=4294967295):abO .u32 (Go.IntKind.u32.wrap x)= .int .u32 (m:Int):=by subst h;rw [xA .u32 hb]
def Wt {x:Int} (h:x=(m:Int)) (hb:m<=255):abO .u8 (Go.IntKind.u8.wrap x)= .int .u8 (m:Int):=by subst h;rw [xA .u8 hb]
def DK (m:Nat):abO .u8 (Go.IntKind.u8.wrap (m:Int))= .int .u8 ((m%256:Nat):Int):=by
 rw [Go.IntKind.wrap_u8];simp
def Wu (m:Nat):abO .u32 (Go.IntKind.u32.wrap (m:Int))= .int .u32 ((m%4294967296:Nat):Int):=by
 rw [Go.IntKind.wrap_u32];simp
def ze (k:acj) (m n:Nat):abO k (Int.tmod (m:Int) (n:Int))= .int k ((m%n:Nat):Int):=by rw [Int.tmod_eq_emod_of_nonneg om];rfl
def q93 (k:acj) {m:Nat} (n:Nat) (h:m<=kH k):abO k (adj k (Int.tdiv (m:Int) (n:Int)))= .int k ((m/n:Nat):Int):=by
 rw [Int.tdiv_eq_ediv_of_nonneg om,show ((m:Int)/ (n:Int))=((m/n:Nat):Int) from rfl,xA k (ada (aeS _ _) h)]
theorem uf (k:acj) (m:Nat) {j:Nat} {p:Int} {q:Nat} (a:p=(j:Int)) (b:2^ (min p.toNat k.bits)=q):abO k (Int.fdiv (m:Int) (2^ (min p.toNat k.bits)))= .int k ((m/q:Nat):Int):=by grind
theorem Ow (w:Nat) {m:Nat} (h:m<2^w):(abV w (m:Int)).toNat=m:=by grind
theorem zgv (k:acj) {m n:Nat} (hm:m<2^k.bits) (a:n<2^k.bits) (hr:m&&&n<=kH k):abO k (adj k (abV k.bits (m:Int)&&&abV k.bits (n:Int)).toNat)= .int k ((m&&&n:Nat):Int):=by grind [Ow,xA]
theorem Ox (k:acj) {m n:Nat} (hm:m<2^k.bits) (a:n<2^k.bits) (hr:m|||n<=kH k):abO k (adj k (abV k.bits (m:Int)|||abV k.bits (n:Int)).toNat)= .int k ((m|||n:Nat):Int):=by grind [Ow,xA]
theorem zgw (k:acj) {m n:Nat} (hm:m<2^k.bits) (a:n<2^k.bits) (hr:m^^^n<=kH k):abO k (adj k (abV k.bits (m:Int)^^^abV k.bits (n:Int)).toNat)= .int k ((m^^^n:Nat):Int):=by grind [Ow,xA]
def Wv (k:acj) {m j n:Nat} (b:n=2^j-1) (c:2^j-1<=kH k) (hm:m<2^k.bits) (a:n<2^k.bits):abO k (adj k (abV k.bits (m:Int)&&&abV k.bits (n:Int)).toNat)= .int k ((m%2^j:Nat):Int):=by
 subst b
 have h:=Nat.and_two_pow_sub_one_eq_mod m j
 rw [zgv k hm a (by rw [h];have:=adW m (agS j);omega),h]
def zk9 {m n:Nat} (hm:m<4294967296) (a:n<4294967296):abO .u32 (Go.IntKind.u32.wrap (abV Go.IntKind.u32.bits (m:Int)|||abV Go.IntKind.u32.bits (n:Int)).toNat)= .int .u32 ((m|||n:Nat):Int):=
 Ox .u32 (by show m<4294967296;omega) (by show n<4294967296;omega) (by have h:m|||n<4294967296:=ae3 (n:=32) (by simpa using hm) (by simpa using a);show _<=4294967295;omega)
def Li {m n:Nat} (hm:m<4294967296) (a:n<4294967296):abO .u32 (Go.IntKind.u32.wrap (abV Go.IntKind.u32.bits (m:Int)^^^abV Go.IntKind.u32.bits (n:Int)).toNat)= .int .u32 ((m^^^n:Nat):Int):=
 zgw .u32 (by show m<4294967296;omega) (by show n<4294967296;omega) (by have h:m^^^n<4294967296:=Nat.xor_lt_two_pow (n:=32) (by simpa using hm) (by simpa using a);show _<=4294967295;omega)
def Ww {j:Nat} (a:n=2^j-1) (b:n<4294967296) (hm:m<4294967296):abO .u32 (Go.IntKind.u32.wrap (abV Go.IntKind.u32.bits (m:Int)&&&abV Go.IntKind.u32.bits (n:Int)).toNat)= .int .u32 ((m%2^j:Nat):Int):=
 Wv .u32 a (by rw [<-a];show n<=4294967295;omega) (by show m<4294967296;omega) (by show n<4294967296;omega)
def Wx {m n:Nat} (hm:m<18446744073709551616) (a:n<18446744073709551616):abO .u64 (Go.IntKind.u64.wrap (abV Go.IntKind.u64.bits (m:Int)|||abV Go.IntKind.u64.bits (n:Int)).toNat)= .int .u64 ((m|||n:Nat):Int):=
 Ox .u64 (by show m<18446744073709551616;omega) (by show n<18446744073709551616;omega) (by have h:m|||n<18446744073709551616:=ae3 (n:=64) (by simpa using hm) (by simpa using a);show _<=18446744073709551615;omega)
def Lj {j:Nat} (a:n=2^j-1) (b:n<18446744073709551616) (hm:m<18446744073709551616):abO .u64 (Go.IntKind.u64.wrap (abV Go.IntKind.u64.bits (m:Int)&&&abV Go.IntKind.u64.bits (n:Int)).toNat)= .int .u64 ((m%2^j:Nat):Int):=
 Wv .u64 a (by rw [<-a];show n<=18446744073709551615;omega) (by show m<18446744073709551616;omega) (by show n<18446744073709551616;omega)
def zla {m n:Nat} (hm:m<9223372036854775808) (a:n<9223372036854775808):abO .i64 (Go.IntKind.i64.wrap (abV Go.IntKind.i64.bits (m:Int)|||abV Go.IntKind.i64.bits (n:Int)).toNat)= .int .i64 ((m|||n:Nat):Int):=
 Ox .i64 (by show m<18446744073709551616;omega) (by show n<18446744073709551616;omega) (by have h:m|||n<9223372036854775808:=ae3 (n:=63) (by simpa using hm) (by simpa using a);show _<=9223372036854775807;omega)
theorem getD_at {α:Type} {l:List α} {k:Nat} (d:α) (h:k<abn l):l[k]?=some (l.getD k d):=by
 rw [abt,abq h];rfl
theorem qf {α:Type} {l:List α} {k:Nat} (d:α) (h:k<abn l):l.getD k d∈l:=abH (getD_at d h)
def getD_lt (a:∀b∈l,b<m) {k:Nat} (h:k<abn l):l.getD k 0<m:=a _ (qf 0 h)
def zfr (P:Program) (t:TypeId):Option Nat:=match P.underlying t with
 |some (.array n e)=>if gD P e=true/\(P.info? e).map (·.size)=some 1 then some n else none
 |_=>none
def Yl.zgk {S:World->Prop} {σ:List (Nat×Value)} {ix:Operand} {y:Nat} {v:Value} (c:o.op= .index t x ix) (h:look σ x=some (.agg C)) (hi:look σ ix=some (.int k (y:Int))) (b:zfr P t=some m) (hy:y<m) (j:C[y]?=some v):Yl P S σ o v:=λa n D Z w p=>by
 unfold zfr at b
 split at b
 ·rename_i q e l
  split at b
  ·rename_i d
   obtain ⟨d,f⟩:=d
   obtain ⟨i,g,f⟩:=adn.1 f
   injection b with b
   subst b
   unfold execOp
   simp [c,Z.eval h,Z.eval hi,Instr.index,asIntOf,run_underlying l,hy,sizeOf,typeInfo,g,f,part,EZ d,j]
  ·cases b
 ·cases b
section
open Go.MapKept
section
variable {P:Program} {Q:Exit->Act->World->Prop} {a:Act} {W w:World} {n d:Nat} {D:List Deferred} {σ:List (Nat×Value)} {o:Oper} {K:Act->World->Prop} {fs:List Fact} {S:World->Prop}
end
end
section
variable {W w w':World} {fs gs fs':List Fact}
theorem Mem.perm (h:Mem W w fs) (c:fs.Perm fs'):Mem W w fs':=
 ⟨h.below,λf d=>h.holds f (c.mem_iff.2 d),(c.pairwise_iff (λ{_ _} b=>b.symm)).1 h.apart⟩
theorem Mem.mQ (h:Mem W w fs) (hs:fs'.Sublist fs):Mem W w fs':=
 ⟨h.below,λf b=>h.holds f (hs.subset b),h.apart.sublist hs⟩
theorem Fact.holds.base {b:Nat} {f:Fact} (h:f.holds b w) (hb:c<=b):f.holds c w:=by
 cases f with
 |blk g d t=>exact ⟨ada hb h.1,h.2⟩
 |obj g o=>exact ⟨ada hb h.1,h.2⟩
 |row v n xs e size=>exact NW h hb
theorem Mem.join (h:Mem W w fs) (k:Mem w w' gs):Mem W w' (gs++fs):=by
 have e:=h.call k.below
 refine ⟨e.below,?_,?_⟩
 ·intro f hm
  rcases ab6.1 hm with hm|hm
  ·exact (k.holds f hm).base h.size
  ·exact e.holds f hm
 ·refine afX.2 ⟨k.apart,h.apart,?_⟩
  intro f b g c x i d
  have j:=((k.holds f b).lt i).1
  have l:=((h.holds g c).lt d).2
  omega
theorem Mem.jT {e:TypeId} {size:Nat} (h:Mem W w fs) (b:Fact.row (.slice A n c) n xs e size∈fs):Rd w w.heap.size size A n xs:=by
 obtain ⟨i,hi⟩:=afU.1 b
 exact h.rd hi
theorem Mem.dW {W w:World} {fs:List Fact} (h:Mem W w fs) {i g:Nat} {C ds:Array Value} {t:TypeId} (hi:fs[i]?=some (.blk g C t)) (b:C=ds):Mem W w (fs.set i (.blk g ds t)):=by grind [abB,adT]
structure Own where
 A:Option Addr
 n:Nat
 c:Nat
 xs:List Value
def aaX (e:TypeId) (size:Nat) (p:Own):Fact:= .row (.slice p.A p.n p.c) p.n p.xs e size
def je (e:TypeId) (size:Nat) (ps:List Own):List Fact:=ps.map (aaX e size)
theorem Mem.znl {e:TypeId} {size:Nat} {ps:List Own} (h:Mem W w (.row (.slice A n c) n xs e size::(fs++je e size ps))):Mem W w (fs++je e size (ps++[⟨A,n,c,xs⟩])):=by
 refine h.perm ?_
 unfold je
 rw [abU,<-abu]
 exact (List.perm_append_singleton _ _).symm
theorem Mem.ow (h:Mem W w fs) (e:TypeId) (size:Nat):Mem W w (fs++je e size []):=by unfold je;simpa using h
end
section
variable {P:Program} {ops:Array Oper} {Q:Exit->Act->World->Prop} {a:Act} {w:World}
end
section
variable {P:Program} {ops:Array Oper} {Q:Exit->Act->World->Prop} {a:Act} {W w:World} {l n N i d:Nat} {D:List Deferred} {σ σ':List (Nat×Value)} {K:Act->World->Prop} {fs:List Fact} {o:Oper}
def OA (f:¬LetsOut Q):∀(e:List Oper),(∀o∈e,∀c,o.op≠ .defer c)->∀a w,wpList P ops Q e a w->wpListIn (Fence.wide.inRound l) 0 P ops Q e a w
 |[],_,_,_,h=>h
 | o :: e, b, a, w, h => by
  unfold wpList at h
  unfold wpListIn
  split at h
  ·rename_i g
   rw [if_pos g]
   exact VY (b o acB) f (λa w h=>OA f e (λo j=>b o (acd _ j)) a w h) h
  ·rename_i g
   rw [if_neg g]
   exact ⟨λ_ _=>trivial,OA f e (λo j=>b o (acd _ j)) _ _ h⟩
def qo {id:Nat} (h:qi P ops Q 0 a w) (b:K4 ops=true:=by kernel_rfl) (c:¬LetsOut Q:=by intro ⟨_,_,h⟩;exact h):(ad5 id ops false).wpIn (Fence.wide.inRound l) 0 P Q a w:=
 wpIn_region_list (OA c _ (λo e=>by
  obtain ⟨j,f⟩:=afU.1 e
  exact VX b (i:=j) (by simpa using f)) a w (by simpa [qi] using h))
def q3j {id:Nat} (e:Mem W w fs) (fs':List Fact) (m:Nat) (b f:List Nat) (h:Mem W w.drew fs->Mem W w.drew fs'->qk P .any ops Q (λg=>Mem W g fs') f ops.size (Array.replicate ops.size false) a w.drew)
  (hm:P.follows .mixedOrders=true:=by kernel_rfl) (j:b.Nodup:=by decide) (c:(b.all (· <m))=true:=by decide) (k:picks fs b++fs.drop m=fs':=by rfl) (p:K4 ops=true:=by kernel_rfl) (q:¬LetsOut Q:=by intro ⟨_,_,h⟩;exact h):(ad5 id ops true).wpIn (Fence.wide.inRound l) 0 P Q a w:=
 wpIn_region_any hm (K5 p q _ _ _ _ (La _ _ _ _ (h e.drew (e.drew.Ov m b j c k))))
def Fe {F:Fence} {c:Operand} {x y:Code} (Z:Fr a n D σ) (hc:look σ c=some (.bool true)) (h:x.wpIn F 0 P Q a w):(afE c x y).wpIn F 0 P Q a w:=wpIn_cond_true (Z.eval hc) h
def Fg {F:Fence} {c:Operand} {x y:Code} (Z:Fr a n D σ) (hc:look σ c=some (.bool false)) (h:y.wpIn F 0 P Q a w):(afE c x y).wpIn F 0 P Q a w:=wpIn_cond_false (Z.eval hc) h
def q3k {F:Fence} {x y:Code} (R:Act->World->Prop) (h:x.wpIn F 0 P (Exit.then R Q) a w) (k:∀a w,R a w->y.wpIn F 0 P Q a w):(Code.seq x y).wpIn F 0 P Q a w:=
 wpIn_seq (wpIn_mono h (λe a w b=>by cases e<;>first|exact k _ _ b|exact b))
def ug (fn:FuncId) (tmps:Array Value) (ps:Array Tmp) (assign body:Code) (D:Nat) (st:LoopState) (b:Option Code):Loop:={state:=st,pending:=b,fn,tmps,params:=ps,assign,body,defers:=D}
abbrev ahU:=λa b=>(.obj a (.loop b):Fact)
def roundEnd (W:World) (l:Nat) (b:LoopState->Option Code->Loop) (R:Ending->World->Prop):Exit->Act->World->Prop
 | .normal,_,w=>∃F,Mem W w (ahU l (b .busy none)::F)/\∀c,Mem W c (ahU l (b .ready none)::F)->R (.returned (.bool true)) c
 | .ret,_,w=>∃F,Mem W w (ahU l (b .busy none)::F)/\∀c,Mem W c (ahU l (b .done (some .ret))::F)->R (.returned (.bool false)) c
 | .exit id,_,w=>∃F,Mem W w (ahU l (b .busy none)::F)/\∀c,Mem W c (ahU l (b .done (some (.exit id)))::F)->R (.returned (.bool false)) c
 |_,_,_=>False
def WH {fn:FuncId} {ps:Array Tmp} {assign body:Code} {args:Array Value} (u:Mem W w (.obj l (.loop (ug fn tmps ps assign body B .ready none))::F)) (hs:args.size=ps.size)
  (h : assign.wpIn (Fence.wide.inRound l) 0 P (Exit.then (λm q => ∃ j, Mem W q (.obj l (.loop (ug fn tmps ps assign body B .ready none)) :: j) /\ ∀ k, Mem W k (.obj l (.loop (ug fn tmps ps assign body B .busy none)) :: j) -> body.wpIn (Fence.wide.inRound l) 0 P (roundEnd W l (ug fn tmps ps assign body B) R) m k) (λ_ _ _ => False))
   {tmps:=(ps.zip args).foldl (λt (p,v)=>t.setIfInBounds p v) tmps,defers:=[]} w):YieldAt ab4 0 P l args w R:=by
 have x:=u.jo (i:=0) rfl
 refine ⟨fn,_,assign,body,run_yield x hs,roundIn_of_wpIn trivial (wpIn_mono h ?_)⟩
 rintro e m q b
 cases e with
 | normal =>
  obtain ⟨j,r,y⟩:=b
  refine ⟨_,run_beginRound (r.jo (i:=0) rfl) rfl,?_⟩
  refine wpIn_mono (y _ (r.setObj (i:=0) rfl _)) ?_
  rintro e z k b
  cases e with
  |normal=>
   obtain ⟨s,f,g⟩:=b
   exact ⟨_,_,run_endRound none (f.jo (i:=0) rfl),g _ (f.setObj (i:=0) rfl _)⟩
  |ret=>
   obtain ⟨s,f,g⟩:=b
   exact ⟨_,_,run_endRound (some .ret) (f.jo (i:=0) rfl),g _ (f.setObj (i:=0) rfl _)⟩
  |exit id=>
   obtain ⟨s,f,g⟩:=b
   exact ⟨_,_,run_endRound (some (.exit id)) (f.jo (i:=0) rfl),g _ (f.setObj (i:=0) rfl _)⟩
  |goto t=>exact b.elim
  |panic c=>exact b.elim
  |outgrown=>exact b.elim
 |exit id=>exact b.elim
 |goto t=>exact b.elim
 |ret=>exact b.elim
 |panic c=>exact b.elim
 |outgrown=>exact b.elim
def Fr.OB {p2:Nat} {v1 v2:Value} (h:Fr {tmps:=tmps,defers:=[]} n D σ) (h1:c<n) (b:p2<n):Fr {tmps:=(#[c,p2].zip #[v1,v2]).foldl (λt (p,v)=>t.setIfInBounds p v) tmps,defers:=[]} n D ((p2,v2)::(c,v1)::σ):=by
 have e:=(h.put h1 v1).put b v2
 simpa [Act.put] using e
def Ll {b:LoopState->Option Code->Loop} {assign body:Code} {v1:Value} (f:∃fn e,b=ug fn e #[c,m] assign body B/\Fr {tmps:=e,defers:=[]} n [] σ) (k:Mem W w (.obj l (.loop (b .ready none))::F)) (h1:c<n) (p:m<n)
  (h:∀a,Fr a n [] ((m,v2)::(c,v1)::σ)->assign.wpIn (Fence.wide.inRound l) 0 P (Exit.then (λq r=>∃g,Mem W r (.obj l (.loop (b .ready none))::g)/\∀j,Mem W j (.obj l (.loop (b .busy none))::g)->body.wpIn (Fence.wide.inRound l) 0 P (roundEnd W l b R) q j) (λ_ _ _=>False)) a w):YieldAt ab4 0 P l #[v1,v2] w R:=by
 obtain ⟨fn,e,rfl,Z⟩:=f
 exact WH k rfl (h _ (Z.OB h1 p))
def OC {a:Act} {w:World} {K K':Act->World->Prop} (m:¬LetsOut Q) (b:∀a w,K a w->K' a w) (h:o.wp P a w K Q\/(o.asks P a w/\LetsOut Q)):o.wpIn ab4 0 P a w K' Q:=by
 rcases h with h|h
 ·refine ⟨λ_ _=>trivial,?_⟩
  rw [show Fence.wide.round=none from rfl,agI]
  unfold acN at h
  generalize (execOp a.eval o).run P w=r at h
  cases r with
  | ok x j =>
   cases x with
   |value v=>exact b _ _ h
   |skip=>exact b _ _ h
   |defer d=>exact b _ _ h
   |enter f args=>
    refine ⟨λh=>by simp [ab4] at h,?_⟩
    show CallsIn ab4 0 P f args j _
    refine (callsIn_wide.2 h).mono ?_
    intro e g k
    cases e with
    |returned v=>exact b _ _ k
    |panicked c=>exact k
    |outgrown=>exact k
   |row r args=>
    refine ⟨λh=>by simp [ab4] at h,λc p _=>?_⟩
    obtain ⟨v,g,q,s⟩:=(h:Rows P r args j _) c p
    exact ⟨v,g,b _ _ q,stepsIn_wide.2 s⟩
   |_=>exact (h:False).elim
  |halt t j=>
   cases t with
   |panic v=>exact h
   |_=>exact (h:False).elim
 ·exact absurd h.2 m
def OD (c:¬LetsOut Q):∀(b:List Oper) (a:Act) (w:World),wpList P ops Q b a w->wpListIn ab4 0 P ops Q b a w
 |[],_,_,h=>h
 | o :: b, a, w, h => by
  unfold wpList at h
  unfold wpListIn
  split at h
  ·rename_i e
   rw [if_pos e]
   exact OC c (λa w h=>OD c b a w h) h
  ·rename_i e
   rw [if_neg e]
   exact ⟨λ_ _=>trivial,OD c b _ _ h⟩
def WI {pre:Array Oper} (p:¬LetsOut Q) (K:Act->World->Prop) (b:List Oper) (q:∀a w,K a w->wpListIn ab4 0 P ops Q b a w):∀(k:List Oper),(∀o∈k,o.guard=none)->∀a w,wpList P pre (Exit.then K Q) k a w->wpListIn ab4 0 P ops Q (k++b) a w
 |[],_,a,w,h=>q a w h
 | o :: k, s, a, w, h => by
  have t:∀x,acV o x=true:=λx=>by unfold acV;rw [s o acB]
  unfold wpList at h
  rw [if_pos (t _)] at h
  show if acV o (yielded ops a.tmps)=true then _ else _
  rw [if_pos (t _)]
  have u:=OC (Q:=Exit.then K Q) (K':=wpListIn ab4 0 P ops Q (k++b)) (λ⟨a,w,h⟩=>p ⟨a,w,h⟩) (λa w h=>WI p K b q k (λo z=>s o (acd _ z)) a w h) h
  refine ⟨u.1,?_⟩
  have g:=u.2
  generalize (o.semAt Fence.wide.round a.eval).run P w=r at g
  cases r with
  | ok x A =>
   cases x with
   |enter f args=>
    refine ⟨g.1,g.2.mono ?_⟩
    intro e m j
    cases e with
    |returned v=>exact j
    |panicked c=>exact j
    |outgrown=>exact j
   |round l f y assign body=>
    refine ⟨g.1,g.2.mono ?_⟩
    intro e m j
    cases e with
    |returned v=>exact j
    |panicked c=>exact j
    |outgrown=>exact j
   |_=>exact g
  |halt B A=>
   cases B with
   |panic v=>exact g
   |_=>exact g
def Lm {id i:Nat} (h:qi P (ops.toList.take i).toArray (Exit.then (λa w=>∃o,ops[i]?=some o/\o.guard=none/\o.wpIn Fence.wide 0 P a w (wpListIn Fence.wide 0 P ops Q (ops.toList.drop (i+1))) Q) Q) 0 a w) (c:((ops.toList.take i).all λo=>o.guard.isNone)=true:=by kernel_rfl) (e:¬LetsOut Q:=by intro ⟨_,_,h⟩;obtain ⟨_,h,_⟩:=h;cases h):(ad5 id ops false).wp P Q a w:=by
 refine wpIn_wide.1 (wpIn_region_list (n:=0) ?_)
 have f:wpList P (ops.toList.take i).toArray (Exit.then (λa w=>∃o,ops[i]?=some o/\o.guard=none/\o.wpIn ab4 0 P a w (wpListIn ab4 0 P ops Q (ops.toList.drop (i+1))) Q) Q) (ops.toList.take i) a w:=by simpa [qi] using h
 have g:=WI (ops:=ops) e _ (ops.toList.drop i) (λa w ⟨o,b,j,h⟩=>by
  obtain ⟨k,m⟩:=acP.1 b
  rw [ace (by simpa using k),ad3,m]
  unfold wpListIn
  rw [if_pos (by unfold acV;rw [j])]
  exact h) (ops.toList.take i) (λo b=>by
  have:=ab3.1 c o b
  simpa using this) a w f
 rwa [ab1] at g
def aam {r:Fact} {es:List Fact} (h:Mem W w (r::(es++F))):Mem W w (r::(F++es)):=h.perm (List.Perm.cons _ acY)
def aah {es:List Fact} (h:Mem W w (F++es)):Mem W w (es++F):=h.perm acY
def aap (es:List Fact) {F:List Fact} (h:Mem W w (es++F)):Mem W w F:=h.mQ (List.sublist_append_right es F)
def uN (Z:Fr a n D σ) {fo:Operand} {xs:Array Operand} {ts:Array TypeId} {vs:List Value} {R:Ending->World->Prop} (q:ops[i]?=some o) (r:o.guard=none) (c:o.op= .call {callee:= .value fo,args:=xs,argTypes:=ts}) (f:look σ fo=some (.func (.yield l) #[] #[])) (s:looks σ xs.toList=some vs) (t:o.dst=some d) (g:d<n)
  (hy:YieldAt Fence.wide 0 P l vs.toArray w R) (u:∀e b,R e b->∃v,e= .returned v) (k:∀v b j,R (.returned v) b->Fr j n D ((d,v)::σ)->qi P ops Q (i+1) j b) (x:¬LetsOut Q:=by intro ⟨_,_,h⟩;obtain ⟨_,h,_⟩:=h;cases h):
  ∃o,ops[i]?=some o/\o.guard=none/\o.wpIn ab4 0 P a w (wpListIn ab4 0 P ops Q (ops.toList.drop (i+1))) Q:=by
 refine ⟨o,q,r,λ_ _=>trivial,?_⟩
 have e1:xs.map a.eval=vs.toArray:=by
  have:=zR Z s
  rw [<-this,<-adi,acK]
 obtain ⟨fn,m,assign,body,y,z⟩:=hy
 rw [show Fence.wide.round=none from rfl,agI]
 unfold execOp
 simp only [c,resolve,Z.eval f,adC,invoke,abF,abN,abz]
 have e2:(#[]:Array Value)++adu a.eval xs++ #[]=vs.toArray:=by simp [e1]
 show Oper.uponIn ab4 0 P o a _ Q ((Instr.yield l (#[]++adu a.eval xs++ #[])).run P w)
 rw [e2,y]
 refine ⟨λh=>by simp [ab4] at h,z.mono ?_⟩
 intro e b p
 obtain ⟨v,rfl⟩:=u e b p
 show wpListIn ab4 0 P ops Q (ops.toList.drop (i+1)) (a.put o.dst v) b
 rw [t]
 exact OD x _ _ _ (k v b _ p (Z.put g v))
def Fh {g:Operand} {ps:Array Tmp} {assign body:Code} (Z:Fr a n [] σ) (H:Mem W w fs) (J:List Fact->Prop) (X:Code->List Fact->Prop) (I:look σ g=some (.func (.func m) #[] caps.toArray)) (x:callable P m=true)
  (y : ∀ (l B : Nat) (b : LoopState -> Option Code -> Loop) (E : World), (∃ fn k, b = ug fn k ps assign body B /\ Fr { tmps := k, defers := [] } n [] σ) -> Mem W E (.obj l (.loop (b .ready none)) :: .obj B (.deferred (some [])) :: fs) ->
   Calls P m (.func (.yield l) #[] #[]::caps).toArray E λr j=>∃v,r= .returned v/\((∃F,J F/\Mem W j (.obj l (.loop (b .ready none)):: .obj B (.deferred (some []))::F))\/∃c F,X c F/\Mem W j (.obj l (.loop (b .done (some c))):: .obj B (.deferred (some []))::F)))
  (p:∀(B:Nat) (s:Act) (j:World) (F:List Fact),J F->Fr s n [{target:= .collected B,args:= #[]}] σ->Mem W j (.obj B (.deferred (some []))::F)->Q .normal s j)
  (q:∀(c:Code) (B:Nat) (s:Act) (j:World) (F:List Fact),X c F->Fr s n [{target:= .collected B,args:= #[]}] σ->Mem W j (.obj B (.deferred (some []))::F)->c.wp P Q s j):
  (Code.rangeFunc g ps assign body).wp P Q a w:=by
 refine (wpIn_wide (n:=0)).1 (wpIn_rangeFunc ?_)
 intro fn _
 show ∃l mark w₁ d w₁' f args w₂,(agu fn a.tmps ps assign body none).run P w= .ok (l,mark) w₁/\_
 have z:=(H.mP (.deferred (some []))).mP (.loop (ug fn a.tmps ps assign body w.heap.size .ready none))
 rw [World.size_alloc] at z
 have A:Fr {tmps:=a.tmps,defers:=[]} n [] σ:=⟨Z.size,rfl,Z.slot⟩
 have t:Fr {a with defers:={target:= .collected w.heap.size,args:= #[]}::a.defers} n [{target:= .collected w.heap.size,args:= #[]}] σ:=⟨Z.size,by show _::a.defers=_;rw [Z.defers],Z.slot⟩
 have G:(agu fn a.tmps ps assign body none).run P w= .ok (w.heap.size+1,[{target:= .collected w.heap.size,args:= #[]}]) ((w.alloc (.deferred (some []))).alloc (.loop (ug fn a.tmps ps assign body w.heap.size .ready none))):=run_enterLoop_outer _ _ _ _ _
 generalize (w.alloc (.deferred (some []))).alloc (.loop (ug fn a.tmps ps assign body w.heap.size .ready none))=W1 at z G
 refine ⟨w.heap.size+1,[{target:= .collected w.heap.size,args:= #[]}],W1,{target:= .fn (.func m) caps.toArray,args:= #[.func (.yield (w.heap.size+1)) #[] #[]]},W1,m,#[.func (.yield (w.heap.size+1)) #[] #[]]++caps.toArray,W1,G,?_,λ_ _=>trivial,?_,λh=>by simp [ab4] at h,?_⟩
 ·simp only [resolve,Z.eval I]
  simp [go_sem]
 ·simp [invoke,go_sem,DJ x]
 ·have e:(#[.func (.yield (w.heap.size+1)) #[] #[]]++caps.toArray:Array Value)=(.func (.yield (w.heap.size+1)) #[] #[]::caps).toArray:=by simp
  rw [e]
  refine callsIn_wide.2 ((y _ _ _ _ ⟨fn,a.tmps,rfl,A⟩ z).mono ?_)
  rintro e j ⟨v,rfl,(⟨F,L,u⟩|⟨c,F,M,u⟩)⟩
  ·have C:=run_endLoop (P:=P) (u.jo (i:=0) rfl) (by simp [ug])
   exact ⟨none,_,C,p _ _ _ F L t (u.setObj (i:=0) rfl _).tail⟩
  ·have C:=run_endLoop (P:=P) (u.jo (i:=0) rfl) (by simp [ug])
   exact ⟨some c,_,C,wpIn_wide.2 (q c _ _ _ F M t (u.setObj (i:=0) rfl _).tail)⟩
def uO (P:Program) (fn:Func) (R:Ending->World->Prop):Exit->Act->World->Prop
 | .normal,a,w| .ret,a,w=>LeavesInM ab4 0 P fn a.tmps R a.defers .returning w
 |_,_,_=>False
def Fj {f N:Nat} {fn:Func} {c:Code} (j:P.funcs[f]?=some fn) (hb:fn.body=some c) (m:fn.ntmps=N) (p:decide (abn vs<=N)=true) {σ0:List (Nat×Value)} (q:zU 0 vs=σ0)
  (k:∀a,Fr a N [] σ0->c.wp P (uO P fn R) a w):Calls P f vs.toArray w R:=by
 subst q
 rw [decide_eq_true_eq] at p
 refine (callsIn_wide (n:=0)).1 (callsIn_of_wp_marks j hb trivial (wpIn_wide.2 (aha (λe a w h=>by cases e<;>first|exact h|exact (h:False).elim) (k _ ⟨by simp [m];omega,rfl,λt v r=>?_⟩))) rfl)
 obtain ⟨_,b⟩:=E8 vs 0 t v r
 rw [aeO] at b
 have g:=(abB.1 b).1
 simp only [acL,adR,ac8,if_pos g]
 simp [b]
section
variable {fn:Func} {R:Ending->World->Prop}
def Fp (h:bodyPost P fn R .ret a w):uO P fn R .ret a w:=by
 obtain ⟨b,v,c,e⟩:=h
 show LeavesInM ab4 0 P fn a.tmps R a.defers .returning w
 rw [b]
 exact ⟨v,c,e⟩
def Bz (Z:Fr a n [{target:= .collected B,args:= #[]}] σ) (b:Mem W w fs) (hi:fs[i]?=some (.obj B (.deferred (some [])))) (h:∀(c:Act) (e:World),Fr c n [] σ->Mem W e (fs.set i (.obj B (.deferred none)))->bodyPost P fn R .ret c e):uO P fn R .ret a w:=by
 obtain ⟨_,v,f,g⟩:=h {tmps:=a.tmps,defers:=[]} _ ⟨Z.size,rfl,Z.slot⟩ (b.setObj hi (.deferred none))
 show LeavesInM ab4 0 P fn a.tmps R a.defers .returning w
 rw [Z.defers]
 exact ⟨λh=>(nomatch h),.inl ⟨B,_,rfl,run_takeDeferred (b.jo hi),v,f,g⟩⟩
def BA (hr:fn.results= #[]) (Z:Fr a n [] σ) (b:R (.returned (.tuple #[])) w):bodyPost P fn R .ret a w:=
 bodyPost_ret (v:= .tuple #[]) (by
  rw [Bt,hr]
  simp) Z.defers b
def iF (hr:fn.results= #[]) (Z:Fr a n [] σ) (b:R (.returned (.tuple #[])) w):bodyPost P fn R .normal a w:=BA hr Z b
end
end
section
variable {P:Program} {Q:Exit->Act->World->Prop} {a:Act} {W w:World} {n d:Nat} {D:List Deferred} {σ:List (Nat×Value)} {o:Oper} {v:Value} {K:Act->World->Prop} {fs:List Fact}
def qO (t:TypeId) (k:Int):List PanicEntry:=[{v:= .iface t (.int .i64 k),recovered:=false}]
def kQ (W:World) (fs:List Fact) (b:List PanicEntry) (r:Ending) (c:World):Prop:=r= .panicked b/\Mem W c fs
def oL (Z:Fr a n D σ) (vs:List Value) {f:FuncId} {xs:Array Operand} {ts:Array TypeId} {g:List PanicEntry} (c:o.op= .call {callee:= .value (.func f),args:=xs,argTypes:=ts})
  (h:Calls P f vs.toArray w (kQ W fs g)) (k:∀b,Mem W b fs->Q (.panic g) a b) (i:looks σ xs.toList=some vs:=by kernel_rfl) (j:callable P f=true:=by kernel_rfl):o.wp P a w K Q:=by
 have e1:xs.map a.eval=vs.toArray:=by
  have:=zR Z i
  rw [<-this,<-adi,acK]
 unfold acN execOp
 simp only [c,resolve,ag4,adC,invoke,abF,abN,abz]
 have e3: #[]++adu a.eval xs++ #[]=vs.toArray:=by simp [e1]
 show afD P o a K Q (((callFunc f (#[]++adu a.eval xs++ #[])).run P w))
 rw [e3,DJ j,afk]
 exact h.mono λe b ⟨l,m⟩=>by subst l;exact k b m
def zja (Z:Fr a n D σ) {x:Operand} {t:TypeId} {u:Value} (b:o.op= .panic x) (c:look σ x=some (.iface t u)) (k:Q (.panic [{v:= .iface t u,recovered:=false}]) a w):o.wp P a w K Q:=by
 unfold acN execOp
 simp only [b,Z.eval c,abF]
 exact k
def Eo (P:Program) (t:TypeId):Bool:=match P.underlying t with
 |some (.interface _)=>false
 |some _=>true
 |none=>false
def Yl.makeInterface {S:World->Prop} (b:o.op= .makeInterface t x) (c:look σ x=some v) (ht:Eo P t=true:=by kernel_rfl):Yl P S σ o (.iface t v):=λa n D Z w e=>by
 unfold Eo at ht
 cases hu:P.underlying t with
 |none=>rw [hu] at ht;cases ht
 |some d=>
  rw [hu] at ht
  unfold execOp
  simp only [b,Z.eval c,Instr.makeInterface,abF,run_underlying hu,abz]
  cases d<;>first|rfl|cases ht
def isIface (P:Program) (t:TypeId):Bool:=match P.underlying t with
 |some (.interface _)=>true
 |_=>false
def qn2 (h:isIface P t=true):∃b,P.underlying t=some (.interface b):=by
 unfold isIface at h
 split at h
 ·rename_i b c;exact ⟨b,c⟩
 ·cases h
def qvr {t e:TypeId} {v:Value} (ht:isIface P t=true) (w:World):(adb t (.iface e v) .nilIface).run P w= .ok false w:=by
 obtain ⟨c,b⟩:=qn2 ht
 have h:∀d,(acO (d+1) t (.iface e v) .nilIface).run P w= .ok false w:=λd=>by
  rw [acO]
  simp only [abF,run_underlying b,abz,abN]
 exact h 9999
def q7t (ht:isIface P t=true) (w:World):(adb t .nilIface .nilIface).run P w= .ok true w:=by
 obtain ⟨c,b⟩:=qn2 ht
 have h:∀d,(acO (d+1) t .nilIface .nilIface).run P w= .ok true w:=λd=>by
  rw [acO]
  simp only [abF,run_underlying b,abz,abN]
 exact h 9999
def aa9 {S:World->Prop} {e:TypeId} (b:o.op= .binOp .neq t x y u) (c:look σ x=some (.iface e v)) (hy:look σ y=some .nilIface) (ht:isIface P t=true:=by kernel_rfl):Yl P S σ o (.bool true):=λa n D Z w f=>by
 unfold execOp
 simp only [b,Z.eval c,Z.eval hy,abF,xk .neq t x y (a:= .iface e v) rfl,abz,binOp,qvr ht,abN]
 rfl
def aaZ {S:World->Prop} (b:o.op= .binOp .neq t x (.const .nilIface) u) (c:look σ x=some .nilIface) (ht:isIface P t=true:=by kernel_rfl):Yl P S σ o (.bool false):=λa n D Z w e=>by
 have e1:a.eval (.const .nilIface)= .nilIface:=rfl
 have e2:(eqGuard .neq t x (.const .nilIface) .nilIface .nilIface).run P w= .ok () w:=by
  unfold eqGuard
  simp
 unfold execOp
 simp only [b,Z.eval c,e1,abF,e2,abz,binOp,q7t ht,abN]
 rfl
def qst (h:Eo P t=true):∃d,P.underlying t=some d/\∀b,d≠ .interface b:=by
 unfold Eo at h
 split at h
 ·cases h
 ·rename_i d c f;exact ⟨d,f,λb e=>c b e⟩
 ·cases h
def aaU {S:World->Prop} {e:TypeId} (b:o.op= .typeAssert x e t true) (c:look σ x=some (.iface t v)) (ht:Eo P t=true:=by kernel_rfl):Yl P S σ o (.tuple #[v,.bool true]):=λa n D Z w h=>by
 obtain ⟨d,f,g⟩:=qst ht
 unfold execOp
 simp only [b,Z.eval c,aev,abF,run_underlying f,abz]
 cases d<;>first|(exact absurd rfl (g _))|simp
def abh {S:World->Prop} {e:TypeId} (b:o.op= .typeAssert x e t true) (f:look σ x=some .nilIface) (hz:(P.info? t).bind (·.zero)=some z) (ht:Eo P t=true:=by kernel_rfl):Yl P S σ o (.tuple #[z,.bool false]):=λa n D Z w j=>by
 obtain ⟨d,g,h⟩:=qst ht
 obtain ⟨i,hi,c⟩:=adf.1 hz
 unfold execOp
 simp only [b,Z.eval f,aev,abF,run_underlying g,abz]
 cases d<;>first|(exact absurd rfl (h _))|rfl|simp [zeroValue,typeInfo,hi,c]
def Iz (Q:Exit->Act->World->Prop):Exit->Act->World->Prop
 | .normal,a,w=>Q .normal a w
 |_,_,_=>False
def zjb {c:Code} (h:c.wp P (Iz Q) a w):c.wp P Q a w:=λb k i=>by
 obtain ⟨e,j,l,g,f⟩:=h b k i
 cases e with
 |normal=>exact ⟨_,j,l,g,f⟩
 |_=>exact g.elim
def Ep {p:Prop} (Z:Fr a n [] σ) (h:p):a.defers=[]/\p:=⟨Z.defers,h⟩
def zjc (Z:Fr a n D σ) {fo:Operand} {f:FuncId} {caps:List Value} {ts:Array TypeId} (b:o.op= .defer {callee:= .value fo,args:= #[],argTypes:=ts}) (c:look σ fo=some (.func (.func f) #[] caps.toArray)) (g:o.dst=none)
  (k:∀e,Fr e n ({target:= .fn (.func f) caps.toArray,args:= #[]}::D) σ->K e w):o.wp P a w K Q:=by
 unfold acN execOp
 simp only [b,resolve,Z.eval c,adC,abF,abN,abz,ac2,adw,Oper.upon_defer,g]
 exact k _ ⟨Z.size,by show _::a.defers=_;rw [Z.defers];rfl,Z.slot⟩
def qsu {f:Nat} {fn:Func} {c:Code} (g:P.funcs[f]?=some fn) (hb:fn.body=some c) (h:fn.ntmps=N) (i:decide (abn vs<=N)=true) {σ0:List (Nat×Value)} (j:zU 0 vs=σ0)
  (k:∀a,Fr a N [] σ0->c.wp P (bodyPostD P fn R) a w):Calls P f vs.toArray w R:=by
 subst j
 rw [decide_eq_true_eq] at i
 refine calls_of_wp_defers g hb (k _ ⟨by simp [h];omega,rfl,λt v l=>?_⟩)
 obtain ⟨_,b⟩:=E8 vs 0 t v l
 rw [aeO] at b
 have e:=(abB.1 b).1
 simp only [acL,adR,ac8,if_pos e]
 simp [b]
def oM (W:World) (fs:List Fact) (e:Ending) (u:FrameMode) (b:World):Prop:=e= .returned (.tuple #[])/\settle u= .returning/\Mem W b fs
def q12 {fn:Func} {c:List PanicEntry} {f:FuncId} {r:ResultVar} (Z:Fr a n [{target:= .fn (.func f) caps.toArray,args:= #[]}] σ) (hc:callable P f=true) (i:CallsD P f caps.toArray (.panicking c) w (oM W fs)) (hr:fn.results= #[r])
  (k:∀b,Mem W b fs->mE P a b r v/\R (.returned v) b):bodyPostD P fn R (.panic c) a w:=by
 show Leaves P fn a.tmps R a.defers (.panicking c) w
 rw [Z.defers]
 refine leaves_cons (f:=f) (args:=caps.toArray) (by simp) (by simp only [invoke];rw [show #[]++caps.toArray=caps.toArray by simp];exact DJ hc _ _) (i.mono λe u b ⟨j,l,m⟩=>?_)
 subst j
 show Leaves P fn a.tmps R [] (settle u) b
 rw [l]
 obtain ⟨h,p⟩:=k b m
 unfold mE at h
 refine ⟨v,?_,p⟩
 rw [Bt,hr]
 generalize uK a.tmps=g at*
 simp [h]
def q7u {fn:Func} {f:FuncId} {r:ResultVar} (Z:Fr a n [{target:= .fn (.func f) caps.toArray,args:= #[]}] σ) (hc:callable P f=true) (h:CallsD P f caps.toArray .returning w (oM W fs)) (hr:fn.results= #[r])
  (k:∀b,Mem W b fs->mE P a b r v/\R (.returned v) b):bodyPostD P fn R .ret a w:=by
 show Leaves P fn a.tmps R a.defers .returning w
 rw [Z.defers]
 refine leaves_cons (f:=f) (args:=caps.toArray) (by simp) (by simp only [invoke];rw [show #[]++caps.toArray=caps.toArray by simp];exact DJ hc _ _) (h.mono λe u b ⟨i,j,l⟩=>?_)
 subst i
 show Leaves P fn a.tmps R [] (settle u) b
 rw [j]
 obtain ⟨c,m⟩:=k b l
 unfold mE at c
 refine ⟨v,?_,m⟩
 rw [Bt,hr]
 generalize uK a.tmps=g at*
 simp [c]
def qyh {ops:Array Oper} (h:o.guard=none):acV o (yielded ops a.tmps)=true:=by unfold acV;rw [h]
def qjx {ops:Array Oper} {j:Exit->Act->List Frame->World->Prop} {e cs':List Frame} {ts:Array TypeId} (Z:Fr a n D σ) (q:ops[i]?=some o) (f:o.op= .call {callee:= .builtin .recover,args:= #[],argTypes:=ts}) (r:o.guard=none) (m:o.dst=some d) (b:d<n)
  (g:(recoverD e=some (v,cs'))\/(recoverD e=none/\v= .nilIface/\cs'=e)) (k:∀p,Fr p n D ((d,v)::σ)->wpOpsS P ops j l p cs' w):wpOpsS P ops j (i::l) a e w:=by
 have c:(execOp a.eval o).run P w= .ok .recover w:=by
  unfold execOp
  simp [f,resolve,invoke,builtin]
 simp only [wpOpsS,q,qyh r,if_true,c]
 rcases g with h|⟨h,rfl,rfl⟩
 ·simp only [h,m]
  exact k _ (Z.put b _)
 ·simp only [h,m]
  exact k _ (Z.put b _)
def qsv {ops:Array Oper} {e:Exit->Act->List Frame->World->Prop} {f:List Frame} (Z:Fr a n D σ) (h:ops[i]?=some o) (j:sM P σ o.op=some v) (m:o.guard=none) (p:o.dst=some d) (c:d<n)
  (k:∀g,Fr g n D ((d,v)::σ)->wpOpsS P ops e l g f w):wpOpsS P ops e (i::l) a f w:=by
 have b:=VZ Z j w
 simp only [wpOpsS,h,qyh m,if_true,b,acg,p]
 exact k _ (Z.put c _)
def qjy {f:Nat} {fn:Func} {c:Code} {u:FrameMode} {R:Ending->FrameMode->World->Prop} (h:P.funcs[f]?=some fn) (hb:fn.body=some c) (i:fn.ntmps=N) (j:decide (abn vs<=N)=true) {σ0:List (Nat×Value)} (l:zU 0 vs=σ0)
  (k:∀(c₀:Frame) (b:List Frame) a,c₀.mode=u->Fr a N [] σ0->c.wpS P (bodyPostS P fn c₀ b R) a (c₀::b) w):CallsD P f vs.toArray u w R:=by
 subst l
 rw [decide_eq_true_eq] at j
 refine callsD_of_wpS h hb λc₀ b m=>k c₀ b _ m ⟨by simp [i];omega,rfl,λt v p=>?_⟩
 obtain ⟨_,e⟩:=E8 vs 0 t v p
 rw [aeO] at e
 have g:=(abB.1 e).1
 simp only [acL,adR,ac8,if_pos g]
 simp [e]
def qsw {fn:Func} {c₀:Frame} {b:List Frame} {u:FrameMode} {R:Ending->FrameMode->World->Prop} (hr:fn.results= #[]) (Z:Fr a n [] σ) (h:R (.returned (.tuple #[])) u w):bodyPostS P fn c₀ b R .normal a ({c₀ with mode:=u}::b) w:=
 ⟨Z.defers,u,rfl,_,(by rw [Bt,hr];simp),h⟩
end
section
variable {P:Program} {W w:World} {l n:Nat} {σ:List (Nat×Value)}
def Fr.Qq {v1:Value} (h:Fr {tmps:=tmps,defers:=[]} n [] σ) (h1:c<n):Fr {tmps:=(#[c].zip #[v1]).foldl (λt (p,v)=>t.setIfInBounds p v) tmps,defers:=[]} n [] ((c,v1)::σ):=by
 have a:=h.put h1 v1
 simpa [Act.put] using a
def qrv {b:LoopState->Option Code->Loop} {assign body:Code} {v1:Value} (e:∃fn d,b=ug fn d #[c] assign body B/\Fr {tmps:=d,defers:=[]} n [] σ) (i:Mem W w (.obj l (.loop (b .ready none))::F)) (h1:c<n)
  (h:∀a,Fr a n [] ((c,v1)::σ)->assign.wpIn (Fence.wide.inRound l) 0 P (Exit.then (λj k=>∃f,Mem W k (.obj l (.loop (b .ready none))::f)/\∀g,Mem W g (.obj l (.loop (b .busy none))::f)->body.wpIn (Fence.wide.inRound l) 0 P (roundEnd W l b R) j g) (λ_ _ _=>False)) a w):YieldAt ab4 0 P l #[v1] w R:=by
 obtain ⟨fn,d,rfl,Z⟩:=e
 exact WH i rfl (h _ (Z.Qq h1))
def Qr (W:World) (fr:List Fact) (J:List Fact->Prop) (e:Ending) (b:World):Prop:=∃a,Mem W b (a++fr)/\e= .returned (.bool true)/\J a
def zk {W:World} {fr:List Fact} {J:List Fact->Prop}:∀(e:Ending) (a:World),Qr W fr J e a->∃v,e= .returned v
 |_,_,⟨_,_,h,_⟩=>⟨_,h⟩
def Y9 (W:World) (J:List Fact->Prop) (r:Ending) (b:World):Prop:=∃v,r= .returned v/\∃a,Mem W b a/\J a
def Za (P:Program) (W:World) (a n:Nat) (Inv:Nat->List Fact->Prop):Prop:=
 ∀(i:Nat) (F fr:List Fact) (w:World) (x:Int),Inv i F->i<n->Mem W w (F++fr)->YieldAt ab4 0 P a #[.int .i64 x] w (Qr W fr (Inv (i+1)))
end
section
variable {P:Program} {ops:Array Oper} {Q:Exit->Act->World->Prop} {a:Act} {w W:World} {n i:Nat} {K:Act->World->Prop} {md:Region.Mode}
def wM:Nat->List (List Bool)
 |0=>[[]]
 |n+1=>(wM n).flatMap λl=>[true::l,false::l]
def qyu:∀(l:List Bool),l∈wM (abn l)
 |[]=>by simp [wM]
 |b::l=>by
  rw [List.length_cons,wM,List.mem_flatMap]
  exact ⟨l,qyu l,by cases b<;>simp⟩
def Ny (md:adY) (ops:Array Oper) (l:List Bool):Bool:=(acp (abn l)).all λk=> !l.getD k false||((ops[k]?).map (·.after.all λe=> !Region.binds md e||l.getD e.on false)).getD false
def oh (md:adY) (ops:Array Oper) (i:Nat):Bool:=
 ((wM i).all λl=> !Ny md ops l||(((acz md (ops.toList.take i).toArray l.toArray).all λj=>Ny md ops (l.set j true))&& (((acz md (ops.toList.take i).toArray l.toArray).isEmpty==l.all id)&& (l.all id||(acz md ops (l++abD (ops.size-i) false).toArray==acz md (ops.toList.take i).toArray l.toArray)))))
 && (Ny md ops (abD i false)&& (((acp (ops.size-i)).all λj=>acz md ops (abD (i+j) true++abD (ops.size-i-j) false).toArray==[i+j])
 && ((acz md ops (abD ops.size true).toArray).isEmpty&& (decide (i<=ops.size)&& ((ops.toList.take i).all λo=>o.guard.isNone)))))
def zm3 (j d:Nat):(abD j true++abD (d+1) false).toArray.setIfInBounds j true=(abD (j+1) true++abD d false).toArray:=by
 rw [ad8]
 congr 1
 rw [List.set_append_right _ _ (by simp),List.length_replicate,aeb,List.replicate_succ,aff,List.replicate_succ',abu]
 rfl
def zf7 {F:Fence} (h1:∀j,i<=j->j<ops.size->acz md ops (abD j true++abD (ops.size-j) false).toArray=[j]) (f:acz md ops (abD ops.size true).toArray=[]):
  ∀(d j:Nat),j+d=ops.size->i<=j->∀a w,wpListIn F n P ops Q (ops.toList.drop j) a w->wpAnyIn F n P md ops Q d (abD j true++abD d false).toArray a w
 |0,j,m,_,a,w,h=>by
  obtain rfl:j=ops.size:=by omega
  rw [ab9 (by simp)] at h
  refine ⟨?_,h⟩
  rw [List.replicate_zero,abP]
  exact f
 | d + 1, j, m, hi, a, w, h => by
  have b:j<ops.size:=by omega
  have c:=h1 j hi b
  rw [show ops.size-j=d+1 by omega] at c
  refine ⟨λg=>(by rw [c] at g;cases g),λq k=>?_⟩
  rw [c,List.mem_singleton] at k
  subst k
  rw [ace (by simpa using b)] at h
  have l:=zf7 (F:=F) h1 f d (q+1) om om
  rw [zm3]
  unfold wpOpIn
  rw [afq b]
  unfold wpListIn at h
  simp only [ad3] at h⊢
  split at h
  ·rename_i e
   rw [if_pos e]
   exact Oper.wpIn_mono l h
  ·rename_i e
   rw [if_neg e]
   exact ⟨h.1,l _ _ h.2⟩
def qs2:∀{l:List Bool} {j:Nat},l[j]?=some false->(l.set j true).count false+1=l.count false
 |[],_,h=>by simp at h
 |b::l,0,h=>by
  simp at h
  subst h
  simp
 |b::l,j+1,h=>by
  have:=qs2 (l:=l) (j:=j) (by simpa using h)
  rw [agb,agJ,agJ]
  omega
def qs3 {l:List Bool}:l.count false=0↔l.all id=true:=by
 rw [List.count_eq_zero,ab3]
 constructor
 ·intro h x b
  cases x with
  |true=>rfl
  |false=>exact absurd b h
 ·intro h b
  have:=h _ b
  cases this
def zm4 (A:oh md ops i=true) (R:¬LetsOut Q) (S:∀a w,K a w->wpListIn ab4 0 P ops Q (ops.toList.drop i) a w):
  ∀(d:Nat) (l:List Bool),abn l=i->l.count false=d->Ny md ops l=true->∀a w,wpAny P md (ops.toList.take i).toArray (Exit.then K Q) d l.toArray a w->wpAnyIn ab4 0 P md ops Q (d+(ops.size-i)) (l++abD (ops.size-i) false).toArray a w:=by
 unfold oh at A
 simp only [abG,decide_eq_true_eq] at A
 obtain ⟨T,_,U,V,hi,X⟩:=A
 have q:abn (ops.toList.take i)=i:=by rw [abv];simp;omega
 have Y:=zf7 (P:=P) (Q:=Q) (F:=ab4) (n:=0) (md:=md) (ops:=ops) (i:=i) (λj h1 h2=>by
  have g:=ab3.1 U (j-i) (List.mem_range.2 om)
  rw [show i+(j-i)=j by omega,show ops.size-i- (j-i)=ops.size-j by omega] at g
  exact eq_of_beq g) (List.isEmpty_iff.1 V)
 intro d
 induction d with
 |zero=>
  intro l y hc s a w h
  have Z:=qs3.1 hc
  have k:l=abD i true:=List.eq_replicate_iff.2 ⟨y,λb hb=>ab3.1 Z b hb⟩
  subst k
  rw [ab7]
  exact Y _ _ om (abr _) _ _ (S _ _ h.2)
 | succ d ih =>
  intro l y hc s a w h
  have g:=ab3.1 T l (by rw [<-y];exact qyu l)
  rw [s,Bool.not_true,ag6,abG] at g
  have m:=g.1
  replace g:=g.2
  have B:l.all id=false:=by
   cases hx:l.all id with
   |false=>rfl
   |true=>rw [qs3.2 hx] at hc;omega
  rw [B,ag6,abG] at g
  have J:=eq_of_beq g.2
  have t:=eq_of_beq g.1
  rw [Nat.succ_add]
  refine ⟨λL=>(by rw [J] at L;rw [L] at t;cases t),λj z=>?_⟩
  rw [J] at z
  have u:=h.2 j z
  have m:=ab3.1 m j z
  obtain ⟨C,o,p,_⟩:=mem_ready.1 z
  have D:j<i:=by
   have:=(acP.1 p).1
   simpa [q] using this
  have E:l[j]?=some false:=by
   have:l.toArray.getD j true=false:=C
   rw [acL,aeC,abq om] at this
   rw [abq om]
   exact congrArg some this
  have G:ops[j]?=some o:=by
   rw [aeC,adv,if_pos D,Array.getElem?_toList] at p
   exact p
  have H:o.guard=none:=by
   have hm:o∈ops.toList.take i:=by
    rw [aeC] at p
    exact abH p
   have:=ab3.1 X o hm
   simpa using this
  have e1:l.toArray.setIfInBounds j true=(l.set j true).toArray:=ad8 ..
  have e2:(l++abD (ops.size-i) false).toArray.setIfInBounds j true=(l.set j true++abD (ops.size-i) false).toArray:=by
   rw [ad8,List.set_append_left _ _ om]
  rw [e1] at u
  rw [e2]
  have hk:=ih (l.set j true) (by rw [abJ];exact y) (by have:=qs2 E;omega) m
  have M:∀x,acV o x=true:=λx=>by unfold acV;rw [H]
  unfold wpOp at u
  rw [p] at u
  simp only [M,if_true] at u
  unfold wpOpIn
  rw [G]
  simp only [M,if_true]
  have N:=OC (Q:=Exit.then K Q) (λ⟨a,w,h⟩=>R ⟨a,w,h⟩) hk u
  refine ⟨N.1,?_⟩
  have g:=N.2
  generalize (o.semAt Fence.wide.round a.eval).run P w=r at g
  cases r with
  | ok x w' =>
   cases x with
   |enter f args=>
    refine ⟨g.1,g.2.mono ?_⟩
    intro e I k
    cases e with
    |returned v=>exact k
    |panicked c=>exact k
    |outgrown=>exact k
   |round l f O assign body=>
    refine ⟨g.1,g.2.mono ?_⟩
    intro e I k
    cases e with
    |returned v=>exact k
    |panicked c=>exact k
    |outgrown=>exact k
   |_=>exact g
  |halt hh w'=>
   cases hh with
   |panic v=>exact g
   |_=>exact g
def TG (P:Program) (ops:Array Oper) (Q:Exit->Act->World->Prop) (i:Nat) (a:Act) (w:World):Prop:=∃o,ops[i]?=some o/\o.guard=none/\o.wpIn ab4 0 P a w (wpListIn ab4 0 P ops Q (ops.toList.drop (i+1))) Q
def q8i {id:Nat} (i:Nat) (S:World->Prop) (d:List Nat) (h:qk P .any (ops.toList.take i).toArray (Exit.then (TG P ops Q i) Q) S d i (Array.replicate i false) a w.drew)
  (hm:P.follows .mixedOrders=true:=by kernel_rfl) (b:oh .any ops i=true:=by kernel_rfl) (e:¬LetsOut Q:=by intro ⟨_,_,h⟩;obtain ⟨_,h,_⟩:=h;cases h):(ad5 id ops true).wp P Q a w:=by
 refine wpIn_wide.1 (wpIn_region_any (n:=0) hm ?_)
 have c:=zm4 (P:=P) (Q:=Q) (K:=TG P ops Q i) b e (λa w ⟨o,f,g,h⟩=>by
  obtain ⟨j,k⟩:=acP.1 f
  rw [ace (by simpa using j),ad3,k]
  unfold wpListIn
  rw [if_pos (by unfold acV;rw [g])]
  exact h) i (abD i false) (by simp) (by simp) (by unfold oh at b;simp only [abG] at b;exact b.2.1) a w.drew (La _ _ _ _ (by rw [afN];exact h))
 unfold oh at b
 simp only [abG,decide_eq_true_eq] at b
 obtain ⟨_,_,_,_,hi,_⟩:=b
 rw [show i+(ops.size-i)=ops.size by omega,List.replicate_append_replicate,show i+(ops.size-i)=ops.size by omega,afN] at c
 exact c
def Di {id:Nat} (i:Nat) {fs:List Fact} (d:Mem W w fs) (fs':List Fact) (m:Nat) (b e:List Nat) (h:Mem W w.drew fs->Mem W w.drew fs'->qk P .any (ops.toList.take i).toArray (Exit.then (TG P ops Q i) Q) (λf=>Mem W f fs') e i (Array.replicate i false) a w.drew)
  (g:b.Nodup:=by decide) (c:(b.all (· <m))=true:=by decide) (j:picks fs b++fs.drop m=fs':=by rfl) (hm:P.follows .mixedOrders=true:=by kernel_rfl) (k:oh .any ops i=true:=by kernel_rfl) (l:¬LetsOut Q:=by intro ⟨_,_,h⟩;obtain ⟨_,h,_⟩:=h;cases h):(ad5 id ops true).wp P Q a w:=
 q8i i _ e (h d.drew (d.drew.Ov m b g c j)) hm k l
end
def aaz {S:World->Prop} {σ:List (Nat×Value)} (b:o.op= .convert 30 9 x) (d:look σ x=some (.slice A n c)) (hr:∀w,S w->Rd w w.heap.size 1 A n (l.map B8)):Yl abo S σ o (.string (jM l)):=λa m D Z w f=>by
 unfold execOp
 simp [b,Z.eval d,zgl (hr w f)]
def sO (l:List Nat):∀u∈l.map B8,u.oneCell'=true:=by
 intro u a
 obtain ⟨x,_,rfl⟩:=ab0.1 a
 rfl
theorem Rd.E9 {k cap:Nat} (h:Rd w B 1 A n (l.map B8)) (hk:k<=n) (hc:n<=cap):Rd w B 1 (if cap=k then A else A.map (·.add (k*1))) (n-k) ((l.drop k).map B8):=by
 have a:=h.from hk hc
 rw [ag7]
 have e:(l.map B8).drop (k*1)=(l.map B8).drop k:=by rw [acX]
 rw [<-e]
 exact a
def Wy (l:List Nat):((jM l).toList==(jM l).toList)=true:=by simp
theorem Mem.le (h:Mem W w fs) {B:Nat} (a:B<=W.heap.size):B<=w.heap.size:=ada a h.size
def mF {x:Int} (h: -9223372036854775808<=x/\x<=9223372036854775807):abO .i64 (IntKind.i64.wrap x)= .int .i64 x:=by rw [agp x h]
def zr (w:World) (er:Nat) (R:List Nat) (r:Ending) (a:World):Prop:=
 (∃A c,r= .returned (.tuple #[.slice A (abn R) c,.int .i64 (er:Int)])/\a.ownsRow w.heap.size 5 1 (.slice A (abn R) c) (abn R) (R.map B8)/\abn R<=c)/\Below w.heap.size w a
section
variable {P:Program} {S:World->Prop} {σ:List (Nat×Value)} {o:Oper} {t e:TypeId} {z:Value} {size bytes:Nat}
def aae (d:EI P t e z size bytes) {x y:Operand} {A:Option Addr} {m c j:Nat} {k:IntKind} (b:o.op= .slice t x (some y) none none) (f:look σ x=some (.slice A m c)) (g:look σ y=some (.int k (j:Int))) (h:j<=m):
  Yl P S σ o (.slice (if c=j then A else A.map (·.add (j*size))) (m-j) (c-j)):=λa n D Z w i=>by
 unfold execOp
 simp only [b,Z.eval f,Z.eval g,aep,aer,abF,abN,qmj (P:=P) d h,abz]
def aag (d:EI P t e z size bytes) {x hi:Operand} {A:Option Addr} {m c j:Nat} {k:IntKind} (b:o.op= .slice t x none (some hi) none) (f:look σ x=some (.slice A m c)) (g:look σ hi=some (.int k (j:Int))) (h:j<=c):
  Yl P S σ o (.slice A j c):=λa n D Z w i=>by
 unfold execOp
 simp only [b,Z.eval f,Z.eval g,aep,aer,abF,abN,qmk (P:=P) d h,abz]
end
section
variable {P:Program} {S:World->Prop} {σ:List (Nat×Value)} {o:Oper}
def placesOf (P:Program):List Field->Option (List (Nat×Nat))
 |[]=>some []
 |f::r=>match P.info? f.type,placesOf P r with
  |some i,some l=>some ((f.offset,i.size)::l)
  |_,_=>none
def Wz:∀{a:List Field} {l:List (Nat×Nat)},placesOf P a=some l->∀w,(a.mapM λf=>(do pure (f.offset,<-sizeOf f.type):Sem (Nat×Nat))).run P w= .ok l w
 |[],l,h,w=>by cases h;rfl
 | f :: r, l, h, w => by
  unfold placesOf at h
  split at h
  ·rename_i i c hi b
   injection h with h
   subst h
   simp [List.mapM_cons,sizeOf,typeInfo,hi]
   have:=Wz b w
   simp [sizeOf,typeInfo] at this
   simp [this]
  ·cases h
def Oy (P:Program) (t:TypeId) (vs:List (Nat×Value)):Option (Array Value):=match P.underlying t,xq P t with
 |some (.struct a),some z=>match placesOf P a.toList with
  |some l=>aeN (l.toArray[·]?) z vs
  |none=>none
 |_,_=>none
def Yl.build {vs:List (Nat×Value)} (b:o.op= .build t ps) (j:xu σ ps.toList=some vs) (hb:Oy P t vs=some C):Yl P S σ o (.agg C):=λa n D Z w q=>by
 have c:=Oq Z j
 have e1:(aed t (ps.map λp=>(p.1,a.eval p.2))).run P w= .ok (.agg C) w:=by
  rw [c]
  unfold Oy at hb
  split at hb
  ·rename_i h z k hz
   split at hb
   ·rename_i l m
    unfold xq at hz
    obtain ⟨r,d,rfl⟩:=adn.1 hz
    obtain ⟨i,hi,g⟩:=adf.1 d
    have hm:(h.mapM λf=>(do aeo (f.offset,<-sizeOf f.type):Sem (Nat×Nat))).run P w= .ok l.toArray w:=by
     rw [<-acK (xs:=h),List.mapM_toArray]
     simp only [Sem.run_map,Wz m]
     rfl
    unfold aed
    simp only [abF,zeroValue,typeInfo,program,ae4,hi,g,abN,abz,run_underlying k,hm,hb]
   ·cases hb
  ·cases hb
 unfold execOp
 simp only [b,abF,abN]
 show ((aed t (ps.map λp=>(p.1,a.eval p.2))).run P w).andThen _=_
 rw [e1]
 rfl
end
def zo {base:Nat} {e:TypeId} {size:Nat} (h:w.ownsRow base e size (.slice A n c) n xs) (b:0<n):∃g,A=some ⟨g,0,none⟩:=by
 obtain ⟨g,d,a,_⟩:=zk8 h b
 injection a with a _ _
 exact ⟨g,a⟩
theorem Mem.rat (h:Mem W w fs) (i k:Nat) {e:TypeId} {size n c:Nat} {A:Option Addr} {xs:List Value} (hi:fs[i]?=some (.row (.slice A n c) n xs e size):=by rfl) (hk:k<n:=by omega):∃g,A=some ⟨g,0,none⟩:=zo (h.own hi) (agh (abA _) hk)
theorem Mem.zV (h:Mem W w fs) {α:Type} {f:α->List Value} {sz:Nat} (a:∀x,abn (f x)=sz) {i g m c:Nat} {e:TypeId} {l:List α} (hi:fs[i]?=some (.row (.slice (some ⟨g,0,none⟩) m c) m (l.flatMap f) e sz)) {k:Nat} {x:α} (hk:l[k]?=some x):w.rangeAt g (k*sz) (f x):=
 h.Ld hi (k*sz) λj u b=>by
  obtain ⟨d,n⟩:=abB.1 hk
  have p:j<sz:=by have:=(abB.1 b).1;rwa [a] at this
  rw [Dx f sz a l k j d p,n]
  exact b
section
variable {P:Program} {S:World->Prop} {σ:List (Nat×Value)} {o:Oper} {v:Value}
def DL (P:Program) (t:TypeId):Bool:=match P.underlying t with
 |some (.func _ _ _)=>true
 |_=>false
def qzs {f:Fn} {xs ys:Array Value} (ht:DL P t=true) (w:World):(adb t (.func f xs ys) .nilFunc).run P w= .ok false w:=by
 unfold DL at ht
 split at ht
 ·rename_i a
  show (acO (9999+1) t (.func f xs ys) .nilFunc).run P w=_
  unfold acO
  simp only [abF,run_underlying a,abz]
  rfl
 ·cases ht
def q3h (ht:DL P t=true) (w:World):(adb t .nilFunc .nilFunc).run P w= .ok true w:=by
 unfold DL at ht
 split at ht
 ·rename_i a
  show (acO (9999+1) t .nilFunc .nilFunc).run P w=_
  unfold acO
  simp only [abF,run_underlying a,abz]
  rfl
 ·cases ht
def aaL {f:Fn} {xs:Array Value} (b:o.op= .binOp .neq t x y u) (c:look σ x=some (.func f xs ys)) (hy:look σ y=some .nilFunc) (ht:DL P t=true):Yl P S σ o (.bool true):=λa n D Z w d=>by
 unfold execOp
 have e:(binOp .neq t (.func f xs ys) .nilFunc).run P w= .ok (.bool true) w:=by
  show ((do aeo (.bool (!(<-adb t (.func f xs ys) .nilFunc))):Sem Value)).run P w=_
  simp [qzs ht]
 simp only [b,Z.eval c,Z.eval hy,abF,xk (P:=P) .neq t x y (a:= .func f xs ys) rfl,abz,e,abN]
def aaT (b:o.op= .binOp .neq t x y u) (c:look σ x=some .nilFunc) (hy:look σ y=some .nilFunc) (ht:DL P t=true):Yl P S σ o (.bool false):=λa n D Z w d=>by
 unfold execOp
 have e:(binOp .neq t .nilFunc .nilFunc).run P w= .ok (.bool false) w:=by
  show ((do aeo (.bool (!(<-adb t .nilFunc .nilFunc))):Sem Value)).run P w=_
  simp [q3h ht]
 simp only [b,Z.eval c,Z.eval hy,abF,xk (P:=P) .neq t x y (a:= .nilFunc) rfl,abz,e,abN]
def aaM {m:Nat} (b:o.op= .unOp .xor t x) (d:look σ x=some (.int .u32 (m:Int))) (hm:m<4294967296):Yl P S σ o (.int .u32 ((m^^^4294967295:Nat):Int)):=λa n D Z w e=>by
 have c:=Li (m:=4294967295) (n:=m) de hm
 rw [Nat.xor_comm] at c
 unfold execOp
 simp only [b,Z.eval d,Op.unary]
 rw [<-c]
 rfl
def WC (P:Program) (t:TypeId):Option (Nat×Nat):=match P.underlying t with
 |some (.array n e)=>(P.info? e).map λi=>(n,i.size)
 |_=>none
def Yl.sP {ix:Operand} {ad:Addr} {y:Nat} {k:IntKind} (c:o.op= .indexAddr t x ix) (f:look σ x=some (.pointer (some ad))) (hi:look σ ix=some (.int k (y:Int))) (b:WC P t=some (m,sz)) (hy:y<m):Yl P S σ o (.pointer (some (ad.add (y*sz)))):=λa n D Z w l=>by
 unfold WC at b
 split at b
 ·rename_i p e g
  obtain ⟨i,d,b⟩:=adn.1 b
  injection b with h j
  subst h;subst j
  unfold execOp
  simp [c,Z.eval f,Z.eval hi,Instr.indexAt,asIntOf,run_underlying g,hy,sizeOf,typeInfo,d,aee]
 ·cases b
def aal {e:TypeId} {size bytes:Nat} (g:EI P t e z size bytes) {x y hi:Operand} {A:Option Addr} {m c i j:Nat} {k h:IntKind} (f:o.op= .slice t x (some y) (some hi) none) (p:look σ x=some (.slice A m c)) (q:look σ y=some (.int k (i:Int))) (r:look σ hi=some (.int h (j:Int))) (b:i<=j) (l:j<=c):
  Yl P S σ o (.slice (if c=i then A else A.map (·.add (i*size))) (j-i) (c-i)):=λa n D Z w B=>by
 obtain ⟨s,d,_,hs,_⟩:=info_parts g.hi
 have u:i<=c:=ada b l
 have e1:(ady t (.slice A m c) (some (.int k (i:Int))) (some (.int h (j:Int))) none).run P w= .ok (.slice (if c=i then A else A.map (·.add (i*size))) (j-i) (c-i)) w:=by
  subst hs
  simp [ady,run_underlying g.ht,agi,afc,afl,asIntOf,b,l,sizeOf,typeInfo,d]
 unfold execOp
 simp only [f,Z.eval p,Z.eval q,Z.eval r,aep,aer,abF,e1,abz]
 rfl
def WE (P:Program) (t:TypeId):Option Nat:=match P.underlying t with
 |some (.array n _)=>some n
 |_=>none
def Yl.arrayAt {k:Nat} (b:o.op= .sliceToArrayPointer t x) (d:look σ x=some (.slice A m c)) (ht:WE P t=some k) (hk:k<=m):Yl P S σ o (.pointer A):=λa n D Z w g=>by
 unfold WE at ht
 split at ht
 ·rename_i h e f
  injection ht with ht;subst ht
  unfold execOp
  simp [b,Z.eval d,Instr.arrayAt,run_underlying f,Nat.not_lt.2 hk]
 ·cases ht
end
theorem Rd.mid {size j:Nat} (h:Rd w B size A n xs) (a:i<=j) (e:j<=n) (hc:n<=c):
  Rd w B size (if c=i then A else A.map (·.add (i*size))) (j-i) ((xs.take (j*size)).drop (i*size)):=by
 have b:=h.from (k:=i) (cap:=c) om hc
 have d:=b.upto (k:=j-i) om
 rw [List.drop_take,<-Nat.sub_mul]
 exact d
theorem Rd.xC {j:Nat} (h:Rd w B 1 A n (l.map B8)) (a:i<=j) (d:j<=n) (hc:n<=c):
  Rd w B 1 (if c=i then A else A.map (·.add (i*1))) (j-i) (((l.take j).drop i).map B8):=by
 have b:=h.mid a d hc
 rw [acX,acX,<-ag5,<-ag7] at b
 rw [acX]
 exact b
section
variable {W w:World} {fs:List Fact}
theorem Mem.lu (h:Mem W w fs) {g:Nat} {a:Obj} (hb:W.heap[g]?=some a):w.heap[g]?=some a:=(h.below.block g (zN hb)).trans hb
theorem Mem.mG (h:Mem W w fs) {g off:Nat} {C:Array Value} {t:TypeId} {v:Value} (hb:W.heap[g]?=some (.cells C t (0,0))) (hc:C[off]?=some v):w.cell? ⟨g,off,none⟩=some v:=by
 simp [aea,h.lu hb,hc]
theorem Mem.znk (h:Mem W w fs) {g:Nat} {C:Array Value} {t:TypeId} (hb:W.heap[g]?=some (.cells C t (0,0))):w.rangeAt g 0 C.toList:=qj (h.lu hb)
end
section
variable {P:Program} {S:World->Prop} {σ:List (Nat×Value)} {o:Oper}
def abb {e:TypeId} {size bytes:Nat} (g:EI P t e z size bytes) {x y hi s:Operand} {A:Option Addr} {m c i j q:Nat} {k h k2:IntKind} (d:o.op= .slice t x (some y) (some hi) (some s)) (l:look σ x=some (.slice A m c)) (p:look σ y=some (.int k (i:Int))) (r:look σ hi=some (.int h (j:Int))) (hm:look σ s=some (.int k2 (q:Int))) (f:i<=j) (u:j<=q) (v:q<=c):
  Yl P S σ o (.slice (if q=i then A else A.map (·.add (i*size))) (j-i) (q-i)):=λa n D Z w C=>by
 obtain ⟨B,b,_,hs,_⟩:=info_parts g.hi
 have e1:(ady t (.slice A m c) (some (.int k (i:Int))) (some (.int h (j:Int))) (some (.int k2 (q:Int)))).run P w= .ok (.slice (if q=i then A else A.map (·.add (i*size))) (j-i) (q-i)) w:=by
  subst hs
  simp [ady,run_underlying g.ht,agi,afc,afl,asIntOf,f,u,v,sizeOf,typeInfo,b]
 unfold execOp
 simp only [d,Z.eval l,Z.eval p,Z.eval r,Z.eval hm,aep,abF,e1,abz]
 rfl
end
def Yy {α:Type} (f:α->List Value) (sz:Nat) (a:∀x,abn (f x)=sz):∀(l:List α) (k:Nat),(l.flatMap f).take (k*sz)=(l.take k).flatMap f
 |[],_=>by simp
 |_::_,0=>by simp
 |x::l,k+1=>by
  rw [abK,List.take_succ_cons,abK,ae9,abI (by rw [a,adD];omega),a,<-Yy f sz a l k]
  congr 2
  rw [adD];omega
def Yz {α:Type} (f:α->List Value) (sz:Nat) (a:∀x,abn (f x)=sz):∀(l:List α) (k:Nat),(l.flatMap f).drop (k*sz)=(l.drop k).flatMap f
 |[],_=>by simp
 |_::_,0=>by simp
 |x::l,k+1=>by
  rw [abK,List.drop_succ_cons,afa,ab9 (by rw [a,adD];omega),a,<-Yz f sz a l k,adg]
  congr 1
  rw [adD];omega
theorem Rd.znp {α:Type} {f:α->List Value} (a:∀x,abn (f x)=sz) {w:World} {B k c:Nat} {A:Option Addr} {l:List α} (h:Rd w B sz A (abn l) (l.flatMap f)) (hk:k<=abn l) (hc:abn l<=c):Rd w B sz (if c=k then A else A.map (·.add (k*sz))) (abn (l.drop k)) ((l.drop k).flatMap f):=by
 have b:=h.from hk hc
 rwa [Yz f sz a,<-abC] at b
theorem yF {α:Type} {l:List α} {k:Nat} (d:α) (h:k<abn l):l.take (k+1)=l.take k++[l.getD k d]:=by simp_all
section
variable {P:Program} {Q:Exit->Act->World->Prop} {a:Act} {W w:World} {n d:Nat} {D:List Deferred} {σ:List (Nat×Value)} {o:Oper} {K:Act->World->Prop} {fs:List Fact} {S:World->Prop}
def Yl.cap (b:o.op= .call {callee:= .builtin .cap,args:= #[x],argTypes:= #[t]}) (f:look σ x=some (.slice A m c)) (ht:nG P t=true):Yl P S σ o (.int .i64 (c:Int)):=λa n D Z w h=>by
 unfold nG at ht
 split at ht
 ·rename_i e g
  unfold execOp
  simp [b,resolve,invoke,builtin,Z.eval f,Builtin.cap_,run_underlying g,goInt]
 ·cases ht
def qoh (Z:Fr a n D σ) (A:Mem W w fs) {s x:Operand} {t tn e:TypeId} {z:Value} {size bytes m:Nat} {kn k:IntKind} (h:o.op= .call {callee:= .builtin .append,args:= #[s,x],argTypes:= #[t,tn]}) (c:EI P t e z size bytes) (j:P.underlying tn=some (.int kn))
  (hs:look σ s=some (.slice none 0 0)) (B:look σ x=some (.int k (m:Int))) (C:0<m) (h63:m<=4611686018427387904) (hb:m*bytes<=281474976710656)
  (E:o.dst=some d) (l:d<n) (F:∀u v g p,Fr u n D ((d,.slice (some ⟨g,0,none⟩) m p)::σ)->Mem W v (.row (.slice (some ⟨g,0,none⟩) m p) m (Builtin.zeroCells z.cells m).toList e size::fs)->m<=p->K u v):o.wp P a w K Q:=by
 obtain ⟨i,hi,hz,q,r⟩:=info_parts c.hi
 have G:=Lib.run_append_nil_zeros (P:=P) w t tn o.type e i z k kn c.ht j hi hz m C (by rw [q];exact c.hs) om (by rw [r];exact hb)
 have y:m<=grownCap w m 0 e:=grownCap_ge w m 0 e
 have H:grownCap w m 0 e<=maxLen:=grownCap_le_maxLen w m 0 e (by unfold maxLen;omega)
 have b:(abW z.cells m).size=m*size:=by rw [size_zeroCells,c.hz]
 have f:(w.drew.alloc (.cells (abW z.cells m++abW z.cells (grownCap w m 0 e-m)) e)).ownsRow w.heap.size e size (.slice (some ⟨w.heap.size,0,none⟩) m (grownCap w m 0 e)) m (abW z.cells m).toList:=by
  refine ⟨by simpa using b,.inr ⟨w.heap.size,_,_,rfl,abr _,ad2 w.drew _,y,H,?_,?_⟩⟩
  ·rw [aeX,b,size_zeroCells,c.hz,<-aef]
   congr 1
   omega
  ·rw [afW,<-b,<-acs]
   exact adJ
 unfold acN execOp
 simp only [h,resolve,invoke,builtin,abF,abN,abz,ac2,acu,adw,Z.eval hs,Z.eval B,G]
 rw [acg,E]
 exact F _ _ w.heap.size _ (Z.put l _) (A.bX ((adX _ _).drew.alloc (by simp) _) f) y
theorem Mem.shrink (h:Mem W w fs) {i m k c size:Nat} {A:Option Addr} {e:TypeId} {xs:List Value} (hi:fs[i]?=some (.row (.slice A m c) m xs e size)) (hk:k<=m) (p:A=none->k=0/\c=0):Mem W w (fs.set i (.row (.slice A k c) k (xs.take (k*size)) e size)):=by
 have j:=h.own hi
 refine h.turn hi h.below (λ_ _ _=>rfl) ?_ (λv f=> .inl (by cases A<;>exact f))
 refine ⟨by rw [abv,j.1];exact ac4 (acn _ hk),?_⟩
 rcases j.2 with ⟨b,l⟩|⟨g,cap,cur,b,l,q,x,r,s,t⟩
 ·injection b with b _ _
  obtain ⟨rfl,rfl⟩:=p b
  subst b
  exact .inl ⟨rfl,rfl⟩
 ·injection b with b _ u
  subst b;subst u
  refine .inr ⟨g,c,cur,rfl,l,q,by omega,r,s,?_⟩
  rw [<-t,List.take_take,ac4 (acn _ hk)]
end
theorem WG {m n j:Nat} (hm:m<2^j):m|||n*2^j=m+n*2^j:=by grind [aeQ,Nat.mul_comm,Nat.two_pow_add_eq_or_of_lt]
def Oz {m n j p:Nat} (b:2^j=p) (hm:m<p) (hb:m+n*p<4294967296):abO .u32 (Go.IntKind.u32.wrap (abV Go.IntKind.u32.bits (m:Int)|||abV Go.IntKind.u32.bits ((n*p:Nat):Int)).toNat)= .int .u32 ((m+n*p:Nat):Int):=by
 subst b
 have h:=zk9 (m:=m) (n:=n*2^j) om om
 rw [WG hm] at h
 exact h
def q94 {m n j p:Nat} (b:2^j=p) (hm:n<p) (hb:m*p+n<9223372036854775808):abO .i64 (Go.IntKind.i64.wrap (abV Go.IntKind.i64.bits ((m*p:Nat):Int)|||abV Go.IntKind.i64.bits (n:Int)).toNat)= .int .i64 ((m*p+n:Nat):Int):=by
 subst b
 have h:=zla (m:=m*2^j) (n:=n) om om
 rw [Nat.or_comm,WG hm,aeQ] at h
 exact h
structure Part where
 A:Option Addr
 c:Nat
 l:List Nat
def aaD (p:Part):Value:= .slice p.A (abn p.l) p.c
def Fa {l:List Part} {k:Nat} {d:Part} (h:k<abn l):(l.take (k+1)).flatMap (·.l)=(l.take k).flatMap (·.l)++(l.getD k d).l:=by
 rw [ado,getD_at d h];simp
theorem Fb {l:List Part} (k:Nat):abn ((l.take k).flatMap (·.l))<=abn (l.flatMap (·.l)):=by grind [abp,ab1]
def qX (n:Nat):List Nat:=[n%256,n/256%256,n/65536%256,n/16777216%256]
def bI (l:List Nat):List Nat:=l++qX (zu l)
def jO (l:List Nat):Nat:=l.getD 0 0+256*l.getD 1 0+65536*l.getD 2 0+16777216*l.getD 3 0
def zj (l:List Nat):Bool:=decide (4<=abn l/\zu (l.take (abn l-4))=jO (l.drop (abn l-4)))
def OE (k:Nat) (h:k<16):sQ.getD k 0<4294967296:=by
 have:∀k,k<16->sQ.getD k 0<4294967296:=by decide
 exact this k h
def Is (w:World) (v:Value) (r:Ending) (a:World):Prop:=r= .returned v/\Below w.heap.size w a
def rO (w:World) (R:List Nat) (r:Ending) (a:World):Prop:=
 (∃A c,r= .returned (.slice A (abn R) c)/\a.ownsRow w.heap.size 5 1 (.slice A (abn R) c) (abn R) (R.map B8)/\abn R<=c)/\Below w.heap.size w a
def rO.as {R R':List Nat} {r:Ending} (h:rO w R r W) (e:R=R'):rO w R' r W:=e▸h
def qqz {R xs:List Nat} (a:W.ownsRow w.heap.size 5 1 (.slice A n c) n (xs.map B8)) (hc:n<=c) (b:n=abn R) (d:xs=R) (hb:Below w.heap.size w W):rO w R (.returned (.slice A n c)) W:=by
 subst d;subst b
 exact ⟨⟨A,c,rfl,a,hc⟩,hb⟩
def qtt (c:Nat) (l:List Nat) (x:Nat):zi c (l++[x])=DR (zi c l) x:=by unfold zi;rw [agj];rfl
def qtu {c k:Nat} (h:k<abn l):zi c (l.take (k+1))=DR (zi c (l.take k)) (l.getD k 0):=by
 rw [ado,getD_at 0 h];exact qtt _ _ _
def uP (h:∀b∈l,b<m) (k:Nat):∀b∈l.take k,b<m:=λb a=>h b (List.mem_of_mem_take a)
theorem xD (h:∀b∈l,b<m) (k:Nat):∀b∈l.drop k,b<m:=λb a=>h b (abL a)
def zlb (h:c<4294967296):qW c<4294967296:=Fq om (OE _ om)
def WK (l:List Nat):zu l<4294967296:=by unfold zu;omega
def WL (n:Nat):∀b∈qX n,b<256:=by intro b a;simp [qX] at a;omega
theorem WM (n:Nat):abn (qX n)=4:=rfl
theorem uQ (l:List Nat):abn (bI l)=abn l+4:=by unfold bI;rw [abp,WM]
def OG (a:∀b∈l,b<256):∀b∈bI l,b<256:=by
 intro b c
 rcases ab6.1 c with h|h
 ·exact a b h
 ·exact WL _ b h
theorem q98:∀{l:List Nat},(∀x∈l,x<256)->4<=abn l->qX (jO l)=l.take 4
 |a::b::c::d::r,e,_=>by
  have f:=e a (by simp)
  have g:=e b (by simp)
  have hc:=e c (by simp)
  have i:=e d (by simp)
  simp [qX,jO]
  omega
 |[],_,h=>by simp at h
 |[_],_,h=>by simp at h
 |[_,_],_,h=>by simp at h
 |[_,_,_],_,h=>by simp at h
def WO (h:n<4294967296) (r:List Nat):jO (qX n++r)=n:=by simp [jO,qX];omega
theorem q99 (a:∀x∈l,x<256) (h:4<=abn l):qX (jO (l.drop (abn l-4)))=l.drop (abn l-4):=by grind [xD,q98,abC,abI]
theorem WQ (a:∀x∈l,x<256) (h:zj l=true):bI (l.take (abn l-4))=l:=by simp_all [q99,bI,zj]
theorem WR {l:List Nat}:zj (bI l)=true:=by
 have a:zu l<4294967296:=WK l
 have e:abn (bI l)-4=abn l:=by rw [uQ];omega
 unfold zj
 rw [decide_eq_true_eq,e]
 unfold bI
 refine ⟨by rw [abp,WM];omega,?_⟩
 rw [adJ,afj]
 have:=WO a []
 rw [abP] at this
 exact this.symm
def yt (x:Nat):∀b∈ak x,b<256:=by
 intro b a
 unfold ak at a
 obtain ⟨p,c,rfl⟩:=ab0.1 a
 have:=Vm 10 x p c
 unfold bH
 split<;>omega
def zgy {m:List Nat} (a:∀b∈l,b<256) (hm:∀b∈m,b<256):((jM l).toList==(jM m).toList)=decide (l=m):=by
 rw [abY,beq_iff_eq,decide_eq_true_eq]
 constructor
 ·intro h
  refine q9t a hm ?_
  rw [afB,afB] at h
  cases hx:jM l;cases hy:jM m
  rw [hx,hy] at h
  simpa using h
 ·rintro rfl;rfl
set_option linter.all false
def PU (P:Program) (t:TypeId):Bool:=match P.underlying t with
 |some (.array n e)=>n==2&& (P.cellsOf e==1&& (gD P e&&match P.underlying e with
  |some (.int _)=>true
  |_=>false))
 |_=>false
def zbb (ht:PU P t=true) {k:acj} (a b c d:Int) (w:World):
  (adb t (.agg #[.int k a,.int k b]) (.agg #[.int k c,.int k d])).run P w= .ok (a==c&&b==d) w:=by
 unfold PU at ht
 split at ht
 ·rename_i n e r
  simp only [abG,beq_iff_eq] at ht
  obtain ⟨s,u,z,g⟩:=ht
  subst s
  split at g
  ·rename_i A l
   obtain ⟨i,hi⟩:=info_of_underlying l
   show (acO (9999+1) t _ _).run P w=_
   rw [run_equalIn_array w 9999 _ _ r hi,u]
   have f:∀(xs:Array Value) (j:Nat) (v:Value),xs[j]?=some v->(part e xs j).run P w= .ok v w:=λxs j v h=>by
    unfold part
    simp [EZ z,h]
   have m:∀x y,(acO 9999 e (.int k x) (.int k y)).run P w= .ok (x==y) w:=λx y=>run_equalIn_int w 9998 e k A x y l
   show (Op.eqItems 9999 e 1 _ _ [0,1]).run P w=_
   have B:(part e #[.int k a,.int k b] 0).run P w= .ok (.int k a) w:=f _ _ _ rfl
   have C:(part e #[.int k c,.int k d] 0).run P w= .ok (.int k c) w:=f _ _ _ rfl
   have D:(part e #[.int k a,.int k b] 1).run P w= .ok (.int k b) w:=f _ _ _ rfl
   have E:(part e #[.int k c,.int k d] 1).run P w= .ok (.int k d) w:=f _ _ _ rfl
   have p:=m a c
   have q:=m b d
   generalize (9999:Nat)=dd at p q⊢
   simp only [Op.eqItems,abF,afR,ahk,B,C,p,abz]
   cases h5:(a==c)<;>cases h6:(b==d)<;>simp [D,E,q,h6]
  ·cases g
 ·cases ht
section
variable {P:Program} {S:World->Prop} {σ:List (Nat×Value)} {o:Oper}
def qrg (c:P.eqGuardType P.depth t=false) (op:BinOp) (x y:Operand) (a b:Array Value) (w:World):(eqGuard op t x y (.agg a) (.agg b)).run P w= .ok () w:=by
 unfold eqGuard
 cases op<;>simp<;>simp [c]
def aa4 {p q:Operand} {a b c d:Int} (f:o.op= .binOp .neq t p q u) (g:look σ p=some (.agg #[.int k a,.int k b])) (hy:look σ q=some (.agg #[.int k c,.int k d])) (ht:PU P t=true) (h:P.eqGuardType P.depth t=false):Yl P S σ o (.bool (!(a==c&&b==d))):=λi n D Z w j=>by
 unfold execOp
 have e:(binOp .neq t (.agg #[.int k a,.int k b]) (.agg #[.int k c,.int k d])).run P w= .ok (.bool (!(a==c&&b==d))) w:=by
  show ((do aeo (.bool (!(<-adb t (.agg #[.int k a,.int k b]) (.agg #[.int k c,.int k d])))):Sem Value)).run P w=_
  simp [zbb ht]
 simp only [f,Z.eval g,Z.eval hy,abF,qrg h,abz,e,abN]
end
def zlp {o k:Nat} (h:Rd w B 1 (some ⟨g,o,none⟩) n (l.map B8)) (hk:k+2<=abn l):w.rangeAt g (o+k) (#[B8 (l.getD k 0),B8 (l.getD (k+1) 0)]:Array Value).toList:=λj v a=>by
 have b:=h.range
 rw [aeW]
 refine b (k+j) v ?_
 rcases j with _|_|j
 ·simp at a
  rw [acE,<-a]
  exact uM (getD_at 0 om)
 ·simp at a
  rw [<-a]
  exact uM (getD_at 0 om)
 ·simp at a
section
variable {P:Program} {S:World->Prop} {σ:List (Nat×Value)} {o:Oper}
def aaw (b:o.op= .binOp .rem t x y u) (c:look σ x=some (.int k (m:Int))) (hy:look σ y=some (.int k (n:Int))) (e:0<n):Yl P S σ o (.int k ((m%n:Nat):Int)):=λa N D Z w f=>by
 have d:sK .rem (.int k (m:Int)) (.int k (n:Int))=some (.int k ((m%n:Nat):Int)):=by
  show (if k=k then DC .rem k (m:Int) (n:Int) else none)=_
  rw [if_pos rfl]
  show (if (n:Int)=0 then none else some (abO k ((m:Int).tmod (n:Int))))=_
  rw [if_neg om]
  exact congrArg some (ze k m n)
 unfold execOp
 simp [b,Z.eval c,Z.eval hy,xk (P:=P) .rem t x y (a:= .int k (m:Int)) rfl,EO d t]
def abf (b:o.op= .binOp .quo t x y u) (c:look σ x=some (.int k (m:Int))) (hy:look σ y=some (.int k (n:Int))) (e:0<n) (hm:m<=kH k):Yl P S σ o (.int k ((m/n:Nat):Int)):=λa N D Z w f=>by
 have d:sK .quo (.int k (m:Int)) (.int k (n:Int))=some (.int k ((m/n:Nat):Int)):=by
  show (if k=k then DC .quo k (m:Int) (n:Int) else none)=_
  rw [if_pos rfl]
  show (if (n:Int)=0 then none else some (abO k (k.wrap ((m:Int).tdiv (n:Int)))))=_
  rw [if_neg om]
  exact congrArg some (q93 k n hm)
 unfold execOp
 simp [b,Z.eval c,Z.eval hy,xk (P:=P) .quo t x y (a:= .int k (m:Int)) rfl,EO d t]
def aas {c:acj} (b:o.op= .binOp .shr t x y u) (d:look σ x=some (.int k (m:Int))) (hy:look σ y=some (.int c (n:Int))) (e:n<=k.bits):Yl P S σ o (.int k ((m/2^n:Nat):Int)):=λa N D Z w g=>by
 have f:sK .shr (.int k (m:Int)) (.int c (n:Int))=some (.int k ((m/2^n:Nat):Int)):=by
  show (if (n:Int)<0 then none else some (abO k (Int.fdiv (m:Int) (2^ (ahg (n:Int).toNat k.bits)))))=_
  rw [if_neg om]
  exact congrArg some (uf k m (j:=n) rfl (by rw [abE,ac4 e]))
 unfold execOp
 simp [b,Z.eval d,Z.eval hy,xk (P:=P) .shr t x y (a:= .int k (m:Int)) rfl,EO f t]
def aaE {c:acj} (b:o.op= .binOp .shl t x y u) (d:look σ x=some (.int k (m:Int))) (hy:look σ y=some (.int c (n:Int))) (f:n<=k.bits) (hm:m*2^n<=kH k):Yl P S σ o (.int k ((m*2^n:Nat):Int)):=λa N D Z w h=>by
 have g:sK .shl (.int k (m:Int)) (.int c (n:Int))=some (.int k ((m*2^n:Nat):Int)):=by
  show (if (n:Int)<0 then none else some (abO k (k.wrap ((m:Int)*2^ (ahg (n:Int).toNat k.bits)))))=_
  rw [if_neg om]
  have e:(m:Int)*2^ (ahg (n:Int).toNat k.bits)=((m*2^n:Nat):Int):=by rw [abE,ac4 f];norm_cast
  rw [e,xA k hm]
 unfold execOp
 simp [b,Z.eval d,Z.eval hy,xk (P:=P) .shl t x y (a:= .int k (m:Int)) rfl,EO g t]
end
section
variable {P:Program} {S:World->Prop} {σ:List (Nat×Value)} {o:Oper} {v:Value}
def OH (P:Program) (t:TypeId):Bool:=match P.underlying t with
 |some (.pointer _)=>true
 |_=>false
def q3s {a:Option Addr} (ht:OH P t=true) (w:World):(adb t (.pointer a) (.pointer none)).run P w= .ok a.isNone w:=by
 unfold OH at ht
 split at ht
 ·rename_i c
  show (acO (9999+1) t (.pointer a) (.pointer none)).run P w=_
  unfold acO
  cases a<;>simp only [abF,run_underlying c,abz]<;>rfl
 ·cases ht
def zac {a:Option Addr} {m c m' g:Nat} (ht:nG P t=true) (w:World):(adb t (.slice a m c) (.slice none m' g)).run P w= .ok a.isNone w:=by
 unfold nG at ht
 split at ht
 ·rename_i d
  show (acO (9999+1) t (.slice a m c) (.slice none m' g)).run P w=_
  unfold acO
  cases a<;>simp only [abF,run_underlying d,abz]<;>rfl
 ·cases ht
def aaF {b:Bool} {a:Option Addr} (c:o.op= .binOp .eql t x y u) (d:look σ x=some (.pointer a)) (hy:look σ y=some (.pointer none)) (hb:a.isNone=b:=by rfl) (ht:OH P t=true:=by kernel_rfl):Yl P S σ o (.bool b):=λ_ n D Z w f=>by
 subst hb
 unfold execOp
 have e:(binOp .eql t (.pointer a) (.pointer none)).run P w= .ok (.bool a.isNone) w:=by
  show ((do aeo (.bool (<-adb t (.pointer a) (.pointer none))):Sem Value)).run P w=_
  simp [q3s ht]
 simp only [c,Z.eval d,Z.eval hy,abF,xk (P:=P) .eql t x y (a:= .pointer a) rfl,abz,e,abN]
def aau {b:Bool} {a:Option Addr} {m':Nat} (d:o.op= .binOp .eql t x y u) (f:look σ x=some (.slice a m c)) (hy:look σ y=some (.slice none m' g)) (hb:a.isNone=b:=by rfl) (ht:nG P t=true:=by kernel_rfl):Yl P S σ o (.bool b):=λ_ n D Z w h=>by
 subst hb
 unfold execOp
 have e:(binOp .eql t (.slice a m c) (.slice none m' g)).run P w= .ok (.bool a.isNone) w:=by
  show ((do aeo (.bool (<-adb t (.slice a m c) (.slice none m' g))):Sem Value)).run P w=_
  simp [zac ht]
 simp only [d,Z.eval f,Z.eval hy,abF,xk (P:=P) .eql t x y (a:= .slice a m c) rfl,abz,e,abN]
def Yl.nilCheck {p:Addr} (a:o.op= .nilCheck x) (c:look σ x=some (.pointer (some p))):Yl P S σ o (.pointer (some p)):=λ_ n D Z w d=>by
 unfold execOp
 simp only [a,Z.eval c]
 rfl
end
def rP (P:Program) (t:TypeId) (a:Array Value) (off:Nat):Option Value:=
 match P.underlying t,P.info? t with
 |some (.struct _),some i=>some (.agg (a.extract off (off+i.size)))
 |some (.int _),_=>a[off]?
 |some .bool,_=>a[off]?
 |some .string,_=>a[off]?
 |_,_=>none
def BF (P:Program) (eq:TypeId->Value->Value->Option Bool) (xs ys:Array Value):List Field->Option Bool
 |[]=>some true
 | f :: c => if f.name = "_" then none else
  match rP P f.type xs f.offset,rP P f.type ys f.offset with
  |some a,some b=>match eq f.type a b,BF P eq xs ys c with
   |some r,some s=>some (r&&s)
   |_,_=>none
  |_,_=>none
def pF (P:Program):Nat->TypeId->Value->Value->Option Bool
 |0,_,_,_=>none
 |d+1,t,x,y=>match P.underlying t,x,y with
  |some (.int _),.int k a,.int c b=>if k=c then some (a==b) else none
  |some .bool,.bool a,.bool b=>some (a==b)
  |some .string,.string a,.string b=>some (a.toList==b.toList)
  |some (.struct e),.agg xs,.agg f=>if P.stoodInHeld t then none else BF P (pF P d) xs f e.toList
  |_,_,_=>none
def WU {off:Nat} {v:Value} (h:rP P t C off=some v) (w:World):(part t C off).run P w= .ok v w:=by
 unfold rP at h
 split at h
 ·rename_i c i a hi
  injection h with h;subst h
  simp [part,isAgg,run_underlying a,sizeOf,typeInfo,hi]
 ·rename_i k _ a
  simp [part,isAgg,run_underlying a,h]
 ·rename_i _ a
  simp [part,isAgg,run_underlying a,h]
 ·rename_i _ a
  simp [part,isAgg,run_underlying a,h]
 ·cases h
def WV {P:Program} {d:Nat} (c:∀(t:TypeId) (x y:Value) (b:Bool),pF P d t x y=some b->∀w,(acO d t x y).run P w= .ok b w) {xs ys:Array Value}:∀(a:List Field) (b:Bool),BF P (pF P d) xs ys a=some b->∀w,(Op.eqFields d xs ys a).run P w= .ok b w
 |[],b,h,w=>by
  injection h with h;subst h;rfl
 | f :: a, b, h, w => by
  unfold BF at h
  split at h
  ·cases h
  ·rename_i e
   split at h
   ·rename_i p q g i
    split at h
    ·rename_i r s j hs
     injection h with h;subst h
     unfold Op.eqFields
     rw [if_pos e]
     simp only [abF,WU g,WU i,c _ _ _ _ j,abz]
     cases r
     ·simp
     ·simp [WV c a s hs w]
    ·cases h
   ·cases h
def WW {P:Program}:∀(d:Nat) (t:TypeId) (x y:Value) (b:Bool),pF P d t x y=some b->∀w,(acO d t x y).run P w= .ok b w
 |0,_,_,_,_,h,_=>by cases h
 | d + 1, t, x, y, b, h, w => by
  unfold pF at h
  split at h
  ·rename_i l k a m e c
   split at h
   ·rename_i g;subst g;injection h with h;subst h;exact run_equalIn_int w d t _ _ _ _ c
   ·cases h
  ·rename_i a e c;injection h with h;subst h;exact run_equalIn_bool' w d t _ _ c
  ·rename_i a e c;injection h with h;subst h;exact run_equalIn_string w d t _ _ c
  ·rename_i i xs j c
   split at h
   ·cases h
   ·rename_i hs
    have f:P.fieldsOf t=i:=by unfold Program.fieldsOf;rw [c]
    rw [run_equalIn_struct w d t xs j (by rw [c,f]) (by simpa using hs),f]
    exact WV (WW d) _ _ h w
  ·cases h
def WX {P:Program}:∀(d:Nat) (t:TypeId) (x y:Value) (b:Bool),pF P d t x y=some b->pF P (d+1) t x y=some b
 |0,_,_,_,_,h=>by cases h
 | d + 1, t, x, y, b, h => by
  have g : ∀ (c : List Field) (xs e : Array Value) (b : Bool), BF P (pF P d) xs e c = some b -> BF P (pF P (d + 1)) xs e c = some b := by
   intro c
   induction c with
   |nil=>intro xs e b h;exact h
   | cons f c i =>
    intro xs e b h
    unfold BF at h⊢
    split at h
    ·cases h
    ·rename_i j
     rw [if_neg j]
     split at h
     ·rename_i p q l m
      split at h
      ·rename_i r s k hs
       injection h with h;subst h
       simp only [WX d _ _ _ _ k,i _ _ _ hs]
      ·cases h
     ·cases h
  unfold pF at h⊢
  split at h
  ·rename_i a;(try simp only [a]);exact h
  ·rename_i a;(try simp only [a]);exact h
  ·rename_i a;(try simp only [a]);exact h
  ·rename_i c xs e a
   (try simp only [a])
   split at h
   ·cases h
   ·rename_i hs
    rw [if_neg hs]
    exact g _ _ _ _ h
  ·cases h
def WY {P:Program} {d:Nat} {t:TypeId} {x y:Value} {b:Bool} (h:pF P d t x y=some b):∀k,pF P (d+k) t x y=some b
 |0=>h
 |k+1=>WX _ _ _ _ _ (WY h k)
section
variable {P:Program} {S:World->Prop} {σ:List (Nat×Value)} {o:Oper} {b:Bool}
def qtw {xs:Array Value} {d:Nat} (h:pF P d t (.agg xs) (.agg ys)=some b) (c:d<=10000) (w:World):(adb t (.agg xs) (.agg ys)).run P w= .ok b w:=by
 unfold adb
 have a:=WY h (10000-d)
 rw [show d+(10000-d)=10000 by omega] at a
 exact WW _ _ _ _ _ a w
def qtx (hm:P.eqGuardType P.depth t=false) (op:BinOp) (x y:Operand) (a c:Array Value) (w:World):(eqGuard op t x y (.agg a) (.agg c)).run P w= .ok () w:=run_eqGuard_agg w op t x y a c hm
def aaJ {p q:Operand} {xs:Array Value} {d:Nat} (c:o.op= .binOp .neq t p q u) (f:look σ p=some (.agg xs)) (hy:look σ q=some (.agg ys)) (h:pF P d t (.agg xs) (.agg ys)=some b) (g:d<=10000:=by decide) (hm:P.eqGuardType P.depth t=false:=by kernel_rfl):Yl P S σ o (.bool !b):=λa n D Z w i=>by
 unfold execOp
 have e:(binOp .neq t (.agg xs) (.agg ys)).run P w= .ok (.bool !b) w:=by
  show ((do aeo (.bool (!(<-adb t (.agg xs) (.agg ys)))):Sem Value)).run P w=_
  simp [qtw h g]
 simp only [c,Z.eval f,Z.eval hy,abF,qtx hm,abz,e,abN]
end
def Mv (P:Program) (t:TypeId) (n sz:Nat):Bool:=match P.underlying t with
 |some (.array m e)=>m==n&& (match P.info? e with|some i=>i.size==sz|none=>false)
 |_=>false
theorem Ze (h:Mv P t n sz=true):∃e i,P.underlying t=some (.array n e)/\P.info? e=some i/\i.size=sz:=by grind [Mv]
def Zf (P:Program) (t:TypeId) (sz:Nat) (vs:List (Nat×Value)):Option (Array Value):=match xq P t with
 |some a=>aeN (λi=>some (i*sz,sz)) a vs
 |none=>none
section
variable {P:Program} {S:World->Prop} {σ:List (Nat×Value)} {o:Oper} {t:TypeId} {n sz:Nat}
def aaH {ad:Addr} (b:o.op= .slice t x none none none) (g:look σ x=some (.pointer (some ad))) (ht:Mv P t n sz=true) (h:(n==0)=false:=by decide):Yl P S σ o (.slice (some ad) n n):=λa N D Z w k=>by
 obtain ⟨e,i,c,hi,_⟩:=Ze ht
 have d:P.arrayLen t=n:=by unfold Program.arrayLen;rw [c]
 have f:P.elem t=e:=by unfold Program.elem;rw [c]
 have e1:(ady t (.pointer (some ad)) none none none).run P w= .ok (.slice (some ad) n n) w:=by
  rw [run_sliceAt_array_all w t ad (by rw [d,f];exact c),f,d]
  have j:n≠0:=by simpa using h
  simp [sizeOf,typeInfo,hi,slicedAt,j,Addr.add]
 unfold execOp
 simp only [b,Z.eval g,aer,abF,abN,e1,abz]
def aar {vs:List (Nat×Value)} (c:o.op= .build t ps) (j:xu σ ps.toList=some vs) (k:Mv P t n sz=true) (hb:Zf P t sz vs=some C):Yl P S σ o (.agg C):=λa N D Z w q=>by
 have d:=Oq Z j
 obtain ⟨e,r,l,m,f⟩:=Ze k
 obtain ⟨b,hz,hb⟩:∃b,xq P t=some b/\aeN (λi=>some (i*sz,sz)) b vs=some C:=by
  unfold Zf at hb
  split at hb
  ·rename_i b hz;exact ⟨b,hz,hb⟩
  ·cases hb
 unfold xq at hz
 obtain ⟨s,g,rfl⟩:=adn.1 hz
 obtain ⟨i,hi,h⟩:=adf.1 g
 have e1:(aed t (ps.map λp=>(p.1,a.eval p.2))).run P w= .ok (.agg C) w:=by
  rw [d]
  unfold aed
  subst f
  simp only [abF,zeroValue,sizeOf,typeInfo,program,ae4,hi,m,h,abN,abz,run_underlying l]
  rw [hb];rfl
 unfold execOp
 simp only [c,abF,abN]
 show ((aed t (ps.map λp=>(p.1,a.eval p.2))).run P w).andThen _=_
 rw [e1]
 rfl
end
theorem Mem.Gy (h:Mem W w fs) {i g:Nat} {C ds:Array Value} {t:TypeId} (hi:fs[i]?=some (.blk g C t)) (a:C=ds):Mem W w (fs.set i (.blk g ds t)):=by grind [abB,adT]
section
variable {P:Program} {S:World->Prop} {σ:List (Nat×Value)} {o:Oper} {v:Value}
end
section
variable {P:Program} {ops:Array Oper} {Q:Exit->Act->World->Prop} {a:Act} {W w:World} {n i j d fuel:Nat} {D:List Deferred} {σ σ':List (Nat×Value)} {o:Oper} {v:Value} {md:Region.Mode} {S:World->Prop} {K:Act->World->Prop} {listed:Array Bool} {fs fs':List Fact} {ex:List Nat}
def aad {α:Type} {F:α->Value} {l:List α} {of:Nat} (hr:Rd W W.heap.size 1 (some ⟨g,of,none⟩) m (l.map F)) (b:Nat) (e:α) (hk:b<l.length) (c:o.op= .load t x) (f:look σ x=some (.pointer (some ⟨g,of+b*1,none⟩))) (ht:gD P t=true:=by kernel_rfl) (p:F (l.getD b e)=v:=by exact rfl):Yl P (λq=>Mem W q fs) σ o v:=by
 subst p
 exact Pd c f ht λ_ h=>(h.old hr).Bu (k:=b) (uM (getD_at e hk))
def aaf {α:Type} {F:α->Value} {l:List α} {e:TypeId} (j b:Nat) (k:α) (hk:b<l.length) (f:o.op= .load t x) (p:look σ x=some (.pointer (some ⟨g,b*1,none⟩))) (hi:fs[j]?=some (.row (.slice (some ⟨g,0,none⟩) m c) m (l.map F) e 1)) (ht:gD P t=true:=by kernel_rfl) (q:F (l.getD b k)=v:=by exact rfl):Yl P (λr=>Mem W r fs) σ o v:=by
 subst q
 exact Pd f p ht λ_ h=>h.Wp hi (uM (getD_at k hk))
def bt (n:Nat) (l:List Nat):Array Bool:=((acp n).map λi=> !l.contains i).toArray
def bf (n:Nat) (l:List Nat):Array Bool:=((acp n).map λi=>l.contains i).toArray
def gX (Z:Fr a n D σ) (g:S w) (i:Nat) (l:ops[i]?=some o) (hy:Yl P S σ o v) (k:∀f,Fr f n D ((d,v)::σ)->qk P md ops Q S ex fuel (listed.setIfInBounds i true) f w) (m:dU ops σ o=some true:=by exact rfl) (p:o.dst=some d:=by exact rfl)
  (b:d<n:=by decide) (e:sN md ops ex listed i=true:=by kernel_rfl) (q:∀c (a:Act) w,Q (.panic c) (a.put o.dst v) w->Q (.panic c) a w:=by intro _ _ _ h;exact h):qk P md ops Q S ex (fuel+1) listed a w:=DI Z g l m p b e q hy k
def dD {off:Nat} (Z:Fr a n D σ) (p:Mem W w fs) (i j:Nat) (k:∀m,Fr m n D ((d,v)::σ)->qk P md ops Q (λb=>Mem W b fs) ex fuel (listed.setIfInBounds i true) m w) (q:ops[i]?=some o:=by exact rfl) (e:o.op= .load t x:=by exact rfl) (r:look σ x=some (.pointer (some ⟨g,off,none⟩)):=by exact rfl) (hi:fs[j]?=some (.blk g C tb):=by exact rfl) (s:C[off]?=some v:=by exact rfl) (u:dU ops σ o=some true:=by exact rfl) (y:o.dst=some d:=by exact rfl)
  (ht:gD P t=true:=by kernel_rfl) (f:d<n:=by decide) (l:sN md ops ex listed i=true:=by kernel_rfl) (z:∀c (a:Act) w,Q (.panic c) (a.put o.dst v) w->Q (.panic c) a w:=by intro _ _ _ h;exact h):qk P md ops Q (λb=>Mem W b fs) ex (fuel+1) listed a w:=DI Z p q u y f l z (Pd e r ht λ_ h=>h.cell hi s) k
def sS (Z:Fr a n D σ) (l:S w) (i:Nat) (k:∀g,Fr g n D ((d,.int .i64 (m:Int))::σ)->qk P md ops Q S ex fuel (listed.setIfInBounds i true) g w) (p:ops[i]?=some o:=by exact rfl) (b:o.op= .call {callee:= .builtin .len,args:= #[x],argTypes:= #[t]}:=by exact rfl) (q:look σ x=some (.slice A m c):=by exact rfl) (r:dU ops σ o=some true:=by exact rfl) (s:o.dst=some d:=by exact rfl)
  (ht:nG P t=true:=by kernel_rfl) (e:d<n:=by decide) (f:sN md ops ex listed i=true:=by kernel_rfl) (u:∀c (a:Act) w,Q (.panic c) (a.put o.dst (.int .i64 (m:Int))) w->Q (.panic c) a w:=by intro _ _ _ h;exact h):qk P md ops Q S ex (fuel+1) listed a w:=DI Z l p r s e f u (Yl.len b q ht) k
def BG {p:Addr} (Z:Fr a n D σ) (l:dV ex listed=false->S w) (i:Nat) (k:∀g,Fr g n D ((d,.pointer (some p))::σ)->qk P md ops Q S ex fuel (listed.setIfInBounds i true) g w) (m:ops[i]?=some o:=by exact rfl) (b:o.op= .nilCheck x:=by exact rfl) (q:look σ x=some (.pointer (some p)):=by exact rfl) (r:dU ops σ o=some true:=by exact rfl) (s:o.dst=some d:=by exact rfl)
  (e:d<n:=by decide) (f:oU md ops ex listed i=true:=by kernel_rfl) (t:∀c (a:Act) w,Q (.panic c) (a.put o.dst (.pointer (some p))) w->Q (.panic c) a w:=by intro _ _ _ h;exact h):qk P md ops Q S ex (fuel+1) listed a w:=pE Z l m r s e f t (λ_=>Yl.nilCheck b q) k
def oz {p:Addr} (Z:Fr a n D σ) (l:S w) (i:Nat) (k:∀g,Fr g n D ((d,.pointer (some p))::σ)->qk P md ops Q S ex fuel (listed.setIfInBounds i true) g w) (m:ops[i]?=some o:=by exact rfl) (b:o.op= .nilCheck x:=by exact rfl) (q:look σ x=some (.pointer (some p)):=by exact rfl) (r:dU ops σ o=some true:=by exact rfl) (s:o.dst=some d:=by exact rfl)
  (e:d<n:=by decide) (f:sN md ops ex listed i=true:=by kernel_rfl) (t:∀c (a:Act) w,Q (.panic c) (a.put o.dst (.pointer (some p))) w->Q (.panic c) a w:=by intro _ _ _ h;exact h):qk P md ops Q S ex (fuel+1) listed a w:=DI Z l m r s e f t (Yl.nilCheck b q) k
def s_on (Z:Fr a n D σ) (i:Nat) (c:ops[i]?=some o) (h:o.wp P a w (λe b=>(dV ex (listed.setIfInBounds i true)=false->S b)/\qk P md ops Q S ex fuel (listed.setIfInBounds i true) e b) Q) (hr:Region.ready md ops listed=[i]:=by kernel_rfl) (f:dU ops σ o=some true:=by exact rfl):qk P md ops Q S ex (fuel+1) listed a w:=zd [i] hr rfl (all_cons (qq Z c f h) all_nil)
def BH {xs:Array Operand} {ts:Array TypeId} {V:Option Addr->Nat->Value} {e:TypeId} {ys:List Value} (Z:Fr a n D σ) (p:Mem W w fs) (vs:List Value) (q:Calls P f vs.toArray w (λr b=>(∃A c,r= .returned (V A c)/\b.ownsRow w.heap.size e sz (.slice A m c) m ys/\m<=c)/\Below w.heap.size w b))
  (k:∀A c b,m<=c->Mem W b (.row (.slice A m c) m ys e sz::fs)->∀g,Fr g n D ((d,V A c)::σ)->K g b) (h:o.op= .call {callee:= .value (.func f),args:=xs,argTypes:=ts}:=by exact rfl) (s:o.dst=some d:=by exact rfl) (t:looks σ xs.toList=some vs:=by kernel_rfl) (u:callable P f=true:=by kernel_rfl) (l:d<n:=by decide):o.wp P a w K Q:=
 lq Z vs h s q (λe b ⟨⟨A,c,x,y,z⟩,B⟩=>⟨_,x,λg Z=>k A c b z (p.bX B y) g Z⟩) t u l
def Fu {xs:Array Operand} {ts:Array TypeId} (Z:Fr a n D σ) (vs:List Value) (l:Calls P f vs.toArray w (λr b=>r= .returned v/\Mem W b fs')) (k:∀b,Mem W b fs'->∀h,Fr h n D ((d,v)::σ)->K h b) (c:o.op= .call {callee:= .value (.func f),args:=xs,argTypes:=ts}:=by exact rfl) (m:o.dst=some d:=by exact rfl) (p:looks σ xs.toList=some vs:=by kernel_rfl) (q:callable P f=true:=by kernel_rfl) (g:d<n:=by decide):o.wp P a w K Q:=
 lq Z vs c m l (λe b ⟨s,t⟩=>⟨_,s,k b t⟩) p q g
def oD {f:Nat} {fn:Func} {c:Code} (b:P.funcs[f]?=some fn) (vs:List Value) (σ0:List (Nat×Value)) (k:∀a,Fr a N [] σ0->c.wp P (bodyPost P fn R) a w) (hb:fn.body=some c:=by exact rfl) (e:fn.ntmps=N:=by exact rfl) (g:decide (vs.length<=N)=true:=by kernel_rfl) (h:zU 0 vs=σ0:=by exact rfl):Calls P f vs.toArray w R:=yh b hb e g h k
theorem Mem.pk (h:Mem W w fs) (b:List Nat) (c:b.Nodup:=by decide) (e:Go.Proofs.YtekiimhdnigmcaaGreatDoor.picks fs b=fs':=by exact rfl):Mem W w fs':=h.picks b c e
theorem Mem.pt (h:Mem W w fs) (n:Nat) (b:List Nat) (e:b.Nodup:=by decide) (c:(b.all (· <n))=true:=by decide) (f:Go.Proofs.YtekiimhdnigmcaaGreatDoor.picks fs b++fs.drop n=fs':=by exact rfl):Mem W w fs':=h.Ov n b e c f
def gZ (Z:Fr a n D σ) (m:Mem W w fs) {e:TypeId} (f:Array Value) (k:∀h l g,Fr h n D ((d,.pointer (some ⟨g,0,none⟩))::σ)->Mem W l (.blk g f e::fs)->K h l) (b:o.op= .alloc e:=by exact rfl) (hz:xq P e=some f:=by kernel_rfl) (p:o.dst=some d:=by exact rfl) (c:d<n:=by decide):o.wp P a w K Q:=Oo Z m b hz p c k
def eG (Z:Fr a n D σ) (e:Mem W w fs) (i:Nat) {t:TypeId} {x y:Operand} {g off:Nat} {C:Array Value} {tb:TypeId} (k:∀c,Mem W c (fs.set i (.blk g (C.setIfInBounds off v) tb))->K a c) (b:o.op= .store t x y:=by exact rfl) (f:o.dst=none:=by exact rfl) (h:look σ x=some (.pointer (some ⟨g,off,none⟩)):=by exact rfl) (hy:look σ y=some v:=by exact rfl) (hs:(P.info? t).map (·.size)=some 1:=by kernel_rfl) (l:v.oneCell'=true:=by exact rfl) (hi:fs[i]?=some (.blk g C tb):=by exact rfl) (m:off<C.size:=by simp):o.wp P a w K Q:=qG Z e b f h hy hs l hi m k
def jl {t len e:Nat} {size bytes:Nat} (Z:Fr a n D σ) (m:Mem W w fs) (p:EI P t e z size bytes) (vs:List (Nat×Value)) (f:Array Value) (k:∀h l g,Fr h n D ((d,.slice (some ⟨g,0,none⟩) len len)::σ)->Mem W l (.blk g f e::fs)->K h l) (b:o.op= .buildSlice t len ps:=by exact rfl) (q:decide (0<len/\len*size<=16777216)=true:=by decide) (r:xu σ ps.toList=some vs:=by exact rfl)
  (s:Instr.fill (λi=>some (i*size,size)) (Lc z.cells (len*size)) vs=some f:=by kernel_rfl) (u:o.dst=some d:=by exact rfl) (c:d<n:=by decide):o.wp P a w K Q:=Wm Z m b p q r s u c k
section
variable {fn:Func} {R:Ending->World->Prop} {t1 t2 t3:Nat} {v1 v2 v3:Value}
def lN (hr:fn.results= #[.tmp t1]) (Z:Fr a n [] σ) (h1:σ.lookup t1=some v1) (b:R (.returned v1) w):bodyPost P fn R .ret a w:=iM hr Z (.tmp Z h1) b
def uR (hr:fn.results= #[.tmp t1,.tmp t2]) (Z:Fr a n [] σ) (h1:σ.lookup t1=some v1) (b:σ.lookup t2=some v2) (c:R (.returned (.tuple #[v1,v2])) w):bodyPost P fn R .ret a w:=dI hr Z (.tmp Z h1) (.tmp Z b) c
end
end
section
variable {α:Type}
inductive At:List α->α->Prop
 |z {a:α} {l:List α}:At (a::l) a
 |s {a b:α} {l:List α} (h:At l a):At (b::l) a
inductive lQ (a b:α):List α->List α->Prop
 |z {l:List α}:lQ a b (a::l) (b::l)
 |s {c:α} {l m:List α} (h:lQ a b l m):lQ a b (c::l) (c::m)
inductive sU:List α->List α->Prop
 |n {l:List α}:sU l l
 |t {a:α} {l m:List α} (h:sU l m):sU (a::l) (a::m)
 |f {a:α} {l m:List α} (h:sU l m):sU (a::l) m
def At.get {l:List α} {a:α} (h:At l a):∃i:Nat,l[i]?=some a:=by
 induction h with
 |z=>exact ⟨0,rfl⟩
 |s _ e=>obtain ⟨i,hi⟩:=e;exact ⟨i+1,by simpa using hi⟩
def lQ.get {a b:α} {l m:List α} (h:lQ a b l m):∃i:Nat,l[i]?=some a/\m=l.set i b:=by
 induction h with
 |z=>exact ⟨0,rfl,rfl⟩
 |s _ e=>obtain ⟨i,hi,rfl⟩:=e;exact ⟨i+1,by simpa using hi,rfl⟩
theorem sU.sub {l m:List α} (h:sU l m):m.Sublist l:=by
 induction h with
 |n=>exact ahl _
 |t _ e=>exact e.cons₂ _
 |f _ e=>exact e.cons _
variable {a b x1 x2 x3 x4 x5 x6 x7 x8 x9 y1 y2:α} {l m:List α}
def O0:At (a::l) a:= .z
def O1:At (x1::a::l) a:= .s .z
def O2:At (x1::x2::a::l) a:= .s O1
def O3:At (x1::x2::x3::a::l) a:= .s O2
def O4:At (x1::x2::x3::x4::a::l) a:= .s O3
def O5:At (x1::x2::x3::x4::x5::a::l) a:= .s O4
def O6:At (x1::x2::x3::x4::x5::x6::a::l) a:= .s O5
def O7:At (x1::x2::x3::x4::x5::x6::x7::a::l) a:= .s O6
def O8:At (x1::x2::x3::x4::x5::x6::x7::x8::a::l) a:= .s O7
def O9:At (x1::x2::x3::x4::x5::x6::x7::x8::x9::a::l) a:= .s O8
def O10:At (x1::x2::x3::x4::x5::x6::x7::x8::x9::y1::a::l) a:= .s O9
def aO:lQ a b (a::l) (b::l):= .z
def fJ:lQ a b (x1::a::l) (x1::b::l):= .s .z
def iq:lQ a b (x1::x2::a::l) (x1::x2::b::l):= .s fJ
theorem oV:lQ a b (x1::x2::x3::a::l) (x1::x2::x3::b::l):= .s iq
def rQ:lQ a b (x1::x2::x3::x4::a::l) (x1::x2::x3::x4::b::l):= .s oV
def sV:lQ a b (x1::x2::x3::x4::x5::a::l) (x1::x2::x3::x4::x5::b::l):= .s rQ
def uh:lQ a b (x1::x2::x3::x4::x5::x6::a::l) (x1::x2::x3::x4::x5::x6::b::l):= .s sV
def uS:lQ a b (x1::x2::x3::x4::x5::x6::x7::a::l) (x1::x2::x3::x4::x5::x6::x7::b::l):= .s uh
def Fv:lQ a b (x1::x2::x3::x4::x5::x6::x7::x8::a::l) (x1::x2::x3::x4::x5::x6::x7::x8::b::l):= .s uS
def OJ:lQ a b (x1::x2::x3::x4::x5::x6::x7::x8::x9::a::l) (x1::x2::x3::x4::x5::x6::x7::x8::x9::b::l):= .s Fv
end
def nth {α:Type}:List α->Nat->Option α
 |[],_=>none
 |x::_,0=>some x
 |_::r,n+1=>nth r n
def OL {α:Type}:∀(l:List α) (i:Nat),nth l i=l[i]?
 |[],_=>rfl
 |_::_,0=>rfl
 |_::r,n+1=>by rw [adQ];exact OL r n
def Lu {α:Type} {l:Array α} {x:α} (h:nth l.toList i=some x):l[i]?=some x:=by
 rw [OL] at h;simpa using h
def jU:acj->Option Nat
 | .i8=>some 127| .i16=>some 32767| .i32=>some 2147483647| .i64=>some 9223372036854775807
 | .u8=>some 255| .u16=>some 65535| .u32=>some 4294967295| .u64=>some 18446744073709551615
def qed (e:jU k=some B) (h:m<=B):adj k (m:Int)=(m:Int):=
 xA k (ada h (by cases k<;>(injection e with e;subst e;exact abr _)))
section
variable {P:Program} {ops o2:Array Oper} {Q:Exit->Act->World->Prop} {a:Act} {W w:World} {n i j d d2:Nat} {D:List Deferred} {σ σ':List (Nat×Value)} {o o':Oper} {op:Op} {v v1 v2 v3:Value} {X:Act->World->Prop} {fs fs':List Fact} {p q:Nat×Value}
def JJ (W w:World) (n:Nat) (D:List Deferred) (σ:List (Nat×Value)) (fs:List Fact) (X:Act->World->Prop):Prop:=∀a,Fr a n D σ->Mem W w fs->X a w
def Jb (Z:Fr a n D σ) (e:Mem W w fs) (h:JJ W w n D σ fs X):X a w:=h a Z e
def Fr.iP {xs:List (Nat×Value)} (h:Fr a n D (q::(xs++σ))) (C:(xs.all λp=>p.1==q.1||(σ.lookup p.1).isNone)=true):Fr a n D (q::σ):=by
 refine ⟨h.size,h.defers,λt v s=>h.slot t v ?_⟩
 obtain ⟨F,G⟩:=q
 simp only [acM] at s⊢
 split at s
 ·exact s
 ·rename_i e
  rw [EW]
  cases hl:xs.lookup t with
  |none=>exact s
  |some u=>
   exfalso
   obtain ⟨r,E,A⟩:=K9 (qbv hl)
   have:=ab3.1 C r E
   rw [A,adM] at this
   rcases this with z|z
   ·simp only [e] at z;cases z
   ·rw [s] at z;cases z
def Fr.nS {xs:List (Nat×Value)} (h:Fr a n D (xs++σ)) (z:(xs.all λp=>(σ.lookup p.1).isNone)=true):Fr a n D σ:=by
 refine ⟨h.size,h.defers,λt v s=>h.slot t v ?_⟩
 rw [EW]
 cases hl:xs.lookup t with
 |none=>exact s
 |some u=>
  exfalso
  obtain ⟨r,A,e⟩:=K9 (qbv hl)
  have:=ab3.1 z r A
  rw [e,s] at this
  cases this
section
variable {p1 p2 p3 p4 p5 p6 p7 p8:Nat×Value}
theorem aK (h:([p1].all λp=>p.1==q.1||(σ.lookup p.1).isNone)=true:=by kernel_rfl) (k:JJ W w n D (q::σ) fs X):JJ W w n D (q::p1::σ) fs X:=λa Z=>k a (Z.iP (xs:=[p1]) h)
def bQ (h:([p1,p2].all λp=>p.1==q.1||(σ.lookup p.1).isNone)=true:=by kernel_rfl) (k:JJ W w n D (q::σ) fs X):JJ W w n D (q::p1::p2::σ) fs X:=λa Z=>k a (Z.iP (xs:=[p1,p2]) h)
def dY (h:([p1,p2,p3].all λp=>p.1==q.1||(σ.lookup p.1).isNone)=true:=by kernel_rfl) (k:JJ W w n D (q::σ) fs X):JJ W w n D (q::p1::p2::p3::σ) fs X:=λa Z=>k a (Z.iP (xs:=[p1,p2,p3]) h)
theorem gq (h:([p1,p2,p3,p4].all λp=>p.1==q.1||(σ.lookup p.1).isNone)=true:=by kernel_rfl) (k:JJ W w n D (q::σ) fs X):JJ W w n D (q::p1::p2::p3::p4::σ) fs X:=λa Z=>k a (Z.iP (xs:=[p1,p2,p3,p4]) h)
def kW (h:([p1,p2,p3,p4,p5].all λp=>p.1==q.1||(σ.lookup p.1).isNone)=true:=by kernel_rfl) (k:JJ W w n D (q::σ) fs X):JJ W w n D (q::p1::p2::p3::p4::p5::σ) fs X:=λa Z=>k a (Z.iP (xs:=[p1,p2,p3,p4,p5]) h)
theorem aH (h:([p1,p2,p3,p4,p5,p6].all λp=>p.1==q.1||(σ.lookup p.1).isNone)=true:=by kernel_rfl) (k:JJ W w n D (q::σ) fs X):JJ W w n D (q::p1::p2::p3::p4::p5::p6::σ) fs X:=λa Z=>k a (Z.iP (xs:=[p1,p2,p3,p4,p5,p6]) h)
def ny (h:([p1].all λp=>(σ.lookup p.1).isNone)=true:=by kernel_rfl) (k:JJ W w n D σ fs X):JJ W w n D (p1::σ) fs X:=λa Z=>k a (Z.nS (xs:=[p1]) h)
def nA (h:([p1,p2].all λp=>(σ.lookup p.1).isNone)=true:=by kernel_rfl) (k:JJ W w n D σ fs X):JJ W w n D (p1::p2::σ) fs X:=λa Z=>k a (Z.nS (xs:=[p1,p2]) h)
def nT (h:([p1,p2,p3].all λp=>(σ.lookup p.1).isNone)=true:=by kernel_rfl) (k:JJ W w n D σ fs X):JJ W w n D (p1::p2::p3::σ) fs X:=λa Z=>k a (Z.nS (xs:=[p1,p2,p3]) h)
def xE (h:([p1,p2,p3,p4].all λp=>(σ.lookup p.1).isNone)=true:=by kernel_rfl) (k:JJ W w n D σ fs X):JJ W w n D (p1::p2::p3::p4::σ) fs X:=λa Z=>k a (Z.nS (xs:=[p1,p2,p3,p4]) h)
def qI (h:([p1,p2,p3,p4,p5].all λp=>(σ.lookup p.1).isNone)=true:=by kernel_rfl) (k:JJ W w n D σ fs X):JJ W w n D (p1::p2::p3::p4::p5::σ) fs X:=λa Z=>k a (Z.nS (xs:=[p1,p2,p3,p4,p5]) h)
def iQ (h:([p1,p2,p3,p4,p5,p6].all λp=>(σ.lookup p.1).isNone)=true:=by kernel_rfl) (k:JJ W w n D σ fs X):JJ W w n D (p1::p2::p3::p4::p5::p6::σ) fs X:=λa Z=>k a (Z.nS (xs:=[p1,p2,p3,p4,p5,p6]) h)
end
theorem Mem.sel (h:Mem W w fs) (m:sU fs fs'):Mem W w fs':=⟨h.below,λf e=>h.holds f (m.sub.subset e),h.apart.sublist m.sub⟩
def JM (m:sU fs fs') (k:JJ W w n D σ fs' X):JJ W w n D σ fs X:=λa Z e=>k a Z (e.sel m)
def gM (ops:Array Oper) (σ:List (Nat×Value)) (n i:Nat):Option (Nat×Op):=match ops[i]? with
 |some o=>match dU ops σ o,o.dst with
  |some true,some d=>if d<n then some (d,o.op) else none
  |_,_=>none
 |none=>none
def Fw (h:gM ops σ n i=some (d,op)):∃o,ops[i]?=some o/\dU ops σ o=some true/\o.dst=some d/\d<n/\o.op=op:=by
 unfold gM at h
 split at h
 ·rename_i o r
  split at h
  ·rename_i C s u
   split at h
   ·rename_i e
    injection h with h
    injection h with z A
    subst z;subst A
    exact ⟨o,r,s,u,e,rfl⟩
   ·cases h
  ·cases h
 ·cases h
def aai (h:gM ops σ n i=some (d,op)) (hy:∀o:Oper,o.op=op->Yl P (λe=>Mem W e fs) σ o v) (k:JJ W w n D ((d,v)::σ) fs (qi P ops Q (i+1))):JJ W w n D σ fs (qi P ops Q i):=by
 obtain ⟨o,u,z,A,r,C⟩:=Fw h
 exact λ_ Z s=>K8 (S:=λe=>Mem W e fs) Z s u z A r (hy o C) λa Z=>k a Z s
def aak (h:gM ops σ n i=some (d,op)) (k:∀(o:Oper) a,o.op=op->o.dst=some d->d<n->Fr a n D σ->Mem W w fs->o.wp P a w (qi P ops Q (i+1)) Q):JJ W w n D σ fs (qi P ops Q i):=by
 obtain ⟨o,r,s,u,e,z⟩:=Fw h
 exact λa Z A=>EU Z r s (k o a z u e Z A)
theorem Jp (m:Nat) (h:zt P ops n m i σ=some σ':=by exact rfl) (k:JJ W w n D σ' fs (qi P ops Q (i+m))):JJ W w n D σ fs (qi P ops Q i):=
 λ_ Z r=>Oi m i Z h rfl λs e=>k s e r
def Jv (m:Nat) (new:List (Nat×Value)) (h:(zt P ops n m i σ).map (λs=>(thin s σ new,new.map λp=>s.lookup p.1))=some (true,new.map λp=>some p.2):=by kernel_rfl) (k:JJ W w n D (new++σ) fs (qi P ops Q (i+m))):JJ W w n D σ fs (qi P ops Q i):=
 λ_ Z r=>fp Z m i new (λu e=>k u e r) h
def Jf (off:Nat) {s f g b:Nat} {x:Operand} (h:gM ops σ n i=some (d,.fieldAddr s x f):=by exact rfl) (e:look σ x=some (.pointer (some ⟨g,b,none⟩)):=by exact rfl) (r:DF P s f=some off:=by kernel_rfl) (k:JJ W w n D ((d,.pointer (some ⟨g,b+off,none⟩))::σ) fs (qi P ops Q (i+1))):JJ W w n D σ fs (qi P ops Q i):=
 aai h (λo u=>Yl.pure (by rw [u];simp only [sM,e,r];rw [acC])) k
def Jc {off:Nat} (O:At fs (.blk g C tb)) (h:gM ops σ n i=some (d,.load t x):=by exact rfl) (e:look σ x=some (.pointer (some ⟨g,off,none⟩)):=by exact rfl) (r:nth C.toList off=some v:=by exact rfl) (ht:gD P t=true:=by kernel_rfl) (k:JJ W w n D ((d,v)::σ) fs (qi P ops Q (i+1))):JJ W w n D σ fs (qi P ops Q i):=
 aai h (λo s=>Pd s e ht λ_ h=>let ⟨_,hi⟩:=O.get;h.cell hi (Lu r)) k
def Jg (off:Nat) {s f g b:Nat} {x:Operand} {t tb:TypeId} {C:Array Value} (O:At fs (.blk g C tb)) (h:gM ops σ n i=some (d,.fieldAddr s x f):=by exact rfl) (e:look σ x=some (.pointer (some ⟨g,b,none⟩)):=by exact rfl) (r:gM ops ((d,.pointer (some ⟨g,b+off,none⟩))::σ) n (i+1)=some (d2,.load t (.tmp d)):=by exact rfl) (u:nth C.toList (b+off)=some v:=by exact rfl)
 (hk:(gD P t&& (DF P s f==some off&& (d2==d||(σ.lookup d).isNone)))=true:=by kernel_rfl) (k:JJ W w n D ((d2,v)::σ) fs (qi P ops Q (i+2))):JJ W w n D σ fs (qi P ops Q i):=by
 simp only [abG,beq_iff_eq] at hk
 refine Jf off h e hk.2.1 (Jc O r ?_ u hk.1 (aK (by simpa [Bool.beq_comm] using hk.2.2) k))
 simp [look]
def Jl (h:gM ops σ n i=some (d,.call {callee:= .builtin .len,args:= #[x],argTypes:= #[t]}):=by exact rfl) (e:look σ x=some (.slice A m c):=by exact rfl) (ht:nG P t=true:=by kernel_rfl) (k:JJ W w n D ((d,.int .i64 (m:Int))::σ) fs (qi P ops Q (i+1))):JJ W w n D σ fs (qi P ops Q i):=
 aai h (λo r=>Yl.len r e ht) k
def Jn {p:Addr} (h:gM ops σ n i=some (d,.nilCheck x):=by exact rfl) (e:look σ x=some (.pointer (some p)):=by exact rfl) (k:JJ W w n D ((d,.pointer (some p))::σ) fs (qi P ops Q (i+1))):JJ W w n D σ fs (qi P ops Q i):=
 aai h (λo r=>Yl.nilCheck r e) k
theorem Jx {e:Nat} {vs:Array Value} (h:gM ops σ n i=some (d,.extract x e):=by exact rfl) (r:look σ x=some (.tuple vs):=by exact rfl) (s:nth vs.toList e=some v:=by exact rfl) (k:JJ W w n D ((d,v)::σ) fs (qi P ops Q (i+1))):JJ W w n D σ fs (qi P ops Q i):=
 aai h (λo u=>Yl.pure (by rw [u];simp only [sM,r];exact Lu s)) k
def Jy (u:ops[i]?=some o:=by exact rfl) (z:dU ops σ o=some true:=by exact rfl) (A:o.dst=some d:=by exact rfl) (e:d<n:=by decide) (h:Yl P (λr=>Mem W r fs) σ o v) (k:JJ W w n D ((d,v)::σ) fs (qi P ops Q (i+1))):JJ W w n D σ fs (qi P ops Q i):=
 λ_ Z s=>K8 (S:=λr=>Mem W r fs) Z s u z A e h λa Z=>k a Z s
def dZ (e:SI P t m) (O:At fs (.blk g C tb)) (h:gM ops σ n i=some (d,.load t x):=by exact rfl) (r:look σ x=some (.pointer (some ⟨g,0,none⟩)):=by exact rfl) (hm:C.size=m:=by exact rfl) (k:JJ W w n D ((d,.agg C)::σ) fs (qi P ops Q (i+1))):JJ W w n D σ fs (qi P ops Q i):=
 aai h (λo s=>let ⟨_,hi⟩:=O.get;Pe s r e hm λ_ h=>qj (h.blk hi)) k
def eH (e:Array Value) {t:TypeId} {ps:Array (Nat×Operand)} {vs:List (Nat×Value)} (h:gM ops σ n i=some (d,.build t ps):=by exact rfl) (r:xu σ ps.toList=some vs:=by exact rfl) (hb:Oy P t vs=some e:=by kernel_rfl) (k:JJ W w n D ((d,.agg e)::σ) fs (qi P ops Q (i+1))):JJ W w n D σ fs (qi P ops Q i):=
 aai h (λo s=>Yl.build s r hb) k
def iC (y sz:Nat) {t:TypeId} {x ix:Operand} {g of m c:Nat} {kd:Go.IntKind} (h:gM ops σ n i=some (d,.indexAddr t x ix):=by exact rfl) (e:look σ x=some (.slice (some ⟨g,of,none⟩) m c):=by exact rfl) (hi:look σ ix=some (.int kd (y:Int)):=by exact rfl) (hy:y<m:=by omega) (r:Bq P t=some sz:=by kernel_rfl) (k:JJ W w n D ((d,.pointer (some ⟨g,of+y*sz,none⟩))::σ) fs (qi P ops Q (i+1))):JJ W w n D σ fs (qi P ops Q i):=
 aai h (λo s=>Yl.ix g of y sz s e hi hy r) k
def nU (y sz:Nat) {t:TypeId} {x ix:Operand} {g m c:Nat} {kd:Go.IntKind} (h:gM ops σ n i=some (d,.indexAddr t x ix):=by exact rfl) (e:look σ x=some (.slice (some ⟨g,0,none⟩) m c):=by exact rfl) (hi:look σ ix=some (.int kd (y:Int)):=by exact rfl) (hy:y<m:=by omega) (r:Bq P t=some sz:=by kernel_rfl) (k:JJ W w n D ((d,.pointer (some ⟨g,y*sz,none⟩))::σ) fs (qi P ops Q (i+1))):JJ W w n D σ fs (qi P ops Q i):=
 aai h (λo s=>Yl.iK g y sz s e hi hy r) k
section
variable {α:Type} {f:α->List Value} {l:List α} {g of m sz:Nat} {t:TypeId} {x:Operand}
theorem Yl.oS {o:Oper} {C:α->Array Value} (r:∀x,(C x).toList=f x) (s:∀x,abn (f x)=sz) (hr:Rd W W.heap.size sz (some ⟨g,of,none⟩) m (l.flatMap f)) (z:SI P t sz) {e:Nat} {u:α} (hk:e<abn l) (A:o.op= .load t x) (E:look σ x=some (.pointer (some ⟨g,of+e*sz,none⟩))):Yl P (λF=>Mem W F fs) σ o (.agg (C (l.getD e u))):=
 Pe A E z (by rw [<-acs,r,s]) λ_ h=>by rw [r];exact (h.old hr).qc3 s (getD_at u hk)
def aat {o:Oper} (s:∀x,abn (f x)=sz) (hr:Rd W W.heap.size sz (some ⟨g,of,none⟩) m (l.flatMap f)) {j e b:Nat} {r:α} (hk:e<abn l) (u:b=of+e*sz+j) (z:nth (f (l.getD e r)) j=some v) (A:o.op= .load t x) (C:look σ x=some (.pointer (some ⟨g,b,none⟩))) (ht:gD P t=true):Yl P (λE=>Mem W E fs) σ o v:=by
 subst u
 exact Pd A C ht λ_ h=>(h.old hr).partAt s (getD_at r hk) (by rw [<-OL];exact z)
def pG (C:α->Array Value) (r:∀x,(f x).length=sz) (hr:Rd W W.heap.size sz (some ⟨g,of,none⟩) m (l.flatMap f)) (s:SI P t sz) (e:Nat) (u:α) (z:∀x,(C x).toList=f x:=by exact λ_=>rfl) (h:gM ops σ n i=some (d,.load t x):=by exact rfl) (A:look σ x=some (.pointer (some ⟨g,of+e*sz,none⟩)):=by exact rfl) (hk:e<l.length:=by omega) (k:JJ W w n D ((d,.agg (C (l.getD e u)))::σ) fs (qi P ops Q (i+1))):JJ W w n D σ fs (qi P ops Q i):=
 aai h (λ_ E=>Yl.oS z r hr s hk E A) k
def OM (r:∀x,(f x).length=sz) (hr:Rd W W.heap.size sz (some ⟨g,of,none⟩) m (l.flatMap f)) (j e:Nat) (s:α) (h:gM ops σ n i=some (d,.load t x):=by exact rfl) (u:look σ x=some (.pointer (some ⟨g,of+e*sz+j,none⟩)):=by exact rfl) (z:nth (f (l.getD e s)) j=some v:=by exact rfl) (hk:e<l.length:=by omega) (ht:gD P t=true:=by kernel_rfl) (k:JJ W w n D ((d,v)::σ) fs (qi P ops Q (i+1))):JJ W w n D σ fs (qi P ops Q i):=
 aai h (λ_ A=>aat r hr hk rfl z A u ht) k
def DT (r:∀x,(f x).length=sz) (hr:Rd W W.heap.size sz (some ⟨g,of,none⟩) m (l.flatMap f)) (e:Nat) (s:α) (h:gM ops σ n i=some (d,.load t x):=by exact rfl) (u:look σ x=some (.pointer (some ⟨g,of+e*sz,none⟩)):=by exact rfl) (z:nth (f (l.getD e s)) 0=some v:=by exact rfl) (hk:e<l.length:=by omega) (ht:gD P t=true:=by kernel_rfl) (k:JJ W w n D ((d,v)::σ) fs (qi P ops Q (i+1))):JJ W w n D σ fs (qi P ops Q i):=
 aai h (λ_ A=>aat r hr (j:=0) hk rfl z A u ht) k
end
theorem JC {e:World} (h:Mem W w fs->Mem e w fs') (k:JJ e w n D σ fs' X):JJ W w n D σ fs X:=λa Z r=>k a Z (h r)
def Jk (d:Nat) (u:Value) (e:σ.lookup d=some v:=by exact rfl) (h:v=u) (k:JJ W w n D ((d,u)::σ) fs X):JJ W w n D σ fs X:=λa Z=>k a (Z.sp d u e h)
def Jo (u:Value) (h:v=u) (k:JJ W w n D ((d,u)::σ) fs X):JJ W w n D ((d,v)::σ) fs X:=by subst h;exact k
section
variable {x y:Operand} {t t2:TypeId} {k:Go.IntKind} {m p B:Nat}
def aaO {r:BinOp} {u:Value} {I:Value} (h:gM ops σ n i=some (d,.binOp r t x y t2)) (s:look σ x=some z) (hy:look σ y=some I) (A:EP z=true) (hb:sK r z I=some v) (e:v=u) (K:JJ W w n D ((d,u)::σ) fs (qi P ops Q (i+1))):JJ W w n D σ fs (qi P ops Q i):=by
 subst e
 exact aai h (λo C=>Yl.pure (by rw [C];simp only [sM,s,hy,A,if_true];exact hb)) K
def W9 (k:acj) (a b:Int):sK .add (.int k a) (.int k b)=some (.int k (k.wrap (a+b))):=by simp [sK,DC]
def Xa (k:acj) (a b:Int):sK .sub (.int k a) (.int k b)=some (.int k (k.wrap (a-b))):=by simp [sK,DC]
def Ja (h:gM ops σ n i=some (d,.binOp .add t x y t2):=by exact rfl) (e:look σ x=some (.int k (m:Int)):=by exact rfl) (hy:look σ y=some (.int k (p:Int)):=by exact rfl) (r:jU k=some B:=by exact rfl) (hb:m+p<=B:=by omega) (K:JJ W w n D ((d,.int k ((m+p:Nat):Int))::σ) fs (qi P ops Q (i+1))):JJ W w n D σ fs (qi P ops Q i):=
 aaO h e hy rfl (W9 _ _ _) (by rw [show ((m:Int)+(p:Int))=((m+p:Nat):Int) from rfl,qed r hb]) K
theorem dx (p:Nat) {z:Int} (h:gM ops σ n i=some (d,.binOp .add t x y t2):=by exact rfl) (e:look σ x=some (.int k (m:Int)):=by exact rfl) (hy:look σ y=some (.int k z):=by exact rfl) (hz:z=(p:Int):=by exact rfl) (r:jU k=some B:=by exact rfl) (hb:m+p<=B:=by omega) (K:JJ W w n D ((d,.int k ((m+p:Nat):Int))::σ) fs (qi P ops Q (i+1))):JJ W w n D σ fs (qi P ops Q i):=by
 subst hz;exact Ja h e hy r hb K
def Js (h:gM ops σ n i=some (d,.binOp .sub t x y t2):=by exact rfl) (e:look σ x=some (.int k (m:Int)):=by exact rfl) (hy:look σ y=some (.int k (p:Int)):=by exact rfl) (r:jU k=some B:=by exact rfl) (hb:p<=m/\m-p<=B:=by omega) (K:JJ W w n D ((d,.int k ((m-p:Nat):Int))::σ) fs (qi P ops Q (i+1))):JJ W w n D σ fs (qi P ops Q i):=
 aaO h e hy rfl (Xa _ _ _) (by rw [show ((m:Int)- (p:Int))=((m-p:Nat):Int) by omega,qed r hb.2]) K
def zZ (p:Nat) {z:Int} (h:gM ops σ n i=some (d,.binOp .sub t x y t2):=by exact rfl) (e:look σ x=some (.int k (m:Int)):=by exact rfl) (hy:look σ y=some (.int k z):=by exact rfl) (hz:z=(p:Int):=by exact rfl) (r:jU k=some B:=by exact rfl) (hb:p<=m/\m-p<=B:=by omega) (K:JJ W w n D ((d,.int k ((m-p:Nat):Int))::σ) fs (qi P ops Q (i+1))):JJ W w n D σ fs (qi P ops Q i):=by
 subst hz;exact Js h e hy r hb K
def yw (P:Program) (s t:TypeId):Option acj:=match P.underlying s,P.underlying t with
 |some _,some (.int k)=>some k
 |_,_=>none
def Jw (k:Go.IntKind) {e:Go.IntKind} (h:gM ops σ n i=some (d,.convert t t2 x):=by exact rfl) (r:look σ x=some (.int e (m:Int)):=by exact rfl) (hk:yw P t t2=some k:=by kernel_rfl) (s:jU k=some B:=by exact rfl) (hb:m<=B:=by omega) (K:JJ W w n D ((d,.int k (m:Int))::σ) fs (qi P ops Q (i+1))):JJ W w n D σ fs (qi P ops Q i):=by
 refine aai h (λo u=>Yl.pure (by
  rw [u]
  unfold yw at hk
  split at hk
  ·rename_i C E z A
   injection hk with hk
   subst hk
   simp only [sM,z,A,r,qed s hb]
  ·cases hk)) K
end
def Ji {p:Prop} {inst:Decidable p} (h1:p->JJ W w n D ((d,.bool true)::σ) fs X) (e:¬p->JJ W w n D ((d,.bool false)::σ) fs X):JJ W w n D ((d,.bool (@decide p inst))::σ) fs X:=by
 by_cases h:p
 ·rw [decide_eq_true h];exact h1 h
 ·rw [decide_eq_false h];exact e h
def oW {p:Prop} {inst:Decidable p} (h1:¬p->JJ W w n D ((d,.bool true)::σ) fs X) (e:p->JJ W w n D ((d,.bool false)::σ) fs X):JJ W w n D ((d,.bool (!@decide p inst))::σ) fs X:=by
 by_cases h:p
 ·rw [decide_eq_true h];exact e h
 ·rw [decide_eq_false h];exact h1 h
def Je {α:Type} {r:BEq α} [LawfulBEq α] {x y:α} (h1:x=y->JJ W w n D ((d,.bool true)::σ) fs X) (e:x≠y->JJ W w n D ((d,.bool false)::σ) fs X):JJ W w n D ((d,.bool (x==y))::σ) fs X:=by
 cases h:x==y
 ·exact e (ne_of_beq_false h)
 ·exact h1 (eq_of_beq h)
def Jh {α:Type} {r:BEq α} [LawfulBEq α] {x y:α} (h1:x≠y->JJ W w n D ((d,.bool true)::σ) fs X) (e:x=y->JJ W w n D ((d,.bool false)::σ) fs X):JJ W w n D ((d,.bool (x !=y))::σ) fs X:=by
 cases h:x !=y
 ·exact e (bne_eq_false_iff_eq.1 h)
 ·exact h1 (bne_iff_ne.1 h)
def Ju {b:Bool} (h1:b=true->JJ W w n D ((d,.bool true)::σ) fs X) (e:b=false->JJ W w n D ((d,.bool false)::σ) fs X):JJ W w n D ((d,.bool b)::σ) fs X:=by
 cases b
 ·exact e rfl
 ·exact h1 rfl
def Jr {id:Nat} {c:Code} (hi:ops.size=i:=by exact rfl) (h:∀a w,e .normal a w=Code.wp P (.seq (.region id o2 false) c) Q a w:=by exact λ_ _=>rfl) (k:JJ W w n D σ fs (qi P o2 (Exit.then (Code.wp P c Q) Q) 0)):JJ W w n D σ fs (qi P ops e i):=
 λa Z r=>xZ hi (by rw [h];exact wp_seq (zn (k a Z r)))
theorem Jq (hi:ops.size=i:=by exact rfl) (k:JJ W w n D σ fs (Q .normal)):JJ W w n D σ fs (qi P ops Q i):=λa Z e=>xZ hi (k a Z e)
def Jj {c:Code} (hi:ops.size=i:=by exact rfl) (h:∀a w,e .normal a w=Code.wp P c Q a w:=by exact λ_ _=>rfl) (k:JJ W w n D σ fs (Code.wp P c Q)):JJ W w n D σ fs (qi P ops e i):=λa Z r=>xZ hi (by rw [h];exact k a Z r)
theorem JR {id:Nat} (k:JJ W w n D σ fs (qi P ops Q 0)):JJ W w n D σ fs (ac1 P (.region id ops false) Q):=λa Z e=>zn (k a Z e)
theorem JQ {c e:Code} (k:JJ W w n D σ fs (ac1 P c (Exit.then (ac1 P e Q) Q))):JJ W w n D σ fs (ac1 P (.seq c e) Q):=λa Z h=>wp_seq (k a Z h)
def JP {id:Nat} {c:Code} (k:JJ W w n D σ fs (qi P ops (Exit.then (ac1 P c Q) Q) 0)):JJ W w n D σ fs (ac1 P (.seq (.region id ops false) c) Q):=λa Z e=>wp_seq (zn (k a Z e))
theorem JG {Y:Act->World->Prop} {c:Code} (h:∀a w,Y a w=Code.wp P c Q a w:=by exact λ_ _=>rfl) (k:JJ W w n D σ fs (Code.wp P c Q)):JJ W w n D σ fs Y:=λa Z e=>by rw [h];exact k a Z e
def DU {c:Code} (h:∀a w,e .normal a w=Code.wp P c Q a w:=by exact λ_ _=>rfl) (k:JJ W w n D σ fs (Code.wp P c Q)):JJ W w n D σ fs (ac1 P .skip e):=λa Z r=>wp_skip (by rw [h];exact k a Z r)
def JT {c:Operand} {x y:Code} (hc:look σ c=some (.bool true):=by exact rfl) (k:JJ W w n D σ fs (Code.wp P x Q)):JJ W w n D σ fs (ac1 P (.cond c x y) Q):=λa Z e=>q3c Z hc (k a Z e)
def JF {c:Operand} {x y:Code} (hc:look σ c=some (.bool false):=by exact rfl) (k:JJ W w n D σ fs (Code.wp P y Q)):JJ W w n D σ fs (ac1 P (.cond c x y) Q):=λa Z e=>Ot Z hc (k a Z e)
def JB {id:Nat} {c:Code} (k:JJ W w n D σ fs (ac1 P c (Exit.inBlock id Q))):JJ W w n D σ fs (ac1 P (.block id c) Q):=λa Z e=>wp_block (k a Z e)
def JS (k:JJ W w n D σ fs (Q .normal)):JJ W w n D σ fs (ac1 P .skip Q):=λa Z e=>wp_skip (k a Z e)
def JX {id:Nat} (k:JJ W w n D σ fs (Q (.exit id))):JJ W w n D σ fs (ac1 P (.exit id) Q):=λa Z e=>wp_exit (k a Z e)
def JZ (k:JJ W w n D σ fs (Q .ret)):JJ W w n D σ fs (ac1 P .ret Q):=λa Z e=>wp_ret (k a Z e)
def aJ {id:Nat} {c:Code} (m:Nat) (h:zt P ops n m 0 σ=some σ':=by exact rfl) (k:JJ W w n D σ' fs (qi P ops (Exit.then (Code.wp P c Q) Q) (0+m))):JJ W w n D σ fs (ac1 P (.seq (.region id ops false) c) Q):=JP (Jp m h k)
def cO {id:Nat} {c:Code} (m:Nat) (h:zt P ops n m 0 σ=some σ':=by exact rfl) (hi:ops.size=0+m:=by exact rfl) (k:JJ W w n D σ' fs (Code.wp P c Q)):JJ W w n D σ fs (ac1 P (.seq (.region id ops false) c) Q):=JP (Jp m h (Jj hi (λ_ _=>rfl) k))
def bF {id:Nat} (m:Nat) (h:zt P ops n m 0 σ=some σ':=by exact rfl) (hi:ops.size=0+m:=by exact rfl) (k:JJ W w n D σ' fs (Q .ret)):JJ W w n D σ fs (ac1 P (.seq (.region id ops false) .ret) Q):=cO m h hi (JZ k)
theorem bM {c:Code} (m:Nat) (h:zt P ops n m i σ=some σ':=by exact rfl) (hi:ops.size=i+m:=by exact rfl) (r:∀a w,e .normal a w=Code.wp P c Q a w:=by exact λ_ _=>rfl) (k:JJ W w n D σ' fs (Code.wp P c Q)):JJ W w n D σ fs (qi P ops e i):=Jp m h (Jj hi r k)
def aP (hi:ops.size=i:=by exact rfl) (h:∀a w,e .normal a w=Code.wp P .ret Q a w:=by exact λ_ _=>rfl) (k:JJ W w n D σ fs (Q .ret)):JJ W w n D σ fs (qi P ops e i):=Jj hi h (JZ k)
def bN {id:Nat} {c e:Code} (m:Nat) (h:zt P ops n m 0 σ=some σ':=by exact rfl) (k:JJ W w n D σ' fs (qi P ops (Exit.then (Code.wp P c (Exit.then (Code.wp P e Q) Q)) (Exit.then (Code.wp P e Q) Q)) (0+m))):JJ W w n D σ fs (ac1 P (.seq (.seq (.region id ops false) c) e) Q):=JQ (JP (Jp m h k))
def aU {x c:Code} (hc:look σ s=some (.bool false):=by exact rfl) (h:∀a w,e .normal a w=Code.wp P c Q a w:=by exact λ_ _=>rfl) (k:JJ W w n D σ fs (Code.wp P c Q)):JJ W w n D σ fs (ac1 P (.cond s x .skip) e):=JF hc (DU h k)
def eO {y c e:Code} {id:Nat} {r:Exit->Act->World->Prop} (hc:look σ s=some (.bool true):=by exact rfl) (h:∀a w,r .normal a w=Code.wp P (.seq (.block id c) e) Q a w:=by exact λ_ _=>rfl) (k:JJ W w n D σ fs (Code.wp P c (Exit.inBlock id (Exit.then (Code.wp P e Q) Q)))):JJ W w n D σ fs (ac1 P (.cond s .skip y) r):=JT hc (DU h (JQ (JB k)))
theorem bA {id:Nat} {c:Code} (m:Nat) (hi:ops.size=i:=by exact rfl) (h:∀a w,e .normal a w=Code.wp P (.seq (.region id o2 false) c) Q a w:=by exact λ_ _=>rfl) (r:zt P o2 n m 0 σ=some σ':=by exact rfl) (k:JJ W w n D σ' fs (qi P o2 (Exit.then (Code.wp P c Q) Q) (0+m))):JJ W w n D σ fs (qi P ops e i):=Jr hi h (Jp m r k)
section
variable {fn:Func} {R:Ending->World->Prop} {t1 t2 t3:Nat}
def bC (e:∀a w,bodyPost P fn R .ret a w->X a w:=by exact λ_ _ h=>h) (hr:fn.results= #[.tmp t1]:=by exact rfl) (h1:σ.lookup t1=some v1:=by exact rfl) (r:Mem W w fs->R (.returned v1) w):JJ W w n [] σ fs X:=λ_ Z s=>e _ _ (lN hr Z h1 (r s))
def uj (e:∀a w,bodyPost P fn R .ret a w->X a w:=by exact λ_ _ h=>h) (hr:fn.results= #[.tmp t1]:=by exact rfl) (h1:σ.lookup t1=some v1:=by exact rfl) (r:Mem W w fs->R (.returned v1) w:=by exact λM=>⟨rfl,M.below⟩):JJ W w n [] σ fs X:=λ_ Z s=>e _ _ (lN hr Z h1 (r s))
def bO (e:∀a w,bodyPost P fn R .ret a w->X a w:=by exact λ_ _ h=>h) (hr:fn.results= #[.tmp t1,.tmp t2]:=by exact rfl) (h1:σ.lookup t1=some v1:=by exact rfl) (r:σ.lookup t2=some v2:=by exact rfl) (s:Mem W w fs->R (.returned (.tuple #[v1,v2])) w):JJ W w n [] σ fs X:=λ_ Z u=>e _ _ (uR hr Z h1 r (s u))
end
def JA (z:Array Value) {e:TypeId} (h:gM ops σ n i=some (d,.alloc e):=by exact rfl) (hz:xq P e=some z:=by kernel_rfl) (k:∀r g,JJ W r n D ((d,.pointer (some ⟨g,0,none⟩))::σ) (.blk g z e::fs) (qi P ops Q (i+1))):JJ W w n D σ fs (qi P ops Q i):=
 aak h λ_ _ A C s Z u=>Oo Z u A hz C s λa r g Z u=>k r g a Z u
def JE {e:TypeId} (h:gM ops σ n i=some (d,.box e x):=by exact rfl) (z:look σ x=some (.agg C):=by exact rfl) (k:∀r g,JJ W r n D ((d,.pointer (some ⟨g,0,none⟩))::σ) (.blk g C e::fs) (qi P ops Q (i+1))):JJ W w n D σ fs (qi P ops Q i):=
 aak h λ_ _ A E s Z u=>zQ Z u A z rfl E s λa r g Z u=>k r g a Z u
def uT {e:TypeId} (h:gM ops σ n i=some (d,.box e x):=by exact rfl) (z:look σ x=some v:=by exact rfl) (hc:v.cells= #[v]:=by exact rfl) (k:∀r g,JJ W r n D ((d,.pointer (some ⟨g,0,none⟩))::σ) (.blk g #[v] e::fs) (qi P ops Q (i+1))):JJ W w n D σ fs (qi P ops Q i):=
 aak h λ_ _ A C s Z u=>zQ Z u A z hc C s λa r g Z u=>k r g a Z u
def JW {off:Nat} {l m:List Value} {v0:Value} (O:lQ (.blk g l.toArray tb) (.blk g m.toArray tb) fs fs') (U:lQ v0 v l m) (s:ops[i]?=some o:=by exact rfl) (e:o.op= .store t x y:=by exact rfl) (u:dU ops σ o=some true:=by exact rfl) (z:o.dst=none:=by exact rfl) (A:look σ x=some (.pointer (some ⟨g,off,none⟩)):=by exact rfl) (hy:look σ y=some v:=by exact rfl) (hs:(P.info? t).map (·.size)=some 1:=by kernel_rfl) (C:v.oneCell'=true:=by exact rfl)
 (E:m=l.set off v:=by exact rfl) (F:Nat.blt off l.length=true:=by exact rfl) (k:∀h,JJ W h n D σ fs' (qi P ops Q (i+1))):JJ W w n D σ fs (qi P ops Q i):=by
 obtain ⟨j,G,rfl⟩:=O.get
 refine λa Z r=>EU Z s u (qG Z r e z A hy hs C G (by simpa using F) λh r=>k h a Z ?_)
 subst E
 simpa using r
def JV {ds:Array Value} (s:SI P t m) (O:lQ (.blk g C tb) (.blk g ds tb) fs fs') (z:ops[i]?=some o:=by exact rfl) (e:o.op= .store t x y:=by exact rfl) (A:dU ops σ o=some true:=by exact rfl) (E:o.dst=none:=by exact rfl) (F:look σ x=some (.pointer (some ⟨g,0,none⟩)):=by exact rfl) (hy:look σ y=some (.agg ds):=by exact rfl)
 (hc:C.size=m:=by exact rfl) (hm:ds.size=m:=by exact rfl) (h1:∀u∈ds.toList,u.oneCell'=true:=by simp [Value.oneCell']) (k:∀h,JJ W h n D σ fs' (qi P ops Q (i+1))):JJ W w n D σ fs (qi P ops Q i):=by
 obtain ⟨j,G,rfl⟩:=O.get
 exact λa Z r=>EU Z z A (Wi Z r e E F hy s hc hm h1 G λh r=>k h a Z r)
theorem JI {xs:Array Operand} {ts:Array TypeId} (A:gM ops σ n i=some (d,.call {callee:= .value (.func f),args:=xs,argTypes:=ts}):=by exact rfl) (C:looks σ xs.toList=some vs:=by exact rfl) (h:Mem W w fs->Calls P f vs.toArray w (λr e=>r= .returned v/\Below w.heap.size w e)) (E:callable P f=true:=by kernel_rfl)
 (k:∀e,Below w.heap.size w e->JJ W e n D ((d,v)::σ) fs (qi P ops Q (i+1))):JJ W w n D σ fs (qi P ops Q i):=
 aak A λ_ _ F G s Z u=>zS Z F C E G s (h u) λ_ e ⟨H,z⟩=>⟨v,H,λa Z=>k e z a Z (u.call z)⟩
theorem JL {xs:Array Operand} {ts:Array TypeId} (z:gM ops σ n i=some (d,.call {callee:= .value (.func f),args:=xs,argTypes:=ts}):=by exact rfl) (A:looks σ xs.toList=some vs:=by exact rfl) (h:Mem W w fs->Calls P f vs.toArray w R) (C:callable P f=true:=by kernel_rfl)
 (k:Mem W w fs->∀r e,R r e->∃v,r= .returned v/\∃fs',Mem W e fs'/\JJ W e n D ((d,v)::σ) fs' (qi P ops Q (i+1))):JJ W w n D σ fs (qi P ops Q i):=
 aak z λ_ _ E F s Z u=>zS Z E A C F s (h u) λr e G=>let ⟨v,H,_,I,J⟩:=k u r e G;⟨v,H,λa Z=>J a Z I⟩
def JK {xs:Array Operand} {ts:Array TypeId} {V:Option Addr->Nat->Value} {e:TypeId} {ys:List Value} (C:gM ops σ n i=some (d,.call {callee:= .value (.func f),args:=xs,argTypes:=ts}):=by exact rfl) (E:looks σ xs.toList=some vs:=by exact rfl) (h:Mem W w fs->Calls P f vs.toArray w (λr s=>(∃A c,r= .returned (V A c)/\s.ownsRow w.heap.size e sz (.slice A m c) m ys/\m<=c)/\Below w.heap.size w s)) (F:callable P f=true:=by kernel_rfl)
 (k:∀A c s,m<=c->JJ W s n D ((d,V A c)::σ) (.row (.slice A m c) m ys e sz::fs) (qi P ops Q (i+1))):JJ W w n D σ fs (qi P ops Q i):=
 aak C λ_ _ G H u Z z=>zS Z G E F H u (h z) λr s ⟨⟨A,c,I,J,K⟩,L⟩=>⟨_,I,λa Z=>k A c s K a Z (z.bX L J)⟩
def JO {xs:Array Operand} {ts:Array TypeId} (u:gM ops σ n i=some (d,.call {callee:= .value (.func f),args:=xs,argTypes:=ts}):=by exact rfl) (z:looks σ xs.toList=some vs:=by exact rfl) (h:Mem W w fs->Calls P f vs.toArray w (λr e=>r= .returned v/\Mem W e fs')) (A:callable P f=true:=by kernel_rfl)
 (k:∀e,JJ W e n D ((d,v)::σ) fs' (qi P ops Q (i+1))):JJ W w n D σ fs (qi P ops Q i):=
 aak u λ_ _ C E s Z F=>zS Z C z A E s (h F) λr e ⟨G,H⟩=>⟨v,G,λa Z=>k e a Z H⟩
theorem JU {t len e:Nat} {vs:List (Nat×Value)} {size bytes:Nat} (C:EI P t e z size bytes) (A:Array Value) (h:gM ops σ n i=some (d,.buildSlice t len ps):=by exact rfl) (E:decide (0<len/\len*size<=16777216)=true:=by decide) (F:xu σ ps.toList=some vs:=by exact rfl)
 (G:Instr.fill (λi=>some (i*size,size)) (Lc z.cells (len*size)) vs=some A:=by kernel_rfl) (k:∀r g,JJ W r n D ((d,.slice (some ⟨g,0,none⟩) len len)::σ) (.blk g A e::fs) (qi P ops Q (i+1))):JJ W w n D σ fs (qi P ops Q i):=
 aak h λ_ _ H I s Z u=>Wm Z u H C E F G I s λa r g Z u=>k r g a Z u
theorem JD {e:TypeId} {size bytes C:Nat} {F:Option Addr->Nat->List Fact} (news:List Value) (j:Nat) (O:∀E r,lQ (.row v C xs e size) (.row (.slice E (C+m) r) (C+m) (xs++news) e size) fs (F E r)) (K:EI P t e z size bytes)
 (L:gM ops σ n i=some (d,.call {callee:= .builtin .append,args:= #[s,x],argTypes:= #[t,t]}):=by exact rfl) (hs:look σ s=some v:=by exact rfl) (M:look σ x=some (.slice A m c):=by exact rfl) (S:fs[j]?=some (.row v C xs e size):=by exact rfl) (T:(λE r=>fs.set j (.row (.slice E (C+m) r) (C+m) (xs++news) e size))=F:=by kernel_rfl)
 (hr:Mem W w fs->Rd w B size A m news) (h1:∀u∈news,u.oneCell'=true) (hb:(C+m)*bytes<=140737488355328:=by omega) (h63:C+m<=9223372036854775807:=by omega)
 (k:∀G E r,C+m<=r->JJ W G n D ((d,.slice E (C+m) r)::σ) (F E r) (qi P ops Q (i+1))):JJ W w n D σ fs (qi P ops Q i):=
 aak L λ_ _ U V H Z J=>qV Z J U K hs M S (hr J) h1 hb h63 V H λa G E r Z I hc=>k G E r hc a Z (by have h:=congrFun (congrFun T E) r;rw [<-h];exact I)
def JH {p:Prop} (h:p) (k:p->JJ W w n D σ fs X):JJ W w n D σ fs X:=k h
section
variable {f N:Nat} {fn:Func} {c:Code} {R:Ending->World->Prop} {u1 u2 u3 u4 u5 u6 u7 u8:Value}
def JN0 (e:P.funcs[f]?=some fn) (N:Nat) (h:fn.ntmps=N:=by exact rfl) (hb:fn.body=some c:=by exact rfl) (r:decide (0<=N)=true:=by kernel_rfl) (k:JJ w w N [] [] [] (Code.wp P c (bodyPost P fn R))):Calls P f #[] w R:=
 yh (vs:=[]) e hb h r rfl λa Z=>k a Z (Mem.start w)
def eF (e:P.funcs[f]?=some fn) (N:Nat) (h:fn.ntmps=N:=by exact rfl) (hb:fn.body=some c:=by exact rfl) (r:decide (1<=N)=true:=by kernel_rfl) (k:JJ w w N [] [(0,u1)] [] (Code.wp P c (bodyPost P fn R))):Calls P f #[u1] w R:=
 yh (vs:=[u1]) e hb h r rfl λa Z=>k a Z (Mem.start w)
def jf (e:P.funcs[f]?=some fn) (N:Nat) (h:fn.ntmps=N:=by exact rfl) (hb:fn.body=some c:=by exact rfl) (r:decide (2<=N)=true:=by kernel_rfl) (k:JJ w w N [] [(0,u1),(1,u2)] [] (Code.wp P c (bodyPost P fn R))):Calls P f #[u1,u2] w R:=
 yh (vs:=[u1,u2]) e hb h r rfl λa Z=>k a Z (Mem.start w)
def uU (e:P.funcs[f]?=some fn) (N:Nat) (h:fn.ntmps=N:=by exact rfl) (hb:fn.body=some c:=by exact rfl) (r:decide (3<=N)=true:=by kernel_rfl) (k:JJ w w N [] [(0,u1),(1,u2),(2,u3)] [] (Code.wp P c (bodyPost P fn R))):Calls P f #[u1,u2,u3] w R:=
 yh (vs:=[u1,u2,u3]) e hb h r rfl λa Z=>k a Z (Mem.start w)
end
end
section
variable {P:Program} {ops o2:Array Oper} {Q:Exit->Act->World->Prop} {a:Act} {W w:World} {n d d2 fuel:Nat} {D:List Deferred} {σ σ':List (Nat×Value)} {o o':Oper} {op:Op} {v v1 v2 v3:Value} {X:Act->World->Prop} {fs gs fs':List Fact} {md:Region.Mode} {listed:Array Bool} {ex:List Nat} {S:World->Prop}
def VV (W w:World) (n:Nat) (D:List Deferred) (σ:List (Nat×Value)) (fs gs:List Fact) (X:Act->World->Prop):Prop:=∀a,Fr a n D σ->Mem W w fs->Mem W w gs->X a w
def Vb (Z:Fr a n D σ) (b:Mem W w fs) (c:Mem W w gs) (h:VV W w n D σ fs gs X):X a w:=h a Z b c
def jD (l:Array Bool) (b:List Nat):Array Bool:=b.foldl (λl i=>l.setIfInBounds i true) l
def Vs (m:sU fs gs) (ex:List Nat) {id c:Nat} (j:ops.size=c:=by exact rfl) (hm:P.follows .mixedOrders=true:=by kernel_rfl) (k:∀q,VV W q n D σ fs gs (qk P .any ops Q (λb=>Mem W b gs) ex c (Array.replicate ops.size false))):JJ W w n D σ fs (ac1 P (.region id ops true) Q):=
 λa Z e=>V9 hm (λb=>Mem W b gs) ex (by have h:=k w.drew a Z e.drew (e.drew.sel m);subst j;exact h)
def Vd (hr:Region.ready md ops listed=[]:=by kernel_rfl) (k:JJ W w n D σ fs (Q .normal)):VV W w n D σ fs gs (qk P md ops Q S ex fuel listed):=λa Z b _=>qe hr (k a Z b)
def DV (P:Program) (ops:Array Oper) (n:Nat):List Nat->List (Nat×Value)->Option (List (Nat×Value))
 |[],σ=>some σ
 |i::b,σ=>match zP P ops n i σ with
  |some σ'=>DV P ops n b σ'
  |none=>none
def pI (md:adY) (ops:Array Oper) (ex:List Nat):List Nat->Array Bool->Bool
 |[],_=>true
 |i::b,l=>oU md ops ex l i&&pI md ops ex b (l.setIfInBounds i true)
def OO:∀(b:List Nat) {l:Array Bool} {σ σ':List (Nat×Value)},DV P ops n b σ=some σ'->pI md ops ex b l=true->yg P md ops n ex b l σ=some (jD l b,σ')
 |[],_,_,_,h,_=>by injection h with h;subst h;rfl
 | i :: b, l, σ, σ', h, c => by
  unfold DV at h
  unfold pI at c
  rw [abG] at c
  split at h
  ·rename_i s hs
   unfold yg
   rw [if_pos c.1,hs]
   exact OO b h c.2
  ·cases h
def Vp (b:List Nat) (h:DV P ops n b σ=some σ':=by exact rfl) (hk:pI md ops ex b listed=true:=by kernel_rfl) (j:∀c (a:Act) d v w,Q (.panic c) (a.put d v) w->Q (.panic c) a w:=by intro _ _ d _ _ h;cases d<;>exact h)
 (k:VV W w n D σ' fs gs (qk P md ops Q S ex fuel (jD listed b))) (q:∀w,Mem W w gs->S w:=by exact λ_ h=>h):VV W w n D σ fs gs (qk P md ops Q S ex (fuel+abn b) listed):=
 λa Z r e=>Lb j b Z (λ_=>q _ e) (OO b h hk) λa Z=>k a Z r e
def Vq (b:List Nat) (new:List (Nat×Value)) (h:(DV P ops n b σ).map (λs=>(thin s σ new,new.map λp=>s.lookup p.1))=some (true,new.map λp=>some p.2):=by kernel_rfl) (hk:pI md ops ex b listed=true:=by kernel_rfl) (r:∀c (a:Act) d v w,Q (.panic c) (a.put d v) w->Q (.panic c) a w:=by intro _ _ d _ _ h;cases d<;>exact h)
 (k:VV W w n D (new++σ) fs gs (qk P md ops Q (λe=>Mem W e gs) ex fuel (jD listed b))):VV W w n D σ fs gs (qk P md ops Q (λe=>Mem W e gs) ex (fuel+abn b) listed):=by
 cases hs:DV P ops n b σ with
 |none=>rw [hs] at h;cases h
 |some s=>
  rw [hs] at h
  injection h with h
  injection h with u z
  have j:=OO b hs hk
  obtain ⟨full,A⟩:=Om b j
  exact λa Z C q=>Lb r b Z (λ_=>q) j λa Z=>k a (Z.thin A u z) C q
section
variable {i:Nat}
def aaq (h:gM ops σ n i=some (d,op)) (hk:sN md ops ex listed i=true) (r:∀c (a:Act) v w,Q (.panic c) (a.put (some d) v) w->Q (.panic c) a w) (hy:∀o:Oper,o.op=op->Yl P (λb=>Mem W b gs) σ o v)
 (k:VV W w n D ((d,v)::σ) fs gs (qk P md ops Q (λb=>Mem W b gs) ex fuel (listed.setIfInBounds i true))):VV W w n D σ fs gs (qk P md ops Q (λb=>Mem W b gs) ex (fuel+1) listed):=by
 obtain ⟨o,s,u,j,e,z⟩:=Fw h
 exact λa Z A q=>DI Z q s u j e hk (λc a w=>by rw [j];exact r c a v w) (hy o z) λa Z=>k a Z A q
def aan (h:gM ops σ n i=some (d,op)) (hk:oU md ops ex listed i=true) (r:∀c (a:Act) v w,Q (.panic c) (a.put (some d) v) w->Q (.panic c) a w) (hy:∀o:Oper,o.op=op->∀s,Yl P s σ o v)
 (k:VV W w n D ((d,v)::σ) fs gs (qk P md ops Q (λb=>Mem W b gs) ex fuel (listed.setIfInBounds i true))):VV W w n D σ fs gs (qk P md ops Q (λb=>Mem W b gs) ex (fuel+1) listed):=by
 obtain ⟨o,u,z,j,e,A⟩:=Fw h
 exact λa Z C q=>pE Z (λ_=>q) u z j e hk (λc a w=>by rw [j];exact r c a v w) (hy o A) λa Z=>k a Z C q
def aaC (h:gM ops σ n i=some (d,op)) (hr:acz md ops listed=[i]) (k:∀(o:Oper) a,o.op=op->o.dst=some d->d<n->Fr a n D σ->Mem W w fs->o.wp P a w (λj e=>(dV ex (listed.setIfInBounds i true)=false->Mem W e gs)/\qk P md ops Q (λb=>Mem W b gs) ex fuel (listed.setIfInBounds i true) j e) Q):VV W w n D σ fs gs (qk P md ops Q (λb=>Mem W b gs) ex (fuel+1) listed):=by
 obtain ⟨o,q,r,s,c,u⟩:=Fw h
 exact λa Z z _=>zd [i] hr rfl (all_cons (qq Z q r (k o a u s c Z z)) all_nil)
end
def Vf (i off:Nat) {s f g b:Nat} {x:Operand} (h:gM ops σ n i=some (d,.fieldAddr s x f):=by exact rfl) (q:look σ x=some (.pointer (some ⟨g,b,none⟩)):=by exact rfl) (e:(DF P s f==some off&&oU md ops ex listed i)=true:=by kernel_rfl) (r:∀c (a:Act) v w,Q (.panic c) (a.put (some d) v) w->Q (.panic c) a w:=by exact λ_ _ _ _ h=>h)
 (k:VV W w n D ((d,.pointer (some ⟨g,b+off,none⟩))::σ) fs gs (qk P md ops Q (λj=>Mem W j gs) ex fuel (listed.setIfInBounds i true))):VV W w n D σ fs gs (qk P md ops Q (λj=>Mem W j gs) ex (fuel+1) listed):=by
 rw [abG,beq_iff_eq] at e
 exact aan h e.2 r (λo u _=>Yl.pure (by rw [u];simp only [sM,q,e.1];rw [acC])) k
def nH (i:Nat) {t tb:TypeId} {x:Operand} {g m:Nat} {C:Array Value} (j:SI P t m) (O:At gs (.blk g C tb)) (h:gM ops σ n i=some (d,.load t x):=by exact rfl) (q:look σ x=some (.pointer (some ⟨g,0,none⟩)):=by exact rfl) (hm:C.size=m:=by exact rfl) (b:sN md ops ex listed i=true:=by kernel_rfl) (r:∀c (a:Act) v w,Q (.panic c) (a.put (some d) v) w->Q (.panic c) a w:=by exact λ_ _ _ _ h=>h) (k:VV W w n D ((d,.agg C)::σ) fs gs (qk P md ops Q (λe=>Mem W e gs) ex fuel (listed.setIfInBounds i true))):VV W w n D σ fs gs (qk P md ops Q (λe=>Mem W e gs) ex (fuel+1) listed):=
 aaq h b r (λo s=>let ⟨_,hi⟩:=O.get;Pe s q j hm λ_ h=>qj (h.blk hi)) k
def xG (i y sz:Nat) {t:TypeId} {x ix:Operand} {g of m c:Nat} {kd:Go.IntKind} (h:gM ops σ n i=some (d,.indexAddr t x ix):=by exact rfl) (j:look σ x=some (.slice (some ⟨g,of,none⟩) m c):=by exact rfl) (hi:look σ ix=some (.int kd (y:Int)):=by exact rfl) (hy:y<m:=by omega) (q:Bq P t=some sz:=by kernel_rfl) (b:sN md ops ex listed i=true:=by kernel_rfl) (r:∀c (a:Act) v w,Q (.panic c) (a.put (some d) v) w->Q (.panic c) a w:=by exact λ_ _ _ _ h=>h) (k:VV W w n D ((d,.pointer (some ⟨g,of+y*sz,none⟩))::σ) fs gs (qk P md ops Q (λe=>Mem W e gs) ex fuel (listed.setIfInBounds i true))):VV W w n D σ fs gs (qk P md ops Q (λe=>Mem W e gs) ex (fuel+1) listed):=
 aaq h b r (λo s=>Yl.ix g of y sz s j hi hy q) k
section
variable {α:Type} {f:α->List Value} {l:List α} {g of m sz:Nat} {t:TypeId} {x:Operand}
def Fx (i:Nat) (r:∀x,(f x).length=sz) (hr:Rd W W.heap.size sz (some ⟨g,of,none⟩) m (l.flatMap f)) (j b:Nat) (s:α) (h:gM ops σ n i=some (d,.load t x):=by exact rfl) (u:look σ x=some (.pointer (some ⟨g,of+b*sz+j,none⟩)):=by exact rfl) (z:nth (f (l.getD b s)) j=some v:=by exact rfl) (hk:b<l.length:=by omega) (ht:gD P t=true:=by kernel_rfl) (e:sN md ops ex listed i=true:=by kernel_rfl) (A:∀c (a:Act) v w,Q (.panic c) (a.put (some d) v) w->Q (.panic c) a w:=by exact λ_ _ _ _ h=>h) (k:VV W w n D ((d,v)::σ) fs gs (qk P md ops Q (λq=>Mem W q gs) ex fuel (listed.setIfInBounds i true))):VV W w n D σ fs gs (qk P md ops Q (λq=>Mem W q gs) ex (fuel+1) listed):=
 aaq h e A (λ_ C=>aat r hr hk rfl z C u ht) k
def Xb (i:Nat) (r:∀x,(f x).length=sz) (hr:Rd W W.heap.size sz (some ⟨g,of,none⟩) m (l.flatMap f)) (b:Nat) (s:α) (h:gM ops σ n i=some (d,.load t x):=by exact rfl) (u:look σ x=some (.pointer (some ⟨g,of+b*sz,none⟩)):=by exact rfl) (z:nth (f (l.getD b s)) 0=some v:=by exact rfl) (hk:b<l.length:=by omega) (ht:gD P t=true:=by kernel_rfl) (e:sN md ops ex listed i=true:=by kernel_rfl) (A:∀c (a:Act) v w,Q (.panic c) (a.put (some d) v) w->Q (.panic c) a w:=by exact λ_ _ _ _ h=>h) (k:VV W w n D ((d,v)::σ) fs gs (qk P md ops Q (λq=>Mem W q gs) ex fuel (listed.setIfInBounds i true))):VV W w n D σ fs gs (qk P md ops Q (λq=>Mem W q gs) ex (fuel+1) listed):=
 aaq h e A (λ_ C=>aat r hr (j:=0) hk rfl z C u ht) k
end
def Vc (i:Nat) {g off:Nat} {x:Operand} {t tb:TypeId} {C:Array Value} (O:At gs (.blk g C tb)) (h:gM ops σ n i=some (d,.load t x):=by exact rfl) (e:look σ x=some (.pointer (some ⟨g,off,none⟩)):=by exact rfl) (j:nth C.toList off=some v:=by exact rfl) (ht:(gD P t&&sN md ops ex listed i)=true:=by kernel_rfl) (q:∀c (a:Act) v w,Q (.panic c) (a.put (some d) v) w->Q (.panic c) a w:=by exact λ_ _ _ _ h=>h)
 (k:VV W w n D ((d,v)::σ) fs gs (qk P md ops Q (λb=>Mem W b gs) ex fuel (listed.setIfInBounds i true))):VV W w n D σ fs gs (qk P md ops Q (λb=>Mem W b gs) ex (fuel+1) listed):=by
 rw [abG] at ht
 exact aaq h ht.2 q (λo r=>Pd r e ht.1 λ_ h=>let ⟨_,hi⟩:=O.get;h.cell hi (Lu j)) k
def Vl (i:Nat) {x:Operand} {t:TypeId} {A:Option Addr} {m c:Nat} (h:gM ops σ n i=some (d,.call {callee:= .builtin .len,args:= #[x],argTypes:= #[t]}):=by exact rfl) (e:look σ x=some (.slice A m c):=by exact rfl) (ht:(nG P t&&oU md ops ex listed i)=true:=by kernel_rfl) (j:∀c (a:Act) v w,Q (.panic c) (a.put (some d) v) w->Q (.panic c) a w:=by exact λ_ _ _ _ h=>h)
 (k:VV W w n D ((d,.int .i64 (m:Int))::σ) fs gs (qk P md ops Q (λb=>Mem W b gs) ex fuel (listed.setIfInBounds i true))):VV W w n D σ fs gs (qk P md ops Q (λb=>Mem W b gs) ex (fuel+1) listed):=by
 rw [abG] at ht
 exact aan h ht.2 j (λo q _=>Yl.len q e ht.1) k
def Vn (i:Nat) {x:Operand} {p:Addr} (h:gM ops σ n i=some (d,.nilCheck x):=by exact rfl) (e:look σ x=some (.pointer (some p)):=by exact rfl) (ht:oU md ops ex listed i=true:=by kernel_rfl) (j:∀c (a:Act) v w,Q (.panic c) (a.put (some d) v) w->Q (.panic c) a w:=by exact λ_ _ _ _ h=>h)
 (k:VV W w n D ((d,.pointer (some p))::σ) fs gs (qk P md ops Q (λb=>Mem W b gs) ex fuel (listed.setIfInBounds i true))):VV W w n D σ fs gs (qk P md ops Q (λb=>Mem W b gs) ex (fuel+1) listed):=
 aan h ht j (λo q _=>Yl.nilCheck q e) k
def Vx (i:Nat) {x:Operand} {e:Nat} {vs:Array Value} (h:gM ops σ n i=some (d,.extract x e):=by exact rfl) (j:look σ x=some (.tuple vs):=by exact rfl) (q:nth vs.toList e=some v:=by exact rfl) (ht:oU md ops ex listed i=true:=by kernel_rfl) (r:∀c (a:Act) v w,Q (.panic c) (a.put (some d) v) w->Q (.panic c) a w:=by exact λ_ _ _ _ h=>h)
 (k:VV W w n D ((d,v)::σ) fs gs (qk P md ops Q (λb=>Mem W b gs) ex fuel (listed.setIfInBounds i true))):VV W w n D σ fs gs (qk P md ops Q (λb=>Mem W b gs) ex (fuel+1) listed):=
 aan h ht r (λo s _=>Yl.pure (by rw [s];simp only [sM,j];exact Lu q)) k
def Vy (i:Nat) (q:ops[i]?=some o:=by exact rfl) (r:dU ops σ o=some true:=by exact rfl) (s:o.dst=some d:=by exact rfl) (e:d<n:=by decide) (h:Yl P (λb=>Mem W b gs) σ o v) (ht:sN md ops ex listed i=true:=by kernel_rfl) (u:∀c (a:Act) w,Q (.panic c) (a.put o.dst v) w->Q (.panic c) a w:=by exact λ_ _ _ h=>h)
 (k:VV W w n D ((d,v)::σ) fs gs (qk P md ops Q (λb=>Mem W b gs) ex fuel (listed.setIfInBounds i true))):VV W w n D σ fs gs (qk P md ops Q (λb=>Mem W b gs) ex (fuel+1) listed):=
 λa Z z j=>DI Z j q r s e ht u h λa Z=>k a Z z j
def Vu (i:Nat) (q:ops[i]?=some o:=by exact rfl) (r:dU ops σ o=some true:=by exact rfl) (s:o.dst=some d:=by exact rfl) (b:d<n:=by decide) (h:∀u:World->Prop,Yl P u σ o v) (ht:oU md ops ex listed i=true:=by kernel_rfl) (z:∀c (a:Act) w,Q (.panic c) (a.put o.dst v) w->Q (.panic c) a w:=by exact λ_ _ _ h=>h)
 (k:VV W w n D ((d,v)::σ) fs gs (qk P md ops Q (λe=>Mem W e gs) ex fuel (listed.setIfInBounds i true))):VV W w n D σ fs gs (qk P md ops Q (λe=>Mem W e gs) ex (fuel+1) listed):=
 λa Z A j=>pE Z (λ_=>j) q r s b ht z h λa Z=>k a Z A j
def Vo (u:Value) (h:v=u) (k:VV W w n D ((d,u)::σ) fs gs X):VV W w n D ((d,v)::σ) fs gs X:=by subst h;exact k
def VH {p:Prop} (h:p) (k:p->VV W w n D σ fs gs X):VV W w n D σ fs gs X:=k h
section
variable {x y:Operand} {t t2:TypeId} {k:Go.IntKind} {m p B:Nat}
def aaG (i:Nat) {j:BinOp} {u:Value} {z I:Value} (h:gM ops σ n i=some (d,.binOp j t x y t2)) (q:look σ x=some z) (hy:look σ y=some I) (ht:oU md ops ex listed i=true) (r:∀c (a:Act) v w,Q (.panic c) (a.put (some d) v) w->Q (.panic c) a w) (s:EP z=true) (hb:sK j z I=some v) (e:v=u)
 (K:VV W w n D ((d,u)::σ) fs gs (qk P md ops Q (λb=>Mem W b gs) ex fuel (listed.setIfInBounds i true))):VV W w n D σ fs gs (qk P md ops Q (λb=>Mem W b gs) ex (fuel+1) listed):=by
 subst e
 exact aan h ht r (λo A _=>Yl.pure (by rw [A];simp only [sM,q,hy,s,if_true];exact hb)) K
def Va (i:Nat) (h:gM ops σ n i=some (d,.binOp .add t x y t2):=by exact rfl) (e:look σ x=some (.int k (m:Int)):=by exact rfl) (hy:look σ y=some (.int k (p:Int)):=by exact rfl) (j:jU k=some B:=by exact rfl) (hb:m+p<=B:=by omega) (ht:oU md ops ex listed i=true:=by kernel_rfl) (q:∀c (a:Act) v w,Q (.panic c) (a.put (some d) v) w->Q (.panic c) a w:=by exact λ_ _ _ _ h=>h)
 (K:VV W w n D ((d,.int k ((m+p:Nat):Int))::σ) fs gs (qk P md ops Q (λb=>Mem W b gs) ex fuel (listed.setIfInBounds i true))):VV W w n D σ fs gs (qk P md ops Q (λb=>Mem W b gs) ex (fuel+1) listed):=
 aaG i h e hy ht q rfl (W9 _ _ _) (by rw [show ((m:Int)+(p:Int))=((m+p:Nat):Int) from rfl,qed j hb]) K
def yx (i p:Nat) {z:Int} (h:gM ops σ n i=some (d,.binOp .add t x y t2):=by exact rfl) (e:look σ x=some (.int k (m:Int)):=by exact rfl) (hy:look σ y=some (.int k z):=by exact rfl) (hz:z=(p:Int):=by exact rfl) (j:jU k=some B:=by exact rfl) (hb:m+p<=B:=by omega) (ht:oU md ops ex listed i=true:=by kernel_rfl) (q:∀c (a:Act) v w,Q (.panic c) (a.put (some d) v) w->Q (.panic c) a w:=by exact λ_ _ _ _ h=>h)
 (K:VV W w n D ((d,.int k ((m+p:Nat):Int))::σ) fs gs (qk P md ops Q (λb=>Mem W b gs) ex fuel (listed.setIfInBounds i true))):VV W w n D σ fs gs (qk P md ops Q (λb=>Mem W b gs) ex (fuel+1) listed):=by
 subst hz;exact Va i h e hy j hb ht q K
def Fy (i p:Nat) {z:Int} (h:gM ops σ n i=some (d,.binOp .sub t x y t2):=by exact rfl) (e:look σ x=some (.int k (m:Int)):=by exact rfl) (hy:look σ y=some (.int k z):=by exact rfl) (hz:z=(p:Int):=by exact rfl) (j:jU k=some B:=by exact rfl) (hb:p<=m/\m-p<=B:=by omega) (ht:oU md ops ex listed i=true:=by kernel_rfl) (q:∀c (a:Act) v w,Q (.panic c) (a.put (some d) v) w->Q (.panic c) a w:=by exact λ_ _ _ _ h=>h)
 (K:VV W w n D ((d,.int k ((m-p:Nat):Int))::σ) fs gs (qk P md ops Q (λb=>Mem W b gs) ex fuel (listed.setIfInBounds i true))):VV W w n D σ fs gs (qk P md ops Q (λb=>Mem W b gs) ex (fuel+1) listed):=by
 subst hz
 exact aaG i h e hy ht q rfl (Xa _ _ _) (by rw [show ((m:Int)- (p:Int))=((m-p:Nat):Int) by omega,qed j hb.2]) K
def Vw (i:Nat) (k:Go.IntKind) {e:Go.IntKind} (h:gM ops σ n i=some (d,.convert t t2 x):=by exact rfl) (j:look σ x=some (.int e (m:Int)):=by exact rfl) (hk:(yw P t t2==some k&&oU md ops ex listed i)=true:=by kernel_rfl) (q:jU k=some B:=by exact rfl) (hb:m<=B:=by omega) (r:∀c (a:Act) v w,Q (.panic c) (a.put (some d) v) w->Q (.panic c) a w:=by exact λ_ _ _ _ h=>h)
 (K:VV W w n D ((d,.int k (m:Int))::σ) fs gs (qk P md ops Q (λb=>Mem W b gs) ex fuel (listed.setIfInBounds i true))):VV W w n D σ fs gs (qk P md ops Q (λb=>Mem W b gs) ex (fuel+1) listed):=by
 rw [abG,beq_iff_eq] at hk
 obtain ⟨hk,ht⟩:=hk
 refine aan h ht r (λo s _=>Yl.pure (by
  rw [s]
  unfold yw at hk
  split at hk
  ·rename_i A C u z
   injection hk with hk
   subst hk
   simp only [sM,u,z,j,qed q hb]
  ·cases hk)) K
end
def VA (i:Nat) (m:sU fs gs) (r:Array Value) {e:TypeId} (h:gM ops σ n i=some (d,.alloc e):=by exact rfl) (hz:xq P e=some r:=by kernel_rfl) (hr:Region.ready md ops listed=[i]:=by kernel_rfl)
 (k:∀c g,VV W c n D ((d,.pointer (some ⟨g,0,none⟩))::σ) (.blk g r e::fs) gs (qk P md ops Q (λj=>Mem W j gs) ex fuel (listed.setIfInBounds i true))):VV W w n D σ fs gs (qk P md ops Q (λj=>Mem W j gs) ex (fuel+1) listed):=
 aaC h hr λ_ _ s u q Z b=>Oo Z b s hz u q λa c g Z b=>⟨λ_=>b.sel (.f m),k c g a Z b (b.sel (.f m))⟩
def VI (i:Nat) (m:sU fs gs) {f:FuncId} {xs:Array Operand} {ts:Array TypeId} {vs:List Value} (s:gM ops σ n i=some (d,.call {callee:= .value (.func f),args:=xs,argTypes:=ts}):=by exact rfl) (u:looks σ xs.toList=some vs:=by exact rfl) (h:Mem W w fs->Calls P f vs.toArray w (λr b=>r= .returned v/\Below w.heap.size w b)) (z:callable P f=true:=by kernel_rfl) (hr:Region.ready md ops listed=[i]:=by kernel_rfl)
 (k:∀b,Below w.heap.size w b->VV W b n D ((d,v)::σ) fs gs (qk P md ops Q (λj=>Mem W j gs) ex fuel (listed.setIfInBounds i true))):VV W w n D σ fs gs (qk P md ops Q (λj=>Mem W j gs) ex (fuel+1) listed):=
 aaC s hr λ_ _ A C q Z c=>zS Z A u z C q (h c) λ_ b ⟨E,e⟩=>⟨v,E,λa Z=>⟨λ_=>(c.call e).sel m,k b e a Z (c.call e) ((c.call e).sel m)⟩⟩
def VK (i:Nat) (m:sU fs gs) {f:FuncId} {xs:Array Operand} {ts:Array TypeId} {vs:List Value} {V:Option Addr->Nat->Value} {l sz:Nat} {e:TypeId} {ys:List Value} (C:gM ops σ n i=some (d,.call {callee:= .value (.func f),args:=xs,argTypes:=ts}):=by exact rfl) (E:looks σ xs.toList=some vs:=by exact rfl) (h:Mem W w fs->Calls P f vs.toArray w (λr b=>(∃A c,r= .returned (V A c)/\b.ownsRow w.heap.size e sz (.slice A l c) l ys/\l<=c)/\Below w.heap.size w b)) (F:callable P f=true:=by kernel_rfl) (hr:Region.ready md ops listed=[i]:=by kernel_rfl)
 (k:∀A c b,l<=c->VV W b n D ((d,V A c)::σ) (.row (.slice A l c) l ys e sz::fs) gs (qk P md ops Q (λq=>Mem W q gs) ex fuel (listed.setIfInBounds i true))):VV W w n D σ fs gs (qk P md ops Q (λq=>Mem W q gs) ex (fuel+1) listed):=
 aaC C hr λ_ _ G H s Z j=>zS Z G E F H s (h j) λr b ⟨⟨A,c,I,u,J⟩,z⟩=>⟨_,I,λa Z=>⟨λ_=>(j.bX z u).sel (.f m),k A c b J a Z (j.bX z u) ((j.bX z u).sel (.f m))⟩⟩
end
structure Cj (x:Sm) (w:World) (r:Ending) (w':World):Prop where
 ret:r= .returned (.agg x.ev.cells)
 below:Below w.heap.size w w'
def zhl (x:Sm):∀v∈x.cells.toList,v.oneCell'=true:=by intro v a;simp [Sm.cells] at a;rcases a with rfl|rfl|rfl|rfl|rfl|rfl|rfl|rfl|rfl|rfl|rfl<;>rfl
def zhm (t:Nat):abO .i64 (if (1:Int)>(t:Int) then 1 else (t:Int))= .int .i64 ((max t 1:Nat):Int):=by congr 1;split<;>omega
def Ah (hc:c<64):2^c<18446744073709551616:=by
 have:(2:Nat)^c<2^64:=Nat.pow_lt_pow_right om hc
 omega
def zlq {m c:Nat} (hm:m<18446744073709551616) (hc:c<64):abO .u64 (IntKind.u64.wrap (abV IntKind.u64.bits (m:Int)|||abV IntKind.u64.bits ((2^c:Nat):Int)).toNat)= .int .u64 ((m|||2^c:Nat):Int):=Wx (m:=m) (n:=2^c) hm (Ah hc)
def zbl {S:World->Prop} {σ:List (Nat×Value)} {b:acj} (a:o.op= .binOp .shl t x y u) (d:look σ x=some (.int .u64 1)) (hy:look σ y=some (.int b (c:Int))) (hc:c<64):Yl abo S σ o (.int .u64 ((2^c:Nat):Int)):=by
 have h:=aaE (P:=abo) (S:=S) (σ:=σ) (m:=1) (n:=c) a d hy (by show c<=64;omega) (by show 1*2^c<=18446744073709551615;have:=Ah hc;omega)
 rwa [ahk] at h
abbrev aiy:Array Go.Value:=#[vI 0,vI 0,vB 0,vB 0,vI 0,vI 0,vI 0,vI 0,vI 0,vQ 0,vI 0]
def q4z (x:Sm) (h:x.Ok) (w:World):Calls abo 159 #[.agg x.cells] w (Cj x w):=by
 refine (eF Tryz.func159 110) ?_
 refine (JP∘JE) λY g1=>(JA aiy) λw2 g2=>(Jq) ?_
 obtain ⟨h1,h2,h3,h4,h5,h6,h7,h8,h9,M,s⟩:=h
 refine (JG∘JP∘Jg 2 O1∘Jw .i64∘Jp 1∘Jo (vI (1+x.seq:Nat)) (by exact za om om)∘Jg 3 O1∘Jw .i64∘Jg 1 O1∘Jp 1∘Jo (vB (x.cpu%64:Nat)) (by exact ze .u8 _ 64)∘Jg 0 O1∘Jp 1∘Jo (vB (x.kind%10:Nat)) (by exact ze .u8 _ 10)∘Jp 1∘Jo (vB (1+(x.kind%10):Nat)) (by exact Wt om om)∘eH #[vI (1+x.seq:Nat),vI x.time,vB (x.cpu%64:Nat),vB (1+(x.kind%10):Nat),vI 0,vI 0,vI 0,vI 0,vI 0,vQ 0,vI 0]∘JA aiy) λw3 g3=>(JV ⟨kr,kr⟩ aO) λt=>(aH∘Jj) λa Z b=>?_
 refine wp_seq ?_
 refine Jb Z b ((Vs .n []) λN=>(Vf 0 4∘Vf 5 7∘Vf 10 9∘Vc 1 O2∘Vw 2 .i64∘Vp [3]∘Vo (vI (x.task%65535:Nat)) (by exact ze .i64 _ 65535)∘Vp [4]∘Vo (vI (1+(x.task%65535):Nat)) (by exact za om om)∘Vp [15]∘Vc 6 O2∘Vw 7 .i64∘Vp [8]∘Vo (vI (x.weight%65536:Nat)) (by exact ze .i64 _ 65536)∘Vp [9]∘Vo (vI (1+(x.weight%65536):Nat)) (by exact za om om)∘Vp [16]∘Vc 11 O2∘Vw 12 .i64∘Vp [13]∘Vo (vI (x.got%65535:Nat)) (by exact ze .i64 _ 65535)∘Vp [14]∘Vo (vI (1+(x.got%65535):Nat)) (by exact za om om)∘Vp [17]∘Vd∘gq∘JQ∘JP∘Jg 3 O0∘Jj∘JB∘aJ 2∘aK∘Jj) (Je (λg=>?_) λg=>?_))
 ·
  refine (JT∘Vs (.f .n) [19]) λO=>(Vp [0]∘Vf 1 5∘Vp [5]∘Vf 6 10∘Vf 8 2∘Vc 2 O1∘Vw 3 .i64∘Vp [4]∘Vo (vI (x.group%256:Nat)) (by exact ze .i64 _ 256)∘Vc 7 O1) λa Z b d=>?_
  refine s_on Z 9 rfl ?_
  refine Yl.wp (S:=λu=>Mem w u _) (v:=vB (x.cpu%64:Nat)) (Pd rfl rfl kr (λ_ h=>h.cell (i:=0) rfl rfl)) Z b rfl de λa Z=>?_
  refine ay d (λd=>?_)
  refine Vb Z b d ((Vf 12 4∘Vy 10 (v:=vQ (2^ (x.cpu%64):Nat)) (h:=by exact zbl rfl rfl rfl (adW _ de))∘Vp [11]∘Vo (vQ (x.mask|||2^ (x.cpu%64):Nat)) (by exact zlq s (adW _ de))) λa Z b d=>?_)
  refine s_on Z 13 rfl (eG Z b 0 λy b=>?_)
  refine ay (b.pk [1,2]) (λd=>?_)
  refine Vb Z b d ((Vf 14 5) λa Z b d=>?_)
  refine s_on Z 15 rfl (eG Z b 0 λz b=>?_)
  refine ay (b.pk [1,2]) (λd=>?_)
  refine Vb Z b d ((Vf 16 7) λa Z b d=>?_)
  refine s_on Z 17 rfl (eG Z b 0 λA b=>?_)
  refine ay (b.pk [1,2]) (λd=>?_)
  refine Vb Z b d ((Vf 18 9) λa Z b d=>?_)
  refine s_on Z 19 rfl (eG Z b 0 λB b=>?_)
  refine dN kr ?_
  refine qe kr ?_
  refine Jb Z b ((JG∘JP∘Jy (v:= .agg #[vI (1+x.seq:Nat),vI x.time,vB (x.cpu%64:Nat),vB (1+(x.kind%10):Nat),vI (1+(x.task%65535):Nat),vI (x.group%256:Nat),vI 0,vI (1+(x.weight%65536):Nat),vI 0,vQ (x.mask|||2^ (x.cpu%64):Nat),vI 0]) (h:=by exact Pe rfl rfl ⟨kr,kr⟩ rfl (λ_ h=>qj (h.blk (i:=0) rfl)))∘JV ⟨kr,kr⟩ fJ) λc=>(iQ∘aP) ?_)
  have e:x.kind%10=0:=by omega
  intro a Z b
  exact iM rfl Z (.cellS (i:=1) Z b rfl rfl ⟨kr,kr⟩ rfl) (⟨by simp [Sm.ev,Ev.cells,e],b.below⟩)
 refine (JF∘aJ 2∘aK∘Jj) (Je (λj=>?_) λj=>?_)
 ·
  refine (JT∘JR∘Jp 1∘Jf 4∘JW aO rQ) λJ=>(nA∘Jr∘dZ ⟨kr,kr⟩ O0∘JV ⟨kr,kr⟩ fJ) λc=>(ny∘aP) ?_
  have e:x.kind%10=1:=by omega
  intro a Z b
  exact iM rfl Z (.cellS (i:=1) Z b rfl rfl ⟨kr,kr⟩ rfl) (⟨by simp [Sm.ev,Ev.cells,e],b.below⟩)
 refine (JF∘aJ 2∘aK∘Jj) (Je (λk=>?_) λk=>?_)
 ·
  refine (JT∘JR∘Jg 8 O2∘Jw .i64∘Jy (v:=vI (if (1:Int)>(x.ticks:Int) then 1 else (x.ticks:Int))) (h:=by exact Yl.max rfl rfl rfl)∘Jo (vI (max x.ticks 1:Nat)) (by exact zhm _)∘Jp 2∘Jo (vI (x.got%65535:Nat)) (by exact za om om)∘Jf 8∘JW aO Fv) λC=>(Jf 10) λa Z b=>?_
  refine fo Z 9 rfl rfl (eG Z b 0 λD b=>?_)
  refine Jb Z b ((iQ∘Jr∘Jy (v:= .agg #[vI (1+x.seq:Nat),vI x.time,vB (x.cpu%64:Nat),vB (1+(x.kind%10):Nat),vI 0,vI 0,vI 0,vI 0,vI (max x.ticks 1:Nat),vQ 0,vI (x.got%65535:Nat)]) (h:=by exact Pe rfl rfl ⟨kr,kr⟩ rfl (λ_ h=>qj (h.blk (i:=0) rfl)))∘JV ⟨kr,kr⟩ fJ) λc=>(nA∘aP) ?_)
  have e:x.kind%10=4:=by omega
  intro a Z b
  exact iM rfl Z (.cellS (i:=1) Z b rfl rfl ⟨kr,kr⟩ rfl) (⟨by simp [Sm.ev,Ev.cells,e],b.below⟩)
 refine (JF∘aJ 2∘aK∘Jj) (Je (λl=>?_) λl=>?_)
 ·
  refine (JT∘JR∘Jp 2∘Jo (vI (x.got%65535:Nat)) (by exact za om om)∘Jf 10) λa Z b=>?_
  refine fo Z 3 rfl rfl (eG Z b 0 λE b=>?_)
  refine Jb Z b ((nT∘Jr∘Jy (v:= .agg #[vI (1+x.seq:Nat),vI x.time,vB (x.cpu%64:Nat),vB (1+(x.kind%10):Nat),vI 0,vI 0,vI 0,vI 0,vI 0,vQ 0,vI (x.got%65535:Nat)]) (h:=by exact Pe rfl rfl ⟨kr,kr⟩ rfl (λ_ h=>qj (h.blk (i:=0) rfl)))∘JV ⟨kr,kr⟩ fJ) λc=>(ny∘aP) ?_)
  have e:x.kind%10=5:=by omega
  intro a Z b
  exact iM rfl Z (.cellS (i:=1) Z b rfl rfl ⟨kr,kr⟩ rfl) (⟨by simp [Sm.ev,Ev.cells,e],b.below⟩)
 refine (JF∘aJ 2∘aK∘Jj) (Je (λm=>?_) λm=>?_)
 ·
  refine (JT∘JR∘Jp 2∘Jf 4∘JW aO rQ) λF=>(Jf 7∘JW aO uS) λG=>(xE∘Jr∘dZ ⟨kr,kr⟩ O0∘JV ⟨kr,kr⟩ fJ) λc=>(ny∘aP) ?_
  have e:x.kind%10=6:=by omega
  intro a Z b
  exact iM rfl Z (.cellS (i:=1) Z b rfl rfl ⟨kr,kr⟩ rfl) (⟨by simp [Sm.ev,Ev.cells,e],b.below⟩)
 refine (JF∘aJ 2∘aK∘Jj) (Je (λo=>?_) λo=>?_)
 ·
  refine (JT∘JR∘Jg 5 O2∘Jw .i64∘Jp 1∘Jo (vI (x.group%255:Nat)) (by exact ze .i64 _ 255)∘Jp 1∘Jo (vI (1+(x.group%255):Nat)) (by exact za om om)∘Jp 1∘Jf 5∘JW aO sV) λH=>(Jf 7∘JW aO uS) λI=>(iQ∘Jr∘dZ ⟨kr,kr⟩ O0∘JV ⟨kr,kr⟩ fJ) λc=>(nA∘aP) ?_
  have e:x.kind%10=7:=by omega
  intro a Z b
  exact iM rfl Z (.cellS (i:=1) Z b rfl rfl ⟨kr,kr⟩ rfl) (⟨by simp [Sm.ev,Ev.cells,e],b.below⟩)
 refine (JF∘aJ 2∘aK∘Jj) (Je (λp=>?_) λp=>?_)
 ·
  refine (JT∘Vs (.f .n) [14]) λK=>(Vp [0]∘Vf 1 2∘Vf 5 6∘Vc 6 O1∘Vw 7 .i64∘Vp [8]∘Vo (vI (x.to%63:Nat)) (by exact ze .i64 _ 63)) λa Z b d=>?_
  refine s_on Z 2 rfl ?_
  refine Yl.wp (S:=λu=>Mem w u _) (v:=vB (x.cpu%64:Nat)) (Pd rfl rfl kr (λ_ h=>h.cell (i:=0) rfl rfl)) Z b rfl de λa Z=>?_
  refine ay d (λd=>?_)
  refine Vb Z b d ((Vf 11 4∘Vw 3 .i64∘yx 4 1∘Va 9∘Vp [10]∘Vo (vI ((x.cpu%64+1+(x.to%63))%64:Nat)) (by exact ze .i64 _ 64)) λa Z b d=>?_)
  refine s_on Z 12 rfl (eG Z b 0 λq b=>?_)
  refine ay (b.pk [1,2]) (λd=>?_)
  refine Vb Z b d ((Vf 13 6) λa Z b d=>?_)
  refine s_on Z 14 rfl (eG Z b 0 λr b=>?_)
  refine dN kr ?_
  refine qe kr ?_
  refine Jb Z b ((JG∘JP∘Jy (v:= .agg #[vI (1+x.seq:Nat),vI x.time,vB (x.cpu%64:Nat),vB (1+(x.kind%10):Nat),vI (1+(x.task%65535):Nat),vI 0,vI ((x.cpu%64+1+(x.to%63))%64:Nat),vI 0,vI 0,vQ 0,vI 0]) (h:=by exact Pe rfl rfl ⟨kr,kr⟩ rfl (λ_ h=>qj (h.blk (i:=0) rfl)))∘JV ⟨kr,kr⟩ fJ) λc=>(iQ∘aP) ?_)
  have e:x.kind%10=8:=by omega
  intro a Z b
  exact iM rfl Z (.cellS (i:=1) Z b rfl rfl ⟨kr,kr⟩ rfl) (⟨by simp [Sm.ev,Ev.cells,e],b.below⟩)
 refine (JF∘JR∘Jp 1∘Jf 10) λa Z b=>?_
 refine fo Z 2 rfl rfl (eG Z b 0 λL b=>?_)
 refine Jb Z b ((nA∘Jr∘Jy (v:= .agg #[vI (1+x.seq:Nat),vI x.time,vB (x.cpu%64:Nat),vB (1+(x.kind%10):Nat),vI 0,vI 0,vI 0,vI 0,vI 0,vQ 0,vI (1+(x.got%65535):Nat)]) (h:=by exact Pe rfl rfl ⟨kr,kr⟩ rfl (λ_ h=>qj (h.blk (i:=0) rfl)))∘JV ⟨kr,kr⟩ fJ) λc=>(ny∘aP) ?_)
 have P:x.kind%10≠0:=om;have Q:x.kind%10≠1:=om;have R:x.kind%10≠4:=om;have T:x.kind%10≠5:=om;have U:x.kind%10≠6:=om;have V:x.kind%10≠7:=om;have W:x.kind%10≠8:=om;have X:(x.kind%10=2\/x.kind%10=3\/x.kind%10=9):=by omega
 intro a Z b
 exact iM rfl Z (.cellS (i:=1) Z b rfl rfl ⟨kr,kr⟩ rfl) (⟨by simp [Sm.ev,Ev.cells,P,Q,R,T,U,V,W,X],b.below⟩)
section
variable {P:Program} {Q:Exit->Act->World->Prop} {a:Act} {W w w':World} {n d:Nat} {D:List Deferred} {σ:List (Nat×Value)} {o:Oper} {v:Value} {K:Act->World->Prop} {fs:List Fact}
def run_copy_row (w:World) (p q r elem:TypeId) (i:TypeInfo) (b off e h:Nat) (ad:Addr) (c f:Nat) (g:List Value) (s:P.underlying p=some (.slice elem)) (hi:P.info? elem=some i) (t:abn g=afY c e*i.size)
  (k:∀j v,g[j]?=some v->w.cell? (ad.add j)=some v) (hc:w.there b off (abn g)) (h1:∀v∈g,v.oneCell'=true):
  (agv #[p,q] r #[.slice (some ⟨b,off,none⟩) e h,.slice (some ad) c f]).run P w= .ok (goInt (afY c e)) (w.setCells b off g):=by
 have u:=run_firstCells_some (P:=P) w i.size (afY c e) ad c f g t k
 have l:=run_storeCells_cells (P:=P) b off g 0 w (by simpa using λj m=>(hc j m).1) (by simpa using λj m=>(hc j m).2) h1
 simp only [acE] at l
 simp [agv,run_underlying s,afr,sizeOf,typeInfo,hi,u,l]
def Mi (Z:Fr a n D σ) (s:Mem W w fs) {x y:Operand} {t e:TypeId} {z:Value} {size bytes i g off h u sn sc m c:Nat} {ad:Addr} {xs:List Value} (news:List Value) (l:o.op= .call {callee:= .builtin .copy,args:= #[x,y],argTypes:= #[t,t]}) (A:EI P t e z size bytes)
  (E:look σ x=some (.slice (some ⟨g,off,none⟩) h u)) (hy:look σ y=some (.slice (some ad) sn sc)) (hi:fs[i]?=some (.row (.slice (some ⟨g,0,none⟩) m c) m xs e size)) (hk:news.length=Nat.min sn h*size) (b:∀j v,news[j]?=some v->w.cell? (ad.add j)=some v) (h1:∀v∈news,v.oneCell'=true) (B:off+news.length<=xs.length)
  (F:o.dst=some d) (p:d<n) (k:∀C w',Fr C n D ((d,.int .i64 (Nat.min sn h:Nat))::σ)->Mem W w' (fs.set i (.row (.slice (some ⟨g,0,none⟩) m c) m (putAt xs off news) e size))->K C w'):o.wp P a w K Q:=by
 obtain ⟨G,q,hz,r,H⟩:=info_parts A.hi
 have f:=run_copy_row (P:=P) w t t o.type e G g off h u ad sn sc news A.ht q (by rw [r];exact hk) b (Lg s hi off _ B) h1
 unfold acN execOp
 simp only [l,resolve,invoke,builtin,abF,abN,abz,ac2,acu,adw,Z.eval E,Z.eval hy,f,acg,F]
 exact k _ _ (Z.put p _) (s.ou hi B)
def qow (w:World) (t e i:TypeId) (z:Value) (ht:P.underlying t=some (.slice e)) (k:∀w,(zeroValue e).run P w= .ok z w) (b off n c:Nat) (l:0<n) (hc:w.there b off (abW z.cells n).toList.length) (h1:∀v∈(abW z.cells n).toList,v.oneCell'=true):
  (agq #[t] i #[.slice (some ⟨b,off,none⟩) n c]).run P w= .ok (.tuple #[]) (w.setCells b off (abW z.cells n).toList):=by
 have f:=run_storeCells_cells (P:=P) b off (abW z.cells n).toList 0 w (λj g=>by have h:=(hc j g).1;simpa only [acE] using h) (λj g=>by have h:=(hc j g).2;simpa only [acE] using h) h1
 simp only [acE] at f
 obtain ⟨m,rfl⟩:∃m,n=m+1:=⟨n-1,by omega⟩
 simp [agq,run_underlying ht,k,f]
def zht (Z:Fr a n D σ) (q:Mem W w fs) {x:Operand} {t e:TypeId} {z:Value} {size bytes i g off b r m c:Nat} {xs:List Value} (j:o.op= .call {callee:= .builtin .clear,args:= #[x],argTypes:= #[t]}) (l:EI P t e z size bytes)
  (y:look σ x=some (.slice (some ⟨g,off,none⟩) b r)) (hi:fs[i]?=some (.row (.slice (some ⟨g,0,none⟩) m c) m xs e size)) (f:0<b) (h1:∀v∈(Builtin.zeroCells z.cells b).toList,v.oneCell'=true) (s:off+b*size<=xs.length)
  (A:o.dst=none) (k:∀w',Mem W w' (fs.set i (.row (.slice (some ⟨g,0,none⟩) m c) m (putAt xs off (Builtin.zeroCells z.cells b).toList) e size))->K a w'):o.wp P a w K Q:=by
 obtain ⟨E,p,hz,B,C⟩:=info_parts l.hi
 have u:(abW z.cells b).toList.length=b*size:=by rw [acs,size_zeroCells,l.hz]
 have h:=qow (P:=P) w t e o.type z l.ht (λw=>by simp [zeroValue,typeInfo,p,hz]) g off b r f (Lg q hi off _ (by rw [u];exact s)) h1
 unfold acN execOp
 simp only [j,resolve,invoke,builtin,abF,abN,abz,ac2,acu,adw,Z.eval y,h,acg,A]
 exact k _ (q.ou hi (by rw [u];exact s))
def qj0 (w:World) (t tn B e:TypeId) (i:TypeInfo) (z:Value) (k kn:IntKind) (ht:P.underlying t=some (.slice e)) (q:P.underlying tn=some (.int kn)) (hi:P.info? e=some i) (hz:i.zero=some z)
  (b:Addr) (c f:Nat) (g:List Value) (r:abn g=c*i.size) (holds:∀j v,g[j]?=some v->w.cell? (b.add j)=some v) (n:Nat) (F:0<n) (hs:0<i.size) (G:f<c+n) (h63:((c+n:Nat):Int)<=9223372036854775807) (y:afH (c+n) f*i.bytes<=281474976710656) (C:n*i.bytes<=281474976710656):
  (ac7 #[t, tn] B #[.slice (some b) c f, .int k n]).run P w =
   .ok (.slice (some ⟨w.heap.size,0,none⟩) (c+n) (grownCap w (c+n) f e)) (w.drew.alloc (.cells (g.toArray++abW z.cells n++abW z.cells (grownCap w (c+n) f e- (c+n))) e)):=by
 have A:n≠0:=by omega
 have E:IntKind.i64.wrap (n:Int)=n:=by rw [IntKind.wrap_i64];omega
 have s:¬(c+n<=f):=by omega
 have h:¬(9223372036854775807<((c:Int)+(n:Int))):=by omega
 have l:¬(281474976710656<afH (c+n) f*i.bytes):=by omega
 have m:¬(281474976710656<(n:Int)*(i.bytes:Int)):=by
  rw [<-Int.natCast_mul]
  omega
 have p:¬((n:Int)<0):=by omega
 have u:¬(n*i.size=0):=agY A om
 have x:=run_firstCells_some (P:=P) w.drew i.size c b c f g r (by simpa using holds)
 simp [ac7,run_underlying ht,run_underlying q,sizeOf,typeInfo,zeroValue,hi,hz,asInt,asIntOf,E,A,s,p,u,h,l,m,Question.forced,x,newRow,grownCap]
theorem qmn (Z:Fr a n D σ) (G:Mem W w fs) {s x:Operand} {t tn e:TypeId} {z:Value} {size bytes c cap m:Nat} {ad:Addr} {xs:List Value} {kn k:IntKind} (r:o.op= .call {callee:= .builtin .append,args:= #[s,x],argTypes:= #[t,tn]}) (f:EI P t e z size bytes) (u:P.underlying tn=some (.int kn))
  (hs:look σ s=some (.slice (some ad) c cap)) (H:look σ x=some (.int k (m:Int))) (b:xs.length=c*size/\∀j v,xs[j]?=some v->w.cell? (ad.add j)=some v) (hm:0<m) (C:cap<c+m) (hb:(c+m)*bytes<=140737488355328) (h63:c+m<=9223372036854775807)
  (I:o.dst=some d) (y:d<n) (J:∀E w' g A,Fr E n D ((d,.slice (some ⟨g,0,none⟩) (c+m) A)::σ)->Mem W w' (.row (.slice (some ⟨g,0,none⟩) (c+m) A) (c+m) (xs++(Builtin.zeroCells z.cells m).toList) e size::fs)->c+m<=A->K E w'):o.wp P a w K Q:=by
 obtain ⟨i,hi,hz,h,l⟩:=info_parts f.hi
 have L:=qj0 (P:=P) w t tn o.type e i z k kn f.ht u hi hz ad c cap xs (by rw [h];exact b.1) b.2 m hm (by rw [h];exact f.hs) C om (by rw [l];exact growslice_fits C hb) (by rw [l];exact ada (acn _ (Nat.le_add_left _ _)) (ada hb de))
 have F:=grownCap_ge w (c+m) cap e
 have M:=grownCap_le_maxLen w (c+m) cap e (by unfold maxLen;omega)
 have B:(abW z.cells m).size=m*size:=by rw [size_zeroCells,f.hz]
 have p:abn (xs++(abW z.cells m).toList)=(c+m)*size:=by rw [abp,b.1,aef];show c*size+(abW z.cells m).toList.length=_;rw [acs (xs:=abW z.cells m),B]
 have q:(w.drew.alloc (.cells (xs.toArray++abW z.cells m++abW z.cells (grownCap w (c+m) cap e- (c+m))) e)).ownsRow w.heap.size e size (.slice (some ⟨w.heap.size,0,none⟩) (c+m) (grownCap w (c+m) cap e)) (c+m) (xs++(abW z.cells m).toList):=by
  refine ⟨p,.inr ⟨w.heap.size,_,_,rfl,abr _,ad2 w.drew _,F,M,?_,?_⟩⟩
  ·simp only [aeX,ac8,size_zeroCells,f.hz,b.1,<-aef]
   congr 1
   omega
  ·grind
 unfold acN execOp
 simp only [r,resolve,invoke,builtin,abF,abN,abz,ac2,acu,adw,Z.eval hs,Z.eval H,L]
 rw [acg,I]
 exact J _ _ w.heap.size _ (Z.put y _) (G.bX ((adX _ _).drew.alloc (by simp) _) q) F
theorem Mem.oF (h:Mem W w fs) {i g m m' c size:Nat} {e:TypeId} {xs:List Value} (hi:fs[i]?=some (.row (.slice (some ⟨g,0,none⟩) m c) m xs e size)) (h1:m<=m') (r:m'<=c):∃s:List Value,abn s=(m'-m)*size/\Mem W w (fs.set i (.row (.slice (some ⟨g,0,none⟩) m' c) m' (xs++s) e size)):=by
 have t:=h.own hi
 obtain ⟨B,u⟩:=t
 rcases u with ⟨x,_⟩|⟨y,cap,cur,b,j,k,z,l,f,ht⟩
 ·cases x
 ·injection b with b A p
  injection b with b
  injection b with b
  subst b;subst p
  have e1:m'*size=m*size+(m'-m)*size:=by rw [<-aef];congr 1;omega
  have e2:m'*size<=abn cur.toList:=by rw [acs,f];exact acn _ r
  refine ⟨(cur.toList.drop (m*size)).take ((m'-m)*size),by rw [abv,abC];omega,?_⟩
  have e3:xs++(cur.toList.drop (m*size)).take ((m'-m)*size)=cur.toList.take (m'*size):=by rw [<-ht,e1,List.take_add]
  rw [e3]
  refine h.turn hi h.below (λ_ _ _=>rfl) ⟨by rw [abv];omega,.inr ⟨g,c,cur,rfl,j,k,r,l,f,rfl⟩⟩ (λy q=> .inl q)
theorem Mem.Gt (h:Mem W w fs) {i g m m' c size:Nat} {e:TypeId} {xs ys:List Value} (hi:fs[i]?=some (.row (.slice (some ⟨g,0,none⟩) m c) m xs e size)) (h1:m'<=m) (hy:xs.take (m'*size)=ys):Mem W w (fs.set i (.row (.slice (some ⟨g,0,none⟩) m' c) m' ys e size)):=by
 subst hy
 have b:=h.shrink hi h1 (λe=>by cases e)
 exact b
theorem qup (Z:Fr a n D σ) (U:Mem W w fs) {s x:Operand} {t e:TypeId} {z:Value} {size bytes i b m c r g:Nat} {ad:Addr} {xs news:List Value} (L:o.op= .call {callee:= .builtin .append,args:= #[s,x],argTypes:= #[t,t]}) (V:EI P t e z size bytes)
  (hs:look σ s=some (.slice (some ⟨g,0,none⟩) b r)) (Y:look σ x=some (.slice (some ad) m c)) (hi:fs[i]?=some (.row (.slice (some ⟨g,0,none⟩) b r) b xs e size)) (M:news.length=m*size) (f:∀j v,news[j]?=some v->w.cell? (ad.add j)=some v) (p:b+m<=r) (h1:∀u∈news,u.oneCell'=true)
  (hd:o.dst=some d) (N:d<n) (k:∀X w',Fr X n D ((d,.slice (some ⟨g,0,none⟩) (b+m) r)::σ)->Mem W w' (fs.set i (.row (.slice (some ⟨g,0,none⟩) (b+m) r) (b+m) (xs++news) e size))->K X w'):o.wp P a w K Q:=by
 obtain ⟨J,O,hz,l,hby⟩:=info_parts V.hi
 have B:=U.own hi
 obtain ⟨C,h2⟩:=B
 rcases h2 with ⟨h3,_⟩|⟨g',cap,cur,y,hbb,hgg,hnc,hcm,hcs,ht⟩
 ·cases h3
 ·injection y with y hv2 R
  injection y with y
  injection y with y
  subst y;subst R
  have S:abn news=m*J.size:=by rw [l];exact M
  obtain ⟨ys,E,F⟩:=U.oF hi (ad6 b m) p
  have G:abn xs=b*size:=C
  have A:=F.ou (off:=b*size) (vs:=news) (ac9 (abB.1 hi).1) (by rw [abp,E,G,M];rw [ac3];exact abr _)
  have H:=Lg F (ac9 (abB.1 hi).1) (b*size) (abn news) (by rw [abp,E,G,M];rw [ac3];exact abr _)
  have hf:=run_firstCells_some (P:=P) w J.size m ad m c news S f
  have I:=run_storeCells_cells (P:=P) g (b*J.size) news 0 w (λj T=>by rw [l];have h:=(H j T).1;simpa only [acE] using h) (λj T=>by rw [l];have h:=(H j T).2;simpa only [acE] using h) h1
  simp only [acE] at I
  have q:(ac7 #[t,t] o.type #[.slice (some ⟨g,0,none⟩) b r,.slice (some ad) m c]).run P w= .ok (.slice (some ⟨g,0,none⟩) (b+m) r) (w.setCells g (b*J.size) news):=by
   simp [ac7,run_underlying V.ht,sizeOf,typeInfo,O,afr,p,hf,acC,I]
  rw [List.set_set] at A
  have e2:putAt (xs++ys) (b*size) news=xs++news:=by
   unfold putAt
   simp_all
  rw [e2] at A
  rw [l] at q
  unfold acN execOp
  simp only [L,resolve,invoke,builtin,abF,abN,abz,ac2,acu,adw,Z.eval hs,Z.eval Y,q,acg,hd]
  exact k _ _ (Z.put N _) A
theorem zbs (Z:Fr a n D σ) (j:Mem W w fs) {f:FuncId} {xs:Array Operand} {ts:Array TypeId} {vs:List Value} (c:o.op= .call {callee:= .value (.func f),args:=xs,argTypes:=ts}) (h:looks σ xs.toList=some vs) (b:(callFunc f vs.toArray).run P w= .ok (.value v) w) (i:o.dst=some d) (e:d<n)
  (k:∀g,Fr g n D ((d,v)::σ)->K g w):o.wp P a w K Q:=by
 have e1:xs.map a.eval=vs.toArray:=by
  have:=zR Z h
  grind
 unfold acN execOp
 simp only [c,resolve,ag4,adC,invoke,abF,abN,abz]
 have e3: #[]++adu a.eval xs++ #[]=vs.toArray:=by simp [e1]
 show afD P o a K Q (((callFunc f (#[]++adu a.eval xs++ #[])).run P w))
 rw [e3,b,acg,i]
 exact k _ (Z.put e _)
def qrt (q:Mem W w fs) {i j f g off L M m c:Nat} {C:Array Value} {xs:List Value} {t e r u:TypeId} {size:Nat} {z:Value} {bytes:Nat} (s:EI P t e z size bytes) (N:fs[i]?=some (.blk f C u)) (hi:fs[j]?=some (.row (.slice (some ⟨g,0,none⟩) m c) m xs e size)) (x:i≠j) (hm:0<c) (ln lc:Nat):
  (adU #[t,t] #[r] #[.slice (some ⟨f,0,none⟩) ln lc,.slice (some ⟨g,off,none⟩) L M]).run P w= .ok (.bool false) w:=by
 obtain ⟨Z,y,hz,A,R⟩:=info_parts s.hi
 have B:=q.blk N
 obtain ⟨hl,S⟩:=q.own hi
 rcases S with ⟨T,_⟩|⟨g',cap,cur,E,U,F,V,X,G,ht⟩
 ·cases T
 ·injection E with b Y H
  injection b with b
  injection b with b
  subst b;subst H
  have I:f≠g:=by
   intro e
   subst e
   obtain ⟨h,k⟩:=abB.1 N
   obtain ⟨l,p⟩:=abB.1 hi
   rcases Nat.lt_or_gt_of_ne x with J|J
   ·have:=acv.1 q.apart i j h l J
    rw [k,p] at this
    exact this f rfl rfl
   ·have:=acv.1 q.apart j i l h J
    rw [k,p] at this
    exact this f rfl rfl
  have O:=s.hs
  exact Lib.run_overlaps_apart w t r e s.ht size (λw=>by simp [sizeOf,typeInfo,y,A]) ⟨f,0,none⟩ ⟨g,off,none⟩ ln lc L M I u e C.size cur.size (by simp [afG,B]) (by simp [afG,F]) (by rw [G];exact agY om om) (by simp [afs,B]) (by simp [afs,B])
end
def Mj {a b c:List Value}:putAt (a++b) (abn a) c=a++c++b.drop (abn c):=by
 unfold putAt
 rw [adJ,<-acQ,afj]
def q0k {a b c:List Value} {k:Nat}:putAt (a++b) (abn a+k) c=a++putAt b k c:=by
 unfold putAt
 rw [ae9,abI (ad6 _ _),ac3,show abn a+k+abn c=abn a+(k+abn c) by omega,afa,ab9 (ad6 _ _),adg,ac3]
 simp only [abu]
def fC (x:Gr):List Value:=[.int .i64 x.parent,.int .i64 x.weight]
def bS (x:Tk):List Value:=[.int .i64 x.id,.int .i64 x.group,.int .i64 x.weight,.int .i64 x.cpu,.int .u64 (x.mask:Int),.bool x.ready,.int .u64 (x.v:Int),.int .u32 (x.r:Int)]
def jk (x:Sp):List Value:=[.int .u64 (x.v:Int),.int .u32 (x.r:Int),.int .u64 (x.floor:Int)]
def Gr.cells (x:Gr):Array Value:= #[.int .i64 x.parent,.int .i64 x.weight]
def Tk.cells (x:Tk):Array Value:= #[.int .i64 x.id,.int .i64 x.group,.int .i64 x.weight,.int .i64 x.cpu,.int .u64 (x.mask:Int),.bool x.ready,.int .u64 (x.v:Int),.int .u32 (x.r:Int)]
def Sp.cells (x:Sp):Array Value:= #[.int .u64 (x.v:Int),.int .u32 (x.r:Int),.int .u64 (x.floor:Int)]
def qK (x:Gr):abn (fC x)=2:=rfl
def ql (x:Tk):abn (bS x)=8:=rfl
def Ck (x:Sp):abn (jk x)=3:=rfl
def Y6 (x:Gr):∀v∈x.cells.toList,v.oneCell'=true:=by simp [Gr.cells,abR]
def Gu (x:Tk):∀v∈x.cells.toList,v.oneCell'=true:=by simp [Tk.cells,abR]
def Y7 (x:Sp):∀v∈x.cells.toList,v.oneCell'=true:=by simp [Sp.cells,abR]
structure Rw where
 A:Option Addr
 c:Nat
 l:List Sp
def Rw.zero:Rw:=⟨none,0,[]⟩
def aac (x:Rw):Value:= .slice x.A (abn x.l) x.c
def Rw.own (x:Rw):Own:=⟨x.A,abn x.l,x.c,x.l.flatMap jk⟩
structure aF where
 au:Int
 aj:Nat
 gA:Option Addr
 gc:Nat
 gs:List Gr
 lA:Option Addr
 lc:Nat
 cl:List Int
 uA:Option Addr
 uc:Nat
 cu:List Int
 tA:Option Addr
 tc:Nat
 ts:List Tk
 sA:Option Addr
 sc:Nat
 rs:List Rw
def aF.av (x:aF):bE:=⟨x.au,x.aj,x.gs,x.cl,x.cu,x.ts,x.rs.map Rw.l⟩
def aF.cells (x:aF):Array Value:= #[.int .i64 x.au,.int .u64 (x.aj:Int),.slice x.gA (abn x.gs) x.gc,.slice x.lA (abn x.cl) x.lc,.slice x.uA (abn x.cu) x.uc,.slice x.tA (abn x.ts) x.tc,.slice x.sA (abn x.rs) x.sc]
def Y8 (x:aF):∀v∈x.cells.toList,v.oneCell'=true:=by simp [aF.cells,abR]
structure eU (w:World) (x:aF):Prop where
 g:Rd w w.heap.size 2 x.gA (abn x.gs) (x.gs.flatMap fC)
 l:Rd w w.heap.size 1 x.lA (abn x.cl) (x.cl.map aX)
 u:Rd w w.heap.size 1 x.uA (abn x.cu) (x.cu.map aX)
 t:Rd w w.heap.size 8 x.tA (abn x.ts) (x.ts.flatMap bS)
 s:Rd w w.heap.size 1 x.sA (abn x.rs) (x.rs.map aac)
 r:∀y∈x.rs,Rd w w.heap.size 3 y.A (abn y.l) (y.l.flatMap jk)
structure fD (x:aF):Prop where
 g:abn x.gs<=x.gc
 l:abn x.cl<=x.lc
 u:abn x.cu<=x.uc
 t:abn x.ts<=x.tc
 s:abn x.rs<=x.sc
 r:∀y∈x.rs,abn y.l<=y.c
structure bY (x:aF):Prop where
 g:abn x.gs<=1000000
 l:abn x.cl<=1000000
 u:abn x.cu<=1000000
 t:abn x.ts<=1000000
 s:abn x.rs<=1000000
 r:∀y∈x.rs,abn y.l<=1000000
theorem eU.old {x:aF} (h:eU W x) (a:Mem W w fs):eU w x:=⟨a.old h.g,a.old h.l,a.old h.u,a.old h.t,a.old h.s,λy b=>a.old (h.r y b)⟩
theorem jW {x:aF} (h:g<abn x.rs):x.av.sp.getD g []=(x.rs.getD g Rw.zero).l:=by
 show (x.rs.map Rw.l).getD g []=_
 rw [abt,abt,ac0,abq h]
 rfl
theorem eU.row {x:aF} (h:eU w x) {g:Nat} (a:g<abn x.rs):Rd w w.heap.size 3 (x.rs.getD g Rw.zero).A (x.rs.getD g Rw.zero).l.length ((x.rs.getD g Rw.zero).l.flatMap jk):=h.r _ (qf Rw.zero a)
def lU:SI abo 198 2:=⟨by kernel_rfl,by kernel_rfl⟩
def fE:SI abo 232 8:=⟨by kernel_rfl,by kernel_rfl⟩
def nX:SI abo 200 3:=⟨by kernel_rfl,by kernel_rfl⟩
def yJ:SI abo 44 3:=⟨by kernel_rfl,by kernel_rfl⟩
def gG:SI abo 48 7:=⟨by kernel_rfl,by kernel_rfl⟩
def qp:SI abo 333 3:=⟨by kernel_rfl,by kernel_rfl⟩
def zx:SI abo 50 8:=⟨by kernel_rfl,by kernel_rfl⟩
def jh:EI abo 42 198 (.agg Gr.zero.cells) 2 16:=⟨by kernel_rfl,by kernel_rfl,rfl,by omega⟩
def dA:EI abo 45 232 (.agg Tk.zero.cells) 8 64:=⟨by kernel_rfl,by kernel_rfl,rfl,by omega⟩
def lV:EI abo 176 200 (.agg Sp.zero.cells) 3 24:=⟨by kernel_rfl,by kernel_rfl,rfl,by omega⟩
def nY:EI abo 46 176 (.slice none 0 0) 1 24:=⟨by kernel_rfl,by kernel_rfl,rfl,by omega⟩
section
variable {w w':World} {p q:Prop} [Decidable p] [Decidable q]
def Cm (h:q↔p) (hb:Below w.heap.size w w'):Is w (.bool (decide p)) (.returned (.bool (decide q))) w':=⟨by rw [decide_eq_decide.2 h],hb⟩
def zlv (h:p) (hb:Below w.heap.size w w'):Is w (.bool (decide p)) (.returned (.bool true)) w':=⟨by rw [decide_eq_true h],hb⟩
def lW (h:¬p) (hb:Below w.heap.size w w'):Is w (.bool (decide p)) (.returned (.bool false)) w':=⟨by rw [decide_eq_false h],hb⟩
def cB {a b:Bool} (h:a=b) (hb:Below w.heap.size w w'):Is w (.bool b) (.returned (.bool a)) w':=h▸ ⟨rfl,hb⟩
end
def Qs {l:List Gr} (h:¬(1<=abn l/\abn l<=256/\l.getD 0 Gr.zero=⟨0,1⟩)):dF l=false:=by unfold dF;rw [decide_eq_false h,ads]
def Mr {l:List Gr} (a:g<abn l) (h:pO l g=false):dF l=false:=by unfold dF;rw [Ak a h,adt]
def zbt {l:List Gr} (h:1<=abn l/\abn l<=256/\l.getD 0 Gr.zero=⟨0,1⟩) (a:fQ (abn l) (pO l)):dF l=true:=by unfold dF;rw [decide_eq_true h,a.all];rfl
def zbu (l:List Gr):pO l 0=true:=rfl
theorem Ms {l:List Gr} (a:0<g) (h:¬(0<=(l.getD g Gr.zero).parent/\(l.getD g Gr.zero).parent<g/\(1<=(l.getD g Gr.zero).weight/\(l.getD g Gr.zero).weight<=65536)/\iV l g<=4)):pO l g=false:=by grind [pO,l9]
theorem zhu {l:List Gr} (h:0<=(l.getD g Gr.zero).parent/\(l.getD g Gr.zero).parent<g/\(1<=(l.getD g Gr.zero).weight/\(l.getD g Gr.zero).weight<=65536)/\iV l g<=4):pO l g=true:=by grind [pO,l9]
def q5h {l:List Gr} (b:fQ g (pO l)) (h:0<=(l.getD g Gr.zero).parent/\(l.getD g Gr.zero).parent<g):∀i,0<i->i<=g->d9 l i:=λi c hi=>by
 rcases ab5 i g with a|a
 ·exact Mk (b i a) c
 ·obtain rfl:i=g:=by omega
  exact h
def yK {l:List Gr} (h:dF l=true) {g:Nat} (b:g<abn l):∀i,0<i->i<=g->d9 l i:=λi a hi=>Mk ((qw h).2.2.2 i om) a
def zbv (x y:Gr):pF abo 4 198 (.agg x.cells) (.agg y.cells)=some (decide (x=y)):=by
 have h:pF abo 4 198 (.agg x.cells) (.agg y.cells)=some ((x.parent==y.parent)&& ((x.weight==y.weight)&&true)):=by kernel_rfl
 refine h.trans (congrArg some ?_)
 obtain ⟨a,b⟩:=x
 obtain ⟨c,d⟩:=y
 rw [abY]
 simp only [abG,beq_iff_eq,decide_eq_true_eq,Gr.mk.injEq,and_true]
def zhv {m n:Nat} (h:1<=n):(((m/2^ (n-1)/2:Nat):Int) !=(0:Int))=decide (2^n<=m):=by
 have e:m/2^ (n-1)/2=m/2^n:=by rw [Nat.div_div_eq_div_mul,<-Nat.pow_succ,show (n-1).succ=n by omega]
 rw [e,abY,bne_iff_ne,decide_eq_true_eq]
 have a:= @Nat.div_pos_iff m (2^n)
 have c:0<2^n:=agS n
 generalize m/2^n=q at*
 constructor
 ·intro b
  exact (a.1 om).2
 ·intro b
  have:=a.2 ⟨c,b⟩
  omega
section
variable {x:aF} {t:Tk}
def D7 (h:¬(1<=t.id/\t.id<=65535/\0<=t.group/\t.group<abn x.rs/\0<=t.cpu/\t.cpu<x.au)):dX x.av t=false:=by
 unfold dX
 rw [decide_eq_false (by rwa [show abn x.av.sp=abn x.rs from abx ..]),ads]
theorem zlw (h:¬(1<=t.weight/\t.weight<=65536)):dX x.av t=false:=by grind [dX,l9]
def zlx (h:2^x.au.toNat<=t.mask):dX x.av t=false:=by
 unfold dX xL
 rw [show decide (2^x.av.au.toNat<=t.mask)=true from decide_eq_true h]
 simp
def zly (h:¬t.mask/2^t.cpu.toNat%2=1):dX x.av t=false:=by unfold dX;rw [decide_eq_false h];simp
def zlz (h:1<=t.id/\t.id<=65535/\0<=t.group/\t.group<abn x.rs/\0<=t.cpu/\t.cpu<x.au) (a:1<=t.weight/\t.weight<=65536) (b:¬2^x.au.toNat<=t.mask) (c:t.mask/2^t.cpu.toNat%2=1):dX x.av t=bV t.v t.r t.weight:=by
 unfold dX l9 xL
 rw [decide_eq_true (by rwa [show abn x.av.sp=abn x.rs from abx ..]),decide_eq_true a,show decide (2^x.av.au.toNat<=t.mask)=false from decide_eq_false b,decide_eq_true c]
 simp
def Qt (h:¬(1<=x.au/\x.au<=64/\x.aj<=1099511627776)):fU x.av=false:=by unfold fU;rw [show decide (1<=x.av.au/\x.av.au<=64/\x.av.aj<=1099511627776)=false from decide_eq_false h];rfl
def zhw (h:1<=x.au/\x.au<=64/\x.aj<=1099511627776):fU x.av=dF x.gs:=by unfold fU;rw [show decide (1<=x.av.au/\x.av.au<=64/\x.av.aj<=1099511627776)=true from decide_eq_true h];rfl
def mI (h:fU x.av=true):1<=x.au/\x.au<=64/\x.aj<=1099511627776/\dF x.gs=true:=by
 unfold fU at h
 rw [abG,decide_eq_true_eq] at h
 exact ⟨h.1.1,h.1.2.1,h.1.2.2,h.2⟩
end
def vF (w:World) (n:Nat) (p:Nat->Bool) (r:Ending) (w':World):Prop:=(∃i:Int,r= .returned (.int .i64 i)/\decide (i>=0)= !iw n p)/\Below w.heap.size w w'
def q0l {k:Nat} {p:Nat->Bool} (hk:k<n) (h:p k=false) (hb:Below w.heap.size w w'):vF w n p (.returned (.int .i64 (k:Int))) w':=⟨⟨k,rfl,by rw [Ak hk h,decide_eq_true om];rfl⟩,hb⟩
def q0m {p:Nat->Bool} (a:fQ n p) (hb:Below w.heap.size w w'):vF w n p (.returned (.int .i64 (-1))) w':=⟨⟨-1,rfl,by rw [a.all];rfl⟩,hb⟩
def Qu (w:World) (l:List Gr) (r:Ending) (w':World):Prop:=(∃i e:Int,r= .returned (.tuple #[.int .i64 i,.int .i64 e])/\((e==0)=dF l))/\Below w.heap.size w w'
def Cn {l:List Gr} {i e:Int} (h:dF l=false) (a:e≠0) (hb:Below w.heap.size w w'):Qu w l (.returned (.tuple #[.int .i64 i,.int .i64 e])) w':=⟨⟨i,e,rfl,by rw [h];exact beq_false_of_ne a⟩,hb⟩
def quq {l:List Gr} {i:Int} (h:dF l=true) (hb:Below w.heap.size w w'):Qu w l (.returned (.tuple #[.int .i64 i,.int .i64 0])) w':=⟨⟨i,0,rfl,by rw [h];rfl⟩,hb⟩
section
variable {x:aF} {g c i:Nat}
theorem lG:abn x.av.sp=abn x.rs:=abx ..
theorem Qv:Ml x.av=decide ((abn x.cl:Int)=x.au/\(abn x.cu:Int)=x.au/\abn x.rs=abn x.gs):=by unfold Ml;rw [lG];rfl
def zl0 (h:fU x.av=false):nI x.av=false:=by unfold nI;rw [h];rfl
theorem Qw (h:¬((abn x.cl:Int)=x.au/\(abn x.cu:Int)=x.au/\abn x.rs=abn x.gs)):nI x.av=false:=by grind [Qv,nI]
def Gv (h:iw (abn x.cl) (λc=>iG (x.cl.getD c 0))=false):nI x.av=false:=by unfold nI;rw [show iw (abn x.av.cl) (λc=>iG (x.av.cl.getD c 0))=false from h];simp
theorem Zb (a:g<abn x.rs) (h:rowOk x.av g=false):nI x.av=false:=by grind [Ak,nI,lG]
def Gw (hi:i<abn x.ts) (h:jg x.av i=false):nI x.av=false:=by unfold nI;rw [Ak (n:=abn x.av.ts) hi h];simp
def zl1 (h1:fU x.av=true) (a:(abn x.cl:Int)=x.au/\(abn x.cu:Int)=x.au/\abn x.rs=abn x.gs) (b:iw (abn x.cl) (λc=>iG (x.cl.getD c 0))=true) (d:fQ (abn x.rs) (rowOk x.av)) (e:fQ (abn x.ts) (jg x.av)):nI x.av=true:=by
 unfold nI
 rw [h1,Qv,decide_eq_true a,show iw (abn x.av.cl) (λc=>iG (x.av.cl.getD c 0))=true from b,lG,d.all,show iw (abn x.av.ts) (jg x.av)=true from e.all]
 rfl
structure ShAt (x:aF):Prop where
 cfg:fU x.av=true
 cl:(abn x.cl:Int)=x.au
 cu:(abn x.cu:Int)=x.au
 rs:abn x.rs=abn x.gs
 cls:∀c,c<abn x.cl->iG (x.cl.getD c 0)=true
 row:∀g,g<abn x.rs->rowOk x.av g=true
 tk:∀i,i<abn x.ts->jg x.av i=true
def vG (h:nI x.av=true):ShAt x:=by
 unfold nI at h
 simp only [abG] at h
 obtain ⟨⟨d,a⟩,e,b,f⟩:=h
 rw [Qv,decide_eq_true_eq] at a
 rw [lG] at b
 exact ⟨d,a.1,a.2.1,a.2.2,λc hc=>xK e hc,λg j=>xK b j,λi hi=>xK f hi⟩
theorem Mt (a:g<abn x.rs):rowOk x.av g=(decide (((x.rs.getD g Rw.zero).l.length:Int)=x.au)&&iw (x.rs.getD g Rw.zero).l.length λc=>eu x.av g ((x.rs.getD g Rw.zero).l.getD c Sp.zero)):=by
 unfold rowOk bE.spot
 rw [jW a]
 rfl
def zhx (a:g<abn x.rs) (h:((x.rs.getD g Rw.zero).l.length:Int)≠x.au):rowOk x.av g=false:=by rw [Mt a,decide_eq_false h];rfl
def zhy (a:g<abn x.rs) (hc:c<(x.rs.getD g Rw.zero).l.length) (h:eu x.av g ((x.rs.getD g Rw.zero).l.getD c Sp.zero)=false):rowOk x.av g=false:=by rw [Mt a,Ak hc h,adt]
def Zc (a:g<abn x.rs) (h:((x.rs.getD g Rw.zero).l.length:Int)=x.au) (b:fQ (x.rs.getD g Rw.zero).l.length (λc=>eu x.av g ((x.rs.getD g Rw.zero).l.getD c Sp.zero))):rowOk x.av g=true:=by rw [Mt a,decide_eq_true h,b.all];rfl
theorem Co (a:g<abn x.rs) (h:rowOk x.av g=true):((x.rs.getD g Rw.zero).l.length:Int)=x.au/\∀c,c<(x.rs.getD g Rw.zero).l.length->eu x.av g ((x.rs.getD g Rw.zero).l.getD c Sp.zero)=true:=by grind [xK,Mt]
variable {z:Sp}
def zl2 (h:bV z.v z.r (x.gs.getD g Gr.zero).weight=false):eu x.av g z=false:=by unfold eu;rw [show bV z.v z.r (x.av.gs.getD g Gr.zero).weight=false from h];rfl
def zl3 (a:g=0) (h:¬(z.v=0/\z.r=0)):eu x.av g z=false:=by unfold eu;rw [decide_eq_false h,a];simp
def zhz (h:bV z.v z.r (x.gs.getD g Gr.zero).weight=true) (a:g≠0):eu x.av g z=true:=by unfold eu;rw [show bV z.v z.r (x.av.gs.getD g Gr.zero).weight=true from h];simp [a]
def zh0 (h:bV z.v z.r (x.gs.getD g Gr.zero).weight=true) (a:g=0) (b:z.v=0):((z.r:Int) !=(0:Int))= !eu x.av g z:=by
 unfold eu
 rw [show bV z.v z.r (x.av.gs.getD g Gr.zero).weight=true from h,a,b]
 rw [abY,bne_iff_ne]
 simp
def Zd (a:i=0\/(x.ts.getD (i-1) Tk.zero).id<(x.ts.getD i Tk.zero).id):jg x.av i=dX x.av (x.ts.getD i Tk.zero):=by
 unfold jg
 rw [show (i==0||decide ((x.av.ts.getD (i-1) Tk.zero).id<(x.av.ts.getD i Tk.zero).id))=true from by rw [adM,beq_iff_eq,decide_eq_true_eq];exact a]
 rfl
def zbw (a:0<i) (h:¬(x.ts.getD (i-1) Tk.zero).id<(x.ts.getD i Tk.zero).id):jg x.av i=false:=by
 unfold jg
 rw [show decide ((x.av.ts.getD (i-1) Tk.zero).id<(x.av.ts.getD i Tk.zero).id)=false from decide_eq_false h,show (i==0)=false from by rw [beq_eq_false_iff_ne];omega]
 rfl
def D8 (h:jg x.av i=true):(i=0\/(x.ts.getD (i-1) Tk.zero).id<(x.ts.getD i Tk.zero).id)/\dX x.av (x.ts.getD i Tk.zero)=true:=by
 unfold jg at h
 rw [abG,adM,beq_iff_eq,decide_eq_true_eq] at h
 exact h
end
theorem pQ {l:List Gr} (h:dF l=true) {g:Nat} (a:g<abn l):1<=(l.getD g Gr.zero).weight/\(l.getD g Gr.zero).weight<=65536:=by grind [pO,qw,l9]
def jP (a b:Int):Int:=if a<b then -1 else if b<a then 1 else 0
theorem Zh {a b:Int}:decide (jP a b<0)=decide (a<b):=by grind [jP]
theorem Zi {a b:Int}:(jP a b==0)=decide (a=b):=by grind [jP]
def zh1 {a b:Int}:(jP a b !=0)=decide (a≠b):=by
 rw [bne,Zi,decide_not]
def eY (l:List Tk):Prop:=∀i j,i<j->j<abn l->(l.getD i Tk.zero).id<(l.getD j Tk.zero).id
theorem Zj {x:aF} (h:ShAt x):eY x.ts:=by
 have step:∀i,i+1<abn x.ts->(x.ts.getD i Tk.zero).id<(x.ts.getD (i+1) Tk.zero).id:=λi hi=>by
  have:=(D8 (h.tk (i+1) hi)).1
  grind
 intro i j a
 induction j with
 |zero=>omega
 |succ j b=>
  grind
theorem Qx {l:List Tk} {id:Int} (hi:i<abn l) (h:(l.getD i Tk.zero).id=id) (b:∀k,k<i->(l.getD k Tk.zero).id≠id):gF l id=some i:=by
 unfold gF
 rw [aeZ]
 have e:∀k (a:k<abn l),l.getD k Tk.zero=l[k]:=λk a=>by rw [abt,abq a];rfl
 grind
theorem Zk {l:List Tk} {id:Int} (a:∀k,k<abn l->(l.getD k Tk.zero).id≠id):gF l id=none:=by grind [gF,List.findIdx?_eq_none_iff,abq,aco]
theorem Qy {l:List Tk} {id:Int} (h:gF l id=some i):i<abn l/\(l.getD i Tk.zero).id=id:=by grind [gF,aeZ,abq]
def fidx (l:List Tk) (id:Int):Int:=match gF l id with
 |some i=>(i:Int)
 |none=> -1
def Mw (w:World) (l:List Tk) (id:Int) (r:Ending) (a:World):Prop:=(∃(i:Nat) (b:Bool),r= .returned (.tuple #[.int .i64 (i:Int),.bool b])/\i<=abn l/\(if b=true then (i:Int) else -1)=fidx l id)/\Below w.heap.size w a
def q5p {l:List Tk} {id:Int} (hs:eY l) (hi:i<abn l) (h1:∀k,k<i->(l.getD k Tk.zero).id<id) (e:∀k,i<=k->k<abn l->id<=(l.getD k Tk.zero).id) (hb:Below w.heap.size w W):Mw w l id (.returned (.tuple #[.int .i64 (i:Int),.bool (decide ((l.getD i Tk.zero).id=id))])) W:=by
 refine ⟨⟨i,_,rfl,by omega,?_⟩,hb⟩
 unfold fidx
 by_cases h:(l.getD i Tk.zero).id=id
 ·rw [decide_eq_true h,if_pos rfl,Qx hi h (λk a=>by have:=h1 k a;omega)]
 ·rw [decide_eq_false h,if_neg de,Zk (λk a=>?_)]
  rcases ab5 k i with b|b
  ·have:=h1 k b;omega
  ·have f:=e i (abr _) hi
   rcases ab5 i k with d|d
   ·have:=hs i k d a;omega
   ·obtain rfl:k=i:=by omega
    exact h
theorem search_end {l:List Tk} {id:Int} (h1:∀k,k<abn l->(l.getD k Tk.zero).id<id) (hb:Below w.heap.size w W):Mw w l id (.returned (.tuple #[.int .i64 (abn l:Int),.bool false])) W:=by
 refine ⟨⟨_,_,rfl,abr _,?_⟩,hb⟩
 grind [fidx,Zk]
def Zl {x:aF} (a:x.cu.getD c 0≠0) {i:Nat} (hi:gF x.ts (x.cu.getD c 0)=some i):eB x.av c=((x.ts.getD i Tk.zero).ready&&decide ((x.ts.getD i Tk.zero).cpu=c)):=by
 unfold eB
 rw [show gF x.av.ts (x.av.cu.getD c 0)=some i from hi,show decide (x.av.cu.getD c 0=0)=false from decide_eq_false a]
 rfl
def Zm {x:aF} (a:x.cu.getD c 0≠0) (hi:gF x.ts (x.cu.getD c 0)=none):eB x.av c=false:=by
 unfold eB
 rw [show gF x.av.ts (x.av.cu.getD c 0)=none from hi,show decide (x.av.cu.getD c 0=0)=false from decide_eq_false a]
 rfl
def q0n {x:aF} (a:x.cu.getD c 0=0):eB x.av c=true:=by
 unfold eB
 rw [show decide (x.av.cu.getD c 0=0)=true from decide_eq_true a]
 rfl
theorem Qz (l:List Tk) (id:Int):(fidx l id= -1/\gF l id=none)\/∃i:Nat,fidx l id=i/\gF l id=some i/\i<abn l/\(l.getD i Tk.zero).id=id:=by grind [fidx,gF,Qy]
def Mb.nums (m:Mb):List Nat:=[m.v,m.k,m.id]
def Mb.cells (m:Mb):Array Value:= #[.int .u64 (m.v:Int),.int .u64 (m.k:Int),.int .u64 (m.id:Int)]
def Cq (x:Mb):∀v∈x.cells.toList,v.oneCell'=true:=by simp [Mb.cells,abR]
theorem zbx {b:Mb} {k:Nat} (hk:k<3) (d:∀i,i<k->a.nums.getD i 0=b.nums.getD i 0) (e:a.nums.getD k 0≠b.nums.getD k 0):decide (jP (a.nums.getD k 0:Int) (b.nums.getD k 0:Int)<0)=a.lt b:=by
 rw [Zh]
 obtain ⟨f,j,l⟩:=a
 obtain ⟨n,o,p⟩:=b
 unfold Mb.lt
 rw [decide_eq_decide]
 dsimp only
 rcases k with _|_|_|k
 ·simp [Mb.nums] at e⊢;omega
 ·grind [Mb.nums]
 ·have q:=d 0 om
  grind [Mb.nums]
 ·omega
theorem zby {b:Mb} (d:∀i,i<3->a.nums.getD i 0=b.nums.getD i 0):a.lt b=false:=by
 obtain ⟨e,f,j⟩:=a
 obtain ⟨k,l,n⟩:=b
 have o:=d 0 om
 have p:=d 1 om
 have q:=d 2 om
 grind [Mb.lt,Mb.nums]
def vH (w:World) (a b:Mb) (r:Ending) (d:World):Prop:=(∃c:Int,r= .returned (.int .i64 c)/\decide (c<0)=a.lt b)/\Below w.heap.size w d
def q0o (b:Mb) (l:List Mb) (m:Mb):aM b (l++[m])=if m.lt (aM b l) then m else aM b l:=by unfold aM;rw [agj];rfl
def QA {α β:Type} {f:α->Option β} {l:List α} {k:Nat} (d:α) (hk:k<abn l):(l.take (k+1)).filterMap f=(l.take k).filterMap f++(f (l.getD k d)).toList:=by
 rw [takeSnoc' d hk,List.filterMap_append]
 congr 1
where
 takeSnoc' {α:Type} {l:List α} {k:Nat} (d:α) (hk:k<abn l):l.take (k+1)=l.take k++[l.getD k d]:=by
  rw [ado,abq hk,abt,abq hk]
  rfl
def zbz {b:Mb} {k:Nat} (hk:k<3) (d:∀i,i<k->a.nums.getD i 0=b.nums.getD i 0) (e:a.nums.getD k 0≠b.nums.getD k 0) (hb:Below w.heap.size w W):vH w a b (.returned (.int .i64 (jP (a.nums.getD k 0:Int) (b.nums.getD k 0:Int)))) W:=⟨⟨_,rfl,zbx hk d e⟩,hb⟩
def zb0 {b:Mb} (d:∀i,i<3->a.nums.getD i 0=b.nums.getD i 0) (hb:Below w.heap.size w W):vH w a b (.returned (.int .i64 0)) W:=⟨⟨_,rfl,by rw [zby d];rfl⟩,hb⟩
theorem qut {h:Nat} (h1:g+1<=h) (a:h<n):((acp n).drop (g+1)).getD (h- (g+1)) 0=h/\h- (g+1)<abn ((acp n).drop (g+1)):=by grind
theorem zb1 {β:Type} {f:Nat->Option β} {h:Nat} (h1:g+1<=h) (a:h<n):(((acp n).drop (g+1)).take (h+1- (g+1))).filterMap f=(((acp n).drop (g+1)).take (h- (g+1))).filterMap f++(f h).toList:=by
 obtain ⟨e,b⟩:=qut h1 a
 have:=QA (f:=f) 0 b
 grind
def zh2 {β:Type} {f:Nat->Option β} {n g:Nat}:(((acp n).drop (g+1)).take (n- (g+1))).filterMap f=((acp n).drop (g+1)).filterMap f:=by rw [abI (by simp)]
section
variable {x:aF} {g c h:Nat} {m:Nat->List Mb}
def q5q (a:(x.gs.getD h Gr.zero).parent≠g):lD x.av c m g h=none:=if_neg (λb=>a b.1)
def q5r (hm:m h=[]):lD x.av c m g h=none:=if_neg (λa=>a.2 hm)
def zb2 (hr:h<abn x.rs) (a:(x.gs.getD h Gr.zero).parent=g) (hm:m h≠[]):lD x.av c m g h=some ⟨((x.rs.getD h Rw.zero).l.getD c Sp.zero).v,1,h⟩:=by
 unfold lD
 rw [if_pos ⟨a,hm⟩]
 unfold bE.spot
 rw [jW hr]
def Gz (a:nI x.av=false):lT x.av=false:=by unfold lT;rw [a];rfl
def GA (hc:c<abn x.cu) (h:eB x.av c=false):lT x.av=false:=by unfold lT;rw [Ak (n:=abn x.av.cu) hc (by rw [h];rfl),adt]
def GD (hc:c<abn x.cu) (a:g<abn x.rs) (h:kK x.av g c=false):lT x.av=false:=by
 unfold lT
 rw [Ak (n:=abn x.av.cu) hc (by rw [Ak (n:=abn x.av.sp) (p:=λg=>kK x.av g c) (i:=g) (by rwa [lG]) h,adt]),adt]
def GH (a:nI x.av=true) (b:fQ (abn x.cu) λc=>eB x.av c&&iw (abn x.rs) λg=>kK x.av g c):lT x.av=true:=by
 unfold lT
 rw [a,lG,show iw (abn x.av.cu) _=true from b.all]
 rfl
def zh3 (h:aR x.av g c=[]):kK x.av g c=true:=decide_eq_true (.inl h)
theorem zl4 (h:aR x.av g c≠[]):kK x.av g c=decide ((aM bJ (aR x.av g c)).v<=(x.av.spot g c).floor):=by grind [kK]
theorem QB (hr:g<abn x.rs):x.av.spot g c=(x.rs.getD g Rw.zero).l.getD c Sp.zero:=by unfold bE.spot;rw [jW hr]
end
section
variable {P:Program} {S:World->Prop} {σ:List (Nat×Value)} {o:Oper}
end
section
variable {P:Program} {Q:Exit->Act->World->Prop} {W:World} {a:Act} {w:World} {n d:Nat} {D:List Deferred} {σ:List (Nat×Value)} {fs:List Fact} {o:Oper} {K:Act->World->Prop}
end
def zh5 {l:List Gr} (h:∀i,0<i->i<=g->d9 l i):iV l g<=g:=by
 induction g using aeT with
 | _ g b =>
  rcases acr g with a|a
  ·subst a;exact abr _
  ·have c:=h g a (abr _)
   unfold d9 at c
   have:=b (l.getD g Gr.zero).parent.toNat om (λi d e=>h i d om)
   rw [Qp h a]
   omega
def qrz (x:Int) (w:World):Calls abo 301 #[vI x] w (Is w (.bool (decide (1<=x/\x<=65536)))):=by
 refine (eF Tryz.func301 9) ?_
 refine (aJ 1∘bA 3) (Ji (λa=>?_) λa=>?_)
 ·
  exact (Jp 4∘aH∘aP∘bC) λb=>Cm om b.below
 exact (Jp 4∘aH∘aP∘bC) λb=>lW om b.below
def Zu (x:Int) (w:World):Calls abo 267 #[vI x] w (Is w (.bool (decide (1<=x/\x<=65536)))):=by
 refine (eF Tryz.func267 9) ?_
 refine (aJ 1∘bA 3) (Ji (λa=>?_) λa=>?_)
 ·
  exact (Jp 4∘aH∘aP∘bC) λb=>Cm om b.below
 exact (Jp 4∘aH∘aP∘bC) λb=>lW om b.below
def MB (x:Int) (w:World):Calls abo 198 #[vI x] w (Is w (.bool (decide (1<=x/\x<=65536)))):=by
 refine (eF Tryz.func198 9) ?_
 refine (aJ 1∘bA 3) (Ji (λa=>?_) λa=>?_)
 ·
  exact (Jp 4∘aH∘aP∘bC) λb=>Cm om b.below
 exact (Jp 4∘aH∘aP∘bC) λb=>lW om b.below
abbrev ahJ:=λa b=>(.blk a #[vI b] 3:Fact)
abbrev ahS:=λa=>((0,.func (.yield a) #[] #[]):(Nat×Go.Value))
def zh6 (W w:World) (d e h:Nat) (A:Option Addr) (c:Nat) (l:List Gr) (g:Nat) (Inv:Nat->List Fact->Prop) (o:List Fact) (hr:Rd W W.heap.size 2 A (abn l) (l.flatMap fC)) (M:abn l<=1000000) (N:g<abn l) (B:∀i,0<i->i<=g->d9 l i)
    (hy:Za abo W h (iV l g+1) Inv) (p:Inv 0 o) (b:Mem W w (.blk d #[vI g] 3:: .blk e #[abk A l c] 42::o)):
    Calls abo 320 (.func (.yield h) #[] #[]:: [vP d 0,vP e 0]).toArray w (Y9 W (Inv (iV l g+1))):=by
 refine oD Tryz.func320 [.func (.yield h) #[] #[],vP d 0,vP e 0] [ahS h,(1,vP d 0),(2,vP e 0)] λa Z=>?_
 refine Jb Z b ((JB) λa Z b=>?_)
 refine qg (λC E G=>∃(x:Nat) (i:Nat) (F:List Fact),(Inv i F)/\(x<=g)/\(iV l x+i=iV l g)/\C=0+x/\Fr E 16 [] [ahS h,(1,vP d 0),(2,vP e 0)]/\Mem W G (ahJ d x::.blk e #[abk A l c] 42::F)) (m:=0+g) ⟨g,0,o,p,abr _,acE _,rfl,Z.sub kr,b.pt 2 [0,1]⟩ ?_
 clear Z b;rintro C a O ⟨x,i,F,H,q,P,rfl,Z,b⟩
 refine Jb Z b ((JQ) λa Z b=>?_)
 refine wp_seq ?_
 refine Lm (i:=2) ?_
 refine Jb Z b ((Jp 1∘Jc O0∘Jq) λa Z b=>?_)
 refine uN Z (i:=2) (vs:=[vI x]) rfl rfl rfl rfl rfl rfl de (hy i F [ahJ d x,.blk e #[abk A l c] 42] _ (x:Int) H om (aah (es:=F) b)) zk ?_
 clear Z b;rintro v r a ⟨s,b,t,f⟩ Z;injection t with t;subst t
 replace b:Mem W r (ahJ d x::.blk e #[abk A l c] 42::s):=aah (es:=[ahJ d x,.blk e #[abk A l c] 42]) b
 refine Jb Z b ((Jp 1∘Jc O0∘Jp 2∘aH∘Jq) (Ji (λj=>?_) λj=>?_))
 ·
  have k:0<x:=by omega
  obtain ⟨I,J⟩:=B x k q
  obtain ⟨y,n⟩:∃y:Nat,(l.getD x Gr.zero).parent=(y:Int):=⟨(l.getD x Gr.zero).parent.toNat,by omega⟩
  have u:=Qp (l:=l) (g:=x) (λi K hi=>B i K om) k
  rw [n,abE] at u
  refine (JT∘DU∘JB∘JR∘Jc O1∘Jc O0) ?_
  obtain ⟨gA,Q,rfl,_⟩:=hr.sat x
  refine (iC x 2∘Jf 0∘DT qK hr x Gr.zero∘Jo (vI y) (by rw [n])∘JW aO aO) λD=>(qI∘Jq) λa Z b=>?_
  exact ⟨_,om,y,i+1,s,f,by omega,by omega,rfl,Z.sub kr,b.pt 2 [0,1]⟩
 obtain rfl:x=0:=by omega
 have L:=q5c l
 refine (JF∘JX) ?_
 have z:i+1=iV l g+1:=by omega
 rw [z] at f
 intro a Z b
 exact iF rfl Z ⟨_,rfl,s,aap [.blk d #[vI 0] 3,.blk e #[abk A l c] 42] b,f⟩
def zl5 (A:Option Addr) (n c:Nat) (g:Int) (w:World):
    Calls abo 314 #[.slice A n c,vI g] w λr d=>∃a b,r= .returned (.func (.func 320) #[] #[vP a 0,vP b 0])/\Mem w d [ahJ a g,.blk b #[.slice A n c] 42]:=by
 refine (jf Tryz.func314 6) ?_
 exact (JP∘uT) λj e=>(uT) λk f=>(Jp 1∘Jr∘Jy (h:=by exact Yl.makeFunc (fst:=[]) (caps:=[vP f 0,vP e 0]) rfl rfl rfl)∘Jp 1∘aK∘aP∘bC) λi=>by exact ⟨_,_,rfl,i.pk [0,1]⟩
abbrev ahA:=λa=>(.obj a (.deferred (some [])):Fact)
def q5v (A:Option Addr) (c:Nat) (l:List Gr) (g:Nat) (w:World) (hr:Rd w w.heap.size 2 A (abn l) (l.flatMap fC)) (q:abn l<=1000000) (s:g<abn l) (n:∀i,0<i->i<=g->d9 l i):
    Calls abo 302 #[abk A l c,vI g] w (Is w (vI (iV l g:Int))):=by
 have j:=zh5 n
 refine Fj (vs:=[abk A l c,vI g]) Tryz.func302 rfl rfl kr (σ0:=[(0,abk A l c),(1,vI g)]) rfl ?_
 intro a Z
 have b:=Mem.start w
 refine Jb Z b ((aJ 1∘Jr∘JA #[vI 0]) λt e=>(JW aO aO) λo=>(Jj∘bN 2∘JL (h:=by exact λb=>zl5 A (abn l) c (g:Int) _)) ?_)
 rintro b _ E ⟨u,y,rfl,hm⟩
 refine ⟨_,rfl,_,b.join hm,?_⟩
 refine (bQ∘Jj∘JB) λa Z b=>?_
 refine Fh Z b (λF=>F=[ahJ e (((iV l g+1):Int)-1)]) (λ_ _=>False) rfl kr ?_ ?_ (λ_ _ _ _ _ h=>h.elim)
 ·
  clear Z b;intro f B d z k b
  have C:Za abo w f (iV l g+1) (λi F=>F=(.obj f (.loop (d .ready none)):: .obj B (.deferred (some [])):: [ahJ e ((i:Int)-1)])):=by
   rintro i F fr G x rfl hi b
   replace b:Mem w _ (ahU f (d .ready none)::ahA B::ahJ e ((i:Int)-1)::fr):=b
   refine qrv (v1:=vI x) k b de λa Z=>?_
   refine wpIn_skip ?_
   refine ⟨(ahA B::ahJ e ((i:Int)-1)::fr),b.pt (fs':=(ahU f (d .ready none)::ahA B::ahJ e ((i:Int)-1)::fr)) 3 [0,1,2],λH b=>?_⟩
   refine wpIn_block ?_
   refine qo ?_
   refine Jb Z b ((Jc O2∘Jp 1∘Jo (vI (((i+1:Nat):Int)-1)) (by have D:=j;exact (mF ⟨by omega,by omega⟩).trans (congrArg (abO .i64) om))∘JW iq aO) λp=>(nT∘Jq) λa Z b=>?_)
   refine ⟨(ahA B::ahJ e (((i+1:Nat):Int)-1)::fr),b.pt (fs':=(ahU f (d .busy none)::ahA B::ahJ e (((i+1:Nat):Int)-1)::fr)) 3 [0,1,2],λt b=>?_⟩
   exact ⟨(ahU f (d .ready none)::ahA B::ahJ e (((i+1:Nat):Int)-1)::[]),b,rfl,rfl⟩
  refine (zh6 w z u y f A c l g _ _ hr q s n C rfl (b.pk [2,3,0,1,4])).mono ?_
  rintro r I ⟨v,rfl,J,m,rfl⟩
  exact ⟨v,rfl,.inl ⟨_,rfl,m⟩⟩
 clear Z b;rintro B a K _ rfl Z b
 refine Jb Z b ((JG∘JP∘Jc O1∘Jp 1∘aK∘aP) λa Z b=>?_)
 refine Bz Z b (i:=0) rfl λa L Z b=>?_
 exact lN rfl Z rfl (⟨by congr 2;omega,b.below⟩)
def q0p (A:Option Addr) (c:Nat) (l:List Gr) (t:∀x∈l,x.Ok) (w:World) (hr:Rd w w.heap.size 2 A (abn l) (l.flatMap fC)) (G:abn l<=1000000):
    Calls abo 261 #[abk A l c] w (Qu w l):=by
 refine (eF Tryz.func261 58) ?_
 refine (cO 2∘JQ∘JB∘aJ 1∘Jl∘Jp 2∘dY∘Jj) (Ji (λu=>?_) λu=>?_)
 ·
  exact (JT∘bF 2∘bO) λb=>Cn (Qs om) de b.below
 refine (JF∘aJ 1∘Jl∘Jp 2) (Je (λf=>?_) λf=>?_)
 ·
  exact (Jp 7∘aH∘Jj∘JT∘bF 2∘bO) λb=>Cn (Qs om) de b.below
 obtain ⟨gA,s,rfl,_⟩:=hr.sat 0
 refine (Jp 1∘Jy (v:=vP gA s) (h:=by exact Yl.indexAddr (ad:=⟨gA,s,none⟩) (y:=0) (sz:=2) rfl rfl rfl om kr)∘pG Gr.cells qK hr lU 0 Gr.zero∘eH #[vI 0,vI 1]∘Jy (v:= .bool (!(decide ((l.getD 0 Gr.zero)=⟨0,1⟩)))) (h:=by exact aaJ rfl rfl rfl (zbv (l.getD 0 Gr.zero) ⟨0,1⟩))∘Jp 2∘aH∘Jj) (Ju (λe=>?_) λe=>?_)
 ·
  have z:=of_decide_eq_false ((acF _).mp e)
  exact (JT∘bF 2∘bO) λb=>Cn (Qs (λh=>by rw [h.2.2] at e;simp at e)) de b.below
 have z:=of_decide_eq_true ((ad7 _).mp e)
 refine (aU∘JQ∘cO 1∘JB) λa Z b=>?_
 refine qg (λF H I=>∃(g:Nat),(1<=g)/\(g<=abn l)/\(fQ g (pO l))/\F=abn l-g/\Fr H 58 [] [(4,vI g),(9,.bool false),(5,.bool false),(3,vI 0),(2,vI 0),(0,abk (some ⟨gA,s,none⟩) l c)]/\Mem w I []) (m:=abn l-1) ⟨1,abr _,by omega,fQ.zero.succ (zbu l),rfl,Z.sub kr,b.pk []⟩ ?_
 clear Z b;rintro F a N ⟨g,J,K,B,rfl,Z,b⟩
 refine Jb Z b ((bN 2∘Jl∘Jp 1∘dY∘Jj) (Ji (λj=>?_) λj=>?_))
 ·
  have d:g<abn l:=by omega
  have k:=t _ (qf Gr.zero d)
  have C:=k.parent
  intro a Z b
  unfold aW at C
  have D:=k.weight
  unfold aW at D
  refine Jb Z b ((eO∘JB∘aJ 2∘iC g 2∘Jf 0∘DT qK hr g Gr.zero∘Jp 2) (Ji (λn=>?_) λn=>?_))
  ·
   exact (Jv 9 [(26,.bool true)]∘aH∘Jj∘JT∘bF 3∘bO) λb=>Cn (Mr d (Ms om om)) de b.below
  refine (Jp 2∘iC g 2∘Jf 0∘DT qK hr g Gr.zero∘Jp 4∘aH∘Jj) (Ji (λo=>?_) λo=>?_)
  ·
   exact (JT∘bF 3∘bO) λb=>Cn (Mr d (Ms om om)) de b.below
  have E:=q5h B ⟨by omega,by omega⟩
  refine (JF∘aJ 2∘iC g 2∘Jf 1∘OM qK hr 1 g Gr.zero∘JL (h:=by exact λb=>qrz ((l.getD g Gr.zero).weight) _)) ?_
  rintro b _ L ⟨rfl,p⟩
  refine ⟨_,rfl,_,b.call p,?_⟩
  refine (Jp 2∘aH∘Jj) (oW (λq=>?_) λq=>?_)
  ·
   exact (JT∘bF 3∘bO) λb=>Cn (Mr d (Ms om om)) de b.below
  refine (JF∘aJ 2∘JI (h:=by exact λb=>q5v (some ⟨gA,s,none⟩) c l g _ (b.old hr) G om E)) λM p=>(Jp 2∘gq∘Jj) (Ji (λr=>?_) λr=>?_)
  ·
   exact (JT∘bF 3∘bO) λb=>Cn (Mr d (Ms om om)) de b.below
  refine (aU∘JR∘Jp 1∘dx 1∘Jp 1∘bQ∘Jq) λa Z b=>?_
  exact ⟨_,om,g+1,by omega,by omega,B.succ (zhu ⟨by omega,by omega,by omega,by omega⟩),rfl,Z.sub kr,b.pk []⟩
 exact (JF∘JX∘JG∘bF 2∘bO) λb=>by exact quq (zbt ⟨by omega,by omega,by simpa using e⟩ (λi hi=>B i om)) b.below
def q0q (A:Option Addr) (c:Nat) (l:List Gr) (b:∀x∈l,x.Ok) (w:World) (hr:Rd w w.heap.size 2 A (abn l) (l.flatMap fC)) (f:abn l<=1000000):
    Calls abo 191 #[abk A l c] w (Is w (.bool (dF l))):=by
 refine (eF Tryz.func191 12) ?_
 refine (aJ 1∘bA 1∘JL (h:=by exact λa=>q0p A c l b _ (a.old hr) f)) ?_
 rintro a _ j ⟨⟨i,e,rfl,g⟩,d⟩
 refine ⟨_,rfl,_,a.call d,?_⟩
 exact (Jp 1∘Jx∘Jx∘Jp 2∘aH∘bA 3∘dY∘aP∘bC) λa=>cB g a.below
def QD (v r:Nat) (b:Int) (g:v<18446744073709551616) (hr:r<4294967296) (i:0<=b/\b<4294967296) (w:World):
    Calls abo 218 #[.agg #[vQ v,vW r,vW b]] w (Is w (.bool (bV v r b))):=by
 obtain ⟨z,rfl⟩:∃z:Nat,b=(z:Int):=⟨b.toNat,by omega⟩
 refine (eF Tryz.func218 24) ?_
 refine (JP∘JE) λj k=>(Jp 1∘Jr∘Jg 2 O0∘Jw .i64∘JL (h:=by exact λa=>Zu (z:Int) _)) ?_
 rintro a _ l ⟨rfl,e⟩
 refine ⟨_,rfl,_,a.call e,?_⟩
 refine (Jp 1) (Ji (λf=>?_) λf=>?_)
 ·
  refine (Jg 1 O0∘Jg 2 O0∘Jp 3) (Ji (λc=>?_) λc=>?_)
  ·
   refine (Jg 0 O0∘Jp 2) (Ji (λd=>?_) λd=>?_)
   ·
    exact (Jp 6∘aH∘aP∘bC) λa=>zlv om a.below
   exact (Jg 1 O0∘Jp 4∘aH∘aP∘bC) λa=>Cm om a.below
  exact (Jv 10 [(2,.bool false)]∘aH∘aP∘bC) λa=>lW om a.below
 exact (Jv 17 [(2,.bool false)]∘gq∘aP∘bC) λa=>lW om a.below
def zc (v r:Nat) (b:Int) (e:0<=b/\b<4294967296) (w:World):
    Calls abo 208 #[vQ v,vW r,vI b] w (Is w (.agg #[vQ v,vW r,vW b])):=by
 obtain ⟨z,rfl⟩:∃z:Nat,b=(z:Int):=⟨b.toNat,by omega⟩
 refine (uU Tryz.func208 12) ?_
 refine (JP∘JA #[vQ 0,vW 0,vW 0]) λf g=>(bA 3∘Jv 1 [(10,vW (IntKind.u32.wrap (z:Int)))]∘Jo (vW z) (by exact Bw rfl om)∘eH #[vQ v,vW r,vW z]∘JV qp aO) λc=>(qI∘aP) λa Z d=>?_
 exact iM rfl Z (.cellS (i:=0) Z d rfl rfl qp rfl) (⟨rfl,d.below⟩)
def Zv (m n:Nat) (hm:m<18446744073709551616) (a:1<=n/\n<=64) (w:World):
    Calls abo 199 #[vQ m,vI n] w (Is w (.bool (decide (2^n<=m)))):=by
 refine (jf Tryz.func199 11) ?_
 exact (aJ 1∘bA 2∘zZ 1∘Jy (v:=vQ (m/2^ (n-1):Nat)) (h:=by exact aas (m:=m) (n:=(n-1)) rfl rfl rfl (by show _<=64;omega))∘Jp 1∘Jo (vQ ((m/2^ (n-1))/2:Nat)) (by exact uf .u64 (m/2^ (n-1)) (j:=1) (q:=2) rfl rfl)∘Jp 2∘aH∘aP∘bC) λb=>cB (zhv a.1) b.below
def Zw (x : aF) (t : Tk) (c : t.Ok) (I : 1 <= x.au /\ x.au <= 64) (J : abn x.rs <= 1000000) (w : World) :
    Calls abo 219 #[.agg x.cells,.agg t.cells] w (Is w (.bool (dX x.av t))):=by
 obtain ⟨n,y⟩:∃n:Nat,x.au=(n:Int):=⟨x.au.toNat,by omega⟩
 have f:1<=n/\n<=64:=by omega
 have K:=c.v
 have L:=c.r
 have hi:=c.id
 have B:=c.group
 have hc:=c.cpu
 have C:=c.weight
 have hm:=c.mask
 unfold aW at hi B hc C
 refine (jf Tryz.func219 72) ?_
 refine (JP∘JE) λM N=>(JE) λO P=>(Jp 1∘Jr∘Jg 0 O0∘Jp 2) (Ji (λz=>?_) λz=>?_)
 ·
  refine (Jg 0 O0∘Jp 3) (Ji (λg=>?_) λg=>?_)
  ·
   refine (Jg 1 O0∘Jp 3) (Ji (λi=>?_) λi=>?_)
   ·
    refine (Jg 1 O0∘Jg 6 O1∘Jl∘Jp 3) (Ji (λl=>?_) λl=>?_)
    ·
     refine (Jg 3 O0∘Jp 3) (Ji (λo=>?_) λo=>?_)
     ·
      refine (Jg 3 O0∘Jf 0∘Jg 0 O1∘Jp 3) (Ji (λp=>?_) λp=>?_)
      ·
       obtain ⟨k,A⟩:∃k:Nat,t.cpu=(k:Int):=⟨t.cpu.toNat,by omega⟩
       refine (Jg 2 O0∘JL (h:=by exact λb=>MB t.weight _)) ?_
       rintro b _ D ⟨rfl,e⟩
       refine ⟨_,rfl,_,b.call e,?_⟩
       refine (Jp 2) (Ji (λq=>?_) λq=>?_)
       ·
        refine (Jg 4 O0∘Jf 0∘Jf 0∘Jc O1∘Jo (vI n) (by rw [y])∘JI (h:=by exact λb=>Zv t.mask n c.mask f _)) λE e=>(Jp 3) (Ju (λd=>?_) λd=>?_)
        ·
         have s:=of_decide_eq_false ((acF _).mp d)
         have F:=aeS t.mask (2^k)
         refine (Jg 4 O0∘Jf 3∘Jc O0∘Jo (vI k) (by rw [A])∘Jy (v:=vQ (t.mask/2^k:Nat)) (h:=by exact aas (m:=t.mask) (n:=k) rfl rfl rfl (by show _<=64;omega))∘Jp 1∘Jo (vQ ((t.mask/2^k)%2:Nat)) (by exact Lj (n:=1) (j:=1) rfl de om)∘Jp 3) (Je (λu=>?_) λu=>?_)
         ·
          refine (Jg 6 O0∘Jg 7 O0∘Jg 2 O0∘JI (h:=by exact λb=>zc t.v t.r t.weight om _)) λG e=>(JI (h:=by exact λb=>QD t.v t.r t.weight om om om _)) λH e=>(Jp 2∘aH∘Jq) λa Z b=>?_
          replace Z:=Z.to [(4,.bool (bV t.v t.r t.weight))]
          exact Jb Z b ((JG∘JZ∘bC) λb=>cB (zlz om om (by rw [y,abE];simpa using d) (by rw [A,abE];omega)).symm b.below)
         refine (Jv 10 [(4,.bool false)]∘aH∘Jq) λa Z b=>?_
         replace Z:=Z.to [(4,.bool false)]
         exact Jb Z b ((JG∘JZ∘bC) λb=>cB (zly (by rw [A,abE];omega)).symm b.below)
        have s:=of_decide_eq_true ((ad7 _).mp d)
        exact (Jv 19 [(4,.bool false)]∘aH∘aP∘bC) λb=>cB (zlx (by rw [y,abE];simpa using d)).symm b.below
       exact (Jv 28 [(4,.bool false)]∘aH∘aP∘bC) λb=>cB (zlw om).symm b.below
      exact (Jv 33 [(4,.bool false)]∘aH∘aP∘bC) λb=>cB (D7 om).symm b.below
     exact (Jv 41 [(4,.bool false)]∘aH∘aP∘bC) λb=>cB (D7 om).symm b.below
    exact (Jv 46 [(4,.bool false)]∘aH∘aP∘bC) λb=>cB (D7 om).symm b.below
   exact (Jv 54 [(4,.bool false)]∘aH∘aP∘bC) λb=>cB (D7 om).symm b.below
  exact (Jv 59 [(4,.bool false)]∘aH∘aP∘bC) λb=>cB (D7 om).symm b.below
 exact (Jv 64 [(4,.bool false)]∘dY∘aP∘bC) λb=>cB (D7 om).symm b.below
def Zx (x:aF) (b:x.av.Ok) (i:bY x) (w:World) (j:eU w x):
    Calls abo 146 #[.agg #[vI x.au,vQ (x.aj:Int),abk x.gA x.gs x.gc]] w (Is w (.bool (fU x.av))):=by
 have hc:=b.au
 have c:=b.aj
 replace hc:aW x.au:=hc
 replace c:x.aj<18446744073709551616:=c
 unfold aW at hc
 refine (eF Tryz.func146 21) ?_
 refine (JP∘JE) λm n=>(Jp 1∘Jr∘Jg 0 O0∘Jp 2) (Ji (λf=>?_) λf=>?_)
 ·
  refine (Jg 0 O0∘Jp 3) (Ji (λd=>?_) λd=>?_)
  ·
   refine (Jg 1 O0∘Jp 3) (Ji (λe=>?_) λe=>?_)
   ·
    exact (Jg 2 O0∘JI (h:=by exact λa=>q0q x.gA x.gc x.gs b.gs _ (a.old j.g) i.g)) λk l=>(Jp 2∘aH∘aP∘bC) λa=>cB (zhw om).symm a.below
   exact (Jp 5∘aH∘aP∘bC) λa=>cB (Qt om).symm a.below
  exact (Jv 10 [(2,.bool false)]∘aH∘aP∘bC) λa=>cB (Qt om).symm a.below
 exact (Jv 15 [(2,.bool false)]∘dY∘aP∘bC) λa=>cB (Qt om).symm a.below
def q5w (t:Int) (w:World):Calls abo 217 #[vI t] w (Is w (.bool (!iG t))):=by
 refine (eF Tryz.func217 9) ?_
 refine (aJ 1∘bA 3) (Ji (λa=>?_) λa=>?_)
 ·
  exact (Jp 4∘aH∘aP∘bC) λb=>cB (by first|(unfold iG;rw [decide_eq_false om];rfl)|(unfold iG;rw [<-decide_not];exact decide_eq_decide.2 om)) b.below
 exact (Jp 4∘aH∘aP∘bC) λb=>cB (by first|(unfold iG;rw [decide_eq_false om];rfl)|(unfold iG;rw [<-decide_not];exact decide_eq_decide.2 om)) b.below
abbrev ahK:=λa b c d e=>((a,vI b)::(c,vI d)::e:List (Nat×Go.Value))
def quy (A:Option Addr) (c:Nat) (l:List Int) (w:World) (hr:Rd w w.heap.size 1 A (abn l) (l.map aX)) (s:abn l<=1000000):
    Calls abo 270 #[abk A l c,.func (.func 217) #[] #[]] w (vF w (abn l) (λc=>iG (l.getD c 0))):=by
 refine (jf Tryz.func270 19) ?_
 refine (cO 1∘bN 1∘Jl∘bM 1∘JB) λa Z b=>?_
 refine qg (λn p q=>∃(k:Nat),(k<=abn l)/\(fQ k (λc=>iG (l.getD c 0)))/\n=abn l-k/\Fr p 19 [] (ahK 8 k 7 (abn l) [(4,vI 0),(0,abk A l c),(1,.func (.func 217) #[] #[])])/\Mem w q []) (m:=abn l-0) ⟨0,abA _,fQ.zero,rfl,Z.sub kr,b.pk []⟩ ?_
 clear Z b;rintro n a t ⟨k,u,o,rfl,Z,b⟩
 refine Jb Z b ((cO 1∘JQ) (Ji (λe=>?_) λe=>?_))
 ·
  have g:k<abn l:=by omega
  refine (eO∘aJ 2∘aK∘bA 3) ?_
  obtain ⟨gA,v,rfl,_⟩:=hr.sat k
  refine (iC k 1∘Jy (h:=by exact aad hr k 0 om rfl rfl)) λa Z b=>?_
  refine fo Z 5 rfl rfl ?_
  refine zg Z (f:=217) (vs:=[vI (l.getD k 0)]) (fst:=[]) (caps:=[]) rfl rfl rfl kr rfl de (q5w (l.getD k 0) _) ?_
  rintro _ r ⟨rfl,j⟩
  refine ⟨_,rfl,?_⟩
  replace b:=b.call j
  clear Z;intro a Z
  refine Jb Z b ((kW∘Jj) (Ju (λd=>?_) λd=>?_))
  ·
   exact (JT∘aJ 2∘aK∘aP∘bC) λb=>q0l g (by simpa using d) b.below
  refine (aU∘JR∘dx 1∘Jp 1∘aK∘Jq) λa Z b=>?_
  exact ⟨_,om,k+1,by omega,o.succ (by simpa using d),rfl,Z.sub kr,b.pk []⟩
 exact (JF∘JX∘JG∘bF 1∘bC) λb=>q0m (λi hi=>o i om) b.below
def qmo (A:Option Addr) (c:Nat) (l:List Int) (w:World) (hr:Rd w w.heap.size 1 A (abn l) (l.map aX)) (d:abn l<=1000000):
    Calls abo 216 #[abk A l c,.func (.func 217) #[] #[]] w (Is w (.bool (!iw (abn l) (λc=>iG (l.getD c 0))))):=by
 refine (jf Tryz.func216 9) ?_
 refine (aJ 1∘bA 2∘JL (h:=by exact λa=>quy A c l _ (a.old hr) d)) ?_
 rintro a _ f ⟨⟨i,rfl,e⟩,b⟩
 refine ⟨_,rfl,_,a.call b,?_⟩
 exact (Jp 2∘gq∘aP∘bC) λa=>cB e a.below
end Go.Proofs.YtekiimhdnigmcaaGreatDoor
