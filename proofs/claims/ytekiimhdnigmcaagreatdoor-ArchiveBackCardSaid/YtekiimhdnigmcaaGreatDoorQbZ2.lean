/- Parts. -/
import Derived.Deep.DeepAppendWide
import Derived.Deep.Upon
import Derived.MapKept
import Derived.IntWalk
import Derived.Maps.RangeRun
import Derived.RangeFuncLeaves
import Derived.Recover
import Derived.Lib.AppendZeros
import Derived.ChangeKeysEq
import Derived.Laws.StructEq
import Derived.Laws.Slices
import Derived.Laws.IdiomCopy
import Derived.Lib.Overlaps
import Derived.Deep.AppendSrc
import Derived.Test.YtekiimhdnigmcaaGreatDoorQbZ1
set_option linter.all false
set_option maxRecDepth 100000
set_option maxHeartbeats 1000000
namespace Go.Proofs.YtekiimhdnigmcaaGreatDoor
open Go.RowKit
open Go renaming World→aiM,Value→aiN,Program→aiO,TypeId→aiP,Ending→aiQ,Operand→aiR,Oper→aiS,IntKind→aiT,Deferred→aiU,Exit→aiV
open List renaming length→abo
open _root_.Go.Proofs.Tryz renaming prog→abp
open _root_.List renaming length_append→abq,getElem?_eq_getElem→abr,getD_eq_getElem?_getD→abt,append_assoc→abv,length_map→abw,length_take→abx,getElem?_eq_some_iff→abB,replicate→abD,length_drop→abE,mem_of_getElem?→abJ,length_set→abK,take_of_length_le→abL,append_nil→abM,flatMap_cons→abR,mem_of_mem_drop→abU,map_append→abZ,mem_cons_of_mem→ab5,mem_map→ab7,take_append_drop→ab8,all_eq_true→ace,mem_append→acg,mem_cons_self→acj,range→aco,getElem_of_mem→acp,drop_of_length_le→acs,eq_nil_of_length_eq_zero→acu,drop_eq_getElem_cons→acz,map_cons→acB,pairwise_iff_getElem→acC,perm_append_comm→acD,getElem?_map→acM,drop_drop→acN,lookup_cons→acR,nil_append→acZ,map_toArray→ac3,size_toArray→ade,getElem?_set_self→adf,getElem?_take→adE,map_nil→adF,take_add_one→adM,take_left→adO,getElem?_cons_succ→adV,set_getElem_self→adY,setIfInBounds_toArray→aed,getElem?_toArray→aeU,length_singleton→ae6,findIdx?_eq_some_iff_getElem→afi,take_append→aft,drop_append→afu,mem_filterMap→afy,set_cons_zero→afz,drop_left→afE,toArray_replicate→af5,mem_iff_getElem?→agb,pairwise_append→agf,set_cons_succ→agt,foldl_append→agy,ext_getElem?→agB,count_cons→agS,map_take→aha,map_drop→ahc
open Nat renaming le_refl→abu,zero_le→abz,lt_or_ge→ab6,eq_zero_or_pos→ach,zero_add→aci,mul_le_mul_right→acy,add_sub_cancel_left→acJ,add_zero→acK,mul_one→ac0,min_eq_left→ac4,le_trans→ada,le_add_right→adC,succ_mul→adI,mod_lt→ad1,sub_self→aeg,add_mul→aeo,add_comm→ae7,div_le_self→afa,strongRecOn→afb,add_assoc→afe,or_lt_two_pow→afm,sub_zero→afo,zero_mul→af9,min→agh,lt_of_le_of_lt→agw,two_pow_pos→ag2,mul_ne_zero→ag3,one_mul→ahv
open Result renaming andThen_ok→abA
open Bool renaming and_eq_true→abG,eq_iff_iff→ab3,not_eq_true'→acL,false_and→adw,and_false→adx,or_eq_true→adD,not_eq_false'→aec,false_or→ahb
open Int renaming toNat_natCast→abH
open Sem renaming run_bind→abI,run_pure→abS,run→afn
open Value renaming int→abT,oneCell'→abX
open BitVec renaming ofInt→ab0
open Builtin renaming zeroCells→ab2,append_→ac9,lenOf→afL,nextslicecap→afY,clear_→agE,copy_→agJ
open Fence renaming wide→acf
open Oper renaming upon_value→acr,wp→acS,upon_skip→aeV,upon_enter→afF,upon→afU,semAt_none→agR
open Go renaming IntKind→acw
open _root_.Array renaming length_toList→acA,toArray_toList→acO,getD_eq_getD_getElem?→acQ,getElem?_eq_some_iff→acU,toList_map→adi,map→adB,getElem?_append→adW,getElem_toList→ad7,getElem?_modify→aeY,size_append→afg,getElem?_eq_getElem→afK,toList_append→agd,range→ahf
open Region renaming ready→acF,wanted→acY,Mode→ad3
open Addr renaming add_mid→acI
open Op renaming equalIn→acT,equal→adg
open Code renaming wp→ac1,region→aea,cond→afV,wp_mono→ahg
open Option renaming bind_eq_some_iff→adh,map_eq_some_iff→adt,map_some→aeJ,map_none→aeK
open Go.IntKind renaming wrap→adk
open Instr renaming sliceAt→adG,buildSlice→adK,build→aej,sureAddr→aek,typeAssert→aeN,fill→ae5,lookup→afh,sliceBounds→afw,sliceBound→afG,storeAt→afQ,slice→agx,mapUpdate→agH,enterLoop→agI,findNow→ag1
open Deferred renaming ofValue→adH
open Extern.SlicesOverlaps renaming overlaps→adZ
open Below renaming refl→ad2
open World renaming alloc_heap_new→ad6,cell?→aef,frozen?→afM,freeze→afW,shape?→afX
open MapKept renaming run_getObj_map→aez
open Pure renaming pure→aeC
open _root_.Go.ByteArray renaming toList_eq→afS
open IntWalk renaming i64_in→agD
open Act renaming eval→ag9
open Min renaming min→ahn
open List.Sublist renaming refl→ahw
variable {e:aiV->Act->aiM->Prop} {C ys tmps:Array aiN} {t tb u:aiP} {g m N c i B n sz:Nat} {f:FuncId} {xs vs caps:List aiN} {R:aiQ->aiM->Prop} {r1:ResultVar} {v2 z:aiN} {x y s:aiR} {w W w':aiM} {fs F:List aiX} {k:aiT} {A:aiW} {l:List Nat} {P:aiO} {o:aiS} {ps:Array (Nat×aiR)} {a:Mb}
section
variable {P:aiO} {Q:aiV->Act->aiM->Prop} {a:Act} {W w:aiM} {n d:Nat} {D:List aiU} {σ:List (Nat×aiN)} {o:aiS} {v:aiN} {K:Act->aiM->Prop} {fs:List aiX}
def xL (P:aiO) (e:aiP):Option (Array aiN):=((P.info? e).bind (·.zero)).map Value.cells
def Xe {b:aiN} {e:aiP} (hr:(execOp a.eval o).run P w= .ok (.value (.pointer (some ⟨w.heap.size,0,none⟩))) (w.alloc (.cells C e))) (Z:Fr a n D σ) (i:Mem W w fs) (j:o.dst=some d) (c:d<n)
  (k:∀f h g,Fr f n D ((d,.pointer (some ⟨g,0,none⟩))::σ)->Mem W h (.blk g C e::fs)->K f h):o.wp P a w K Q:=by
 have _:=b
 unfold acS
 rw [hr,acr,j]
 exact k _ _ _ (Z.put c _) (i.alloc C e)
def PN (Z:Fr a n D σ) (p:Mem W w fs) {e:aiP} {C:Array aiN} (c:o.op= .alloc e) (hz:xL P e=some C) (q:o.dst=some d) (f:d<n)
  (k:∀l m g,Fr l n D ((d,.pointer (some ⟨g,0,none⟩))::σ)->Mem W m (.blk g C e::fs)->K l m):o.wp P a w K Q:=by
 refine Xe (b:=undef) ?_ Z p q f k
 unfold xL at hz
 obtain ⟨z,h,rfl⟩:=adt.1 hz
 obtain ⟨i,hi,j⟩:=adh.1 h
 unfold execOp
 simp [c,Instr.alloc,zeroValue,typeInfo,hi,j,newVar,newRow,newObj]
 rfl
def Ac (Z:Fr a n D σ) (j:Mem W w fs) {e:aiP} {x:aiR} (c:o.op= .box e x) (l:look σ x=some v) {C:Array aiN} (hc:v.cells=C) (m:o.dst=some d) (f:d<n)
  (k:∀h i g,Fr h n D ((d,.pointer (some ⟨g,0,none⟩))::σ)->Mem W i (.blk g C e::fs)->K h i):o.wp P a w K Q:=by
 subst hc
 refine Xe (b:=undef) ?_ Z j m f k
 unfold execOp
 simp [c,Z.eval l,Instr.box,newVar,newRow,newObj]
 rfl
def Xf {off:Nat} (hs:(P.info? t).map (·.size)=some 1) (c:v.oneCell'=true) {u:aiN} (hc:w.cell? ⟨g,off,none⟩=some u) (e:w.frozen? ⟨g,off,none⟩=false):
  (afQ t (.pointer (some ⟨g,off,none⟩)) v).run P w= .ok () (w.setCell ⟨g,off,none⟩ v):=by
 have ht:w.there g off 1:=λj f=>by
  obtain rfl:j=0:=by omega
  simp [hc,e]
 have b:v.cells= #[v]:=by cases v<;>first|rfl|cases c
 have:=run_storeVar_mid (P:=P) w g off t #[v] (by simpa using ht) (by simpa using hs) (by simp [c])
 have e2:storeVar t ⟨g,off,none⟩ v=storeVar t ⟨g,off,none⟩ (.agg #[v]):=by
  unfold storeVar
  rw [b]
  rfl
 simp only [afQ,aek,abI,abS,abA,e2,this]
 rfl
def rz (Z:Fr a n D σ) (b:Mem W w fs) {t:aiP} {x y:aiR} {i g off:Nat} {C:Array aiN} {tb:aiP} (c:o.op= .store t x y) (f:o.dst=none) (h:look σ x=some (.pointer (some ⟨g,off,none⟩))) (hy:look σ y=some v) (hs:(P.info? t).map (·.size)=some 1) (j:v.oneCell'=true)
  (hi:fs[i]?=some (.blk g C tb)) (l:off<C.size) (k:∀e,Mem W e (fs.set i (.blk g (C.setIfInBounds off v) tb))->K a e):o.wp P a w K Q:=by
 have m:=b.blk hi
 have hc:w.cell? ⟨g,off,none⟩=some C[off]:=b.cell hi (afK l)
 have p:w.frozen? ⟨g,off,none⟩=false:=by simp [afM,m]
 unfold acS execOp
 simp only [c,Z.eval h,Z.eval hy,abI,Xf hs j hc p,abA,abS,aeV,f]
 exact k _ (b.set hi v)
def Xg (Z:Fr a n D σ) (c:Mem W w fs) {t:aiP} {x y:aiR} {i g m:Nat} {C ds:Array aiN} {tb:aiP} (b:o.op= .store t x y) (f:o.dst=none) (h:look σ x=some (.pointer (some ⟨g,0,none⟩))) (hy:look σ y=some (.agg ds)) (j:SI P t m) (hc:C.size=m) (hm:ds.size=m) (h1:∀u∈ds.toList,u.oneCell'=true)
  (hi:fs[i]?=some (.blk g C tb)) (k:∀e,Mem W e (fs.set i (.blk g ds tb))->K a e):o.wp P a w K Q:=by
 have l:=c.blk hi
 have p:=run_storeVar_mid (P:=P) w g 0 t ds (by rw [hm];exact WA l 0 m om) (by rw [hm];exact j.size) (by simpa using all_oneCell_toArray h1)
 unfold acS execOp
 simp only [b,Z.eval h,Z.eval hy,abI,afQ,aek,abS,p,abA,aeV,f]
 exact k _ (c.BN hi om)
def callable (P:aiO) (f:FuncId):Bool:=match P.funcs[f]? with
 | some fn => fn.name != "runtime.NumGoroutine" && fn.body.isSome
 |none=>false
def El (h:callable P f=true) (args:Array aiN) (w:aiM):(callFunc f args).run P w= .ok (.enter f args) w:=by
 unfold callable at h
 split at h
 ·rename_i fn b
  rw [abG,bne_iff_ne] at h
  have c:fn.body≠none:=by intro e;rw [e] at h;simp at h
  simp [callFunc,b,h.1,c,program,afn,abI]
 ·cases h
def looks (σ:List (Nat×aiN)):List aiR->Option (List aiN)
 |[]=>some []
 |x::r=>match look σ x,looks σ r with
  |some v,some b=>some (v::b)
  |_,_=>none
def Ad (Z:Fr a n D σ):∀{xs:List aiR} {b:List aiN},looks σ xs=some b->xs.map a.eval=b
 |[],b,h=>by cases h;rfl
 | x :: r, b, h => by
  unfold looks at h
  split at h
  ·rename_i v f c e
   injection h with h
   subst h
   rw [acB,Z.eval c,Ad Z e]
  ·cases h
def Ae (Z:Fr a n D σ) {f:FuncId} {xs:Array aiR} {ts:Array aiP} {vs:List aiN} {R:aiQ->aiM->Prop} (c:o.op= .call {callee:= .value (.func f),args:=xs,argTypes:=ts}) (i:looks σ xs.toList=some vs) (j:callable P f=true) (l:o.dst=some d) (g:d<n)
  (m:Calls P f vs.toArray w R) (k:∀e b,R e b->∃v,e= .returned v/\∀h,Fr h n D ((d,v)::σ)->K h b):o.wp P a w K Q:=by
 have e1:xs.map a.eval=vs.toArray:=by
  have:=Ad Z i
  rw [<-this,<-adi,acO]
 unfold acS execOp
 simp only [c,resolve,ag9,adH,invoke,abI,abS,abA]
 have e2:xs.map (λx=>a.eval x)=vs.toArray:=e1
 have e3: #[]++adB a.eval xs++ #[]=vs.toArray:=by simp [e1]
 show afU P o a K Q (((callFunc f (#[]++adB a.eval xs++ #[])).run P w))
 rw [e3,El j,afF]
 refine m.mono λe b p=>?_
 obtain ⟨v,rfl,q⟩:=k e b p
 show K (a.put o.dst v) b
 rw [l]
 exact q _ (Z.put g v)
def lF (Z:Fr a n D σ) (vs:List aiN) {f:FuncId} {xs:Array aiR} {ts:Array aiP} {R:aiQ->aiM->Prop} (b:o.op= .call {callee:= .value (.func f),args:=xs,argTypes:=ts}) (i:o.dst=some d) (j:Calls P f vs.toArray w R)
  (k:∀e g,R e g->∃v,e= .returned v/\∀h,Fr h n D ((d,v)::σ)->K h g) (l:looks σ xs.toList=some vs:=by kernel_rfl) (m:callable P f=true:=by kernel_rfl) (c:d<n:=by decide):o.wp P a w K Q:=Ae Z b l m i c j k
def jq (Z:Fr a n D σ) (i:Mem W w fs) (vs:List aiN) (v:aiN) {f:FuncId} {xs:Array aiR} {ts:Array aiP} (c:o.op= .call {callee:= .value (.func f),args:=xs,argTypes:=ts}) (j:o.dst=some d)
  (l:Calls P f vs.toArray w (λr b=>r= .returned v/\Below w.heap.size w b)) (k:∀b,Below w.heap.size w b->Mem W b fs->∀g,Fr g n D ((d,v)::σ)->K g b) (m:looks σ xs.toList=some vs:=by kernel_rfl) (p:callable P f=true:=by kernel_rfl) (e:d<n:=by decide):o.wp P a w K Q:=
 Ae Z c m p j e l λ_ b ⟨q,h⟩=>⟨v,q,k b h (i.call h)⟩
def bS (Z:Fr a n D σ) (e:Mem W w fs) (i:Nat) {t:aiP} {x y:aiR} {g m:Nat} {C ds:Array aiN} {tb:aiP} (b:o.op= .store t x y) (f:o.dst=none) (h:look σ x=some (.pointer (some ⟨g,0,none⟩))) (hy:look σ y=some (.agg ds)) (hi:fs[i]?=some (.blk g C tb)) (j:SI P t m) (hc:C.size=m) (hm:ds.size=m) (h1:∀u∈ds.toList,u.oneCell'=true)
  (k:∀c,Mem W c (fs.set i (.blk g ds tb))->K a c):o.wp P a w K Q:=Xg Z e b f h hy j hc hm h1 hi k
end
section
variable {P:aiO} {Q:aiV->Act->aiM->Prop} {a:Act} {W w:aiM} {n d:Nat} {D:List aiU} {σ:List (Nat×aiN)} {o:aiS} {v:aiN} {K:Act->aiM->Prop} {fs:List aiX}
def zms {base:Nat} {e:aiP} {size:Nat} (h:w.ownsRow base e size v m xs) (hm:0<m):∃g c,v= .slice (some ⟨g,0,none⟩) m c/\m<=c:=by
 rcases h.2 with ⟨_,b⟩|⟨g,cap,cur,f,_,_,b,_⟩
 ·omega
 ·exact ⟨g,cap,f,b⟩
def BQ {base:Nat} {e:aiP} {size:Nat} (h:w.ownsRow base e size v m xs):∃A c,v= .slice A m c/\m<=c:=by
 rcases h.2 with ⟨b,f⟩|⟨g,cap,cur,b,_,_,f,_⟩
 ·subst f;exact ⟨_,_,b,abu _⟩
 ·exact ⟨_,cap,b,f⟩
def rO (Z:Fr a n D σ) (h:Mem W w fs) {s x:aiR} {t e:aiP} {z:aiN} {size bytes i b m c B:Nat} {A:aiW} {xs news:List aiN} (j:o.op= .call {callee:= .builtin .append,args:= #[s,x],argTypes:= #[t,t]}) (F:EI P t e z size bytes)
  (hs:look σ s=some v) (G:look σ x=some (.slice A m c)) (hi:fs[i]?=some (.row v b xs e size)) (hr:Rd w B size A m news) (h1:∀u∈news,u.oneCell'=true) (hb:(b+m)*bytes<=140737488355328) (h63:b+m<=9223372036854775807)
  (H:o.dst=some d) (l:d<n) (k:∀y p q f,Fr y n D ((d,.slice q (b+m) f)::σ)->Mem W p (fs.set i (.row (.slice q (b+m) f) (b+m) (xs++news) e size))->b+m<=f->K y p):o.wp P a w K Q:=
 Wx j F (h.own hi) (Z.eval hs) hr (Z.eval G) h1 hb h63 h.size λq f p C I r=>by
  rw [H]
  refine k _ _ _ _ (Z.put l _) (h.append hi C I r) ?_
  rcases C.2 with ⟨E,J⟩|⟨g,cap,cur,E,_,_,J,_⟩
  ·omega
  ·injection E with _ _ L;omega
def xM (σ:List (Nat×aiN)):List (Nat×aiR)->Option (List (Nat×aiN))
 |[]=>some []
 |(i,x)::r=>match look σ x,xM σ r with
  |some v,some b=>some ((i,v)::b)
  |_,_=>none
def Xh (Z:Fr a n D σ):∀{ps:List (Nat×aiR)} {b:List (Nat×aiN)},xM σ ps=some b->ps.map (λp=>(p.1,a.eval p.2))=b
 |[],b,h=>by cases h;rfl
 | (i, x) :: r, b, h => by
  unfold xM at h
  split at h
  ·rename_i v f c e
   injection h with h
   subst h
   rw [acB,Z.eval c,Xh Z e]
  ·cases h
def PO (Z:Fr a n D σ) {ps:Array (Nat×aiR)} {vs:List (Nat×aiN)} (h:xM σ ps.toList=some vs):ps.map (λp=>(p.1,a.eval p.2))=vs.toArray:=by
 rw [<-Xh Z h,<-adi,acO]
def L8 (z:Array aiN) (m:Nat):Array aiN:=(ahf m).map (z[· %z.size]!)
def Xi (Z:Fr a n D σ) (x:Mem W w fs) {t len e:Nat} {ps:Array (Nat×aiR)} {vs:List (Nat×aiN)} {z:aiN} {size bytes:Nat} {C:Array aiN} (f:o.op= .buildSlice t len ps) (h:EI P t e z size bytes) (q:decide (0<len/\len*size<=16777216)=true) (y:xM σ ps.toList=some vs)
  (r:ae5 (λi=>some (i*size,size)) (L8 z.cells (len*size)) vs=some C) (A:o.dst=some d) (j:d<n)
  (k:∀s u g,Fr s n D ((d,.slice (some ⟨g,0,none⟩) len len)::σ)->Mem W u (.blk g C e::fs)->K s u):o.wp P a w K Q:=by
 obtain ⟨i,hi,hz,l,_⟩:=info_parts h.hi
 have b:=h.hs
 simp only [decide_eq_true_eq] at q
 have B:¬len*size=0:=by
  have:=Nat.mul_pos q.1 b
  omega
 have E:¬len*size>2^24:=by omega
 have c:(execOp a.eval o).run P w= .ok (.value (.slice (some ⟨w.heap.size,0,none⟩) len len)) (w.alloc (.cells C e)):=by
  unfold execOp
  have m:=PO Z y
  unfold L8 at r
  simp only [f]
  have e1:(adK t len (ps.map λp=>(p.1,a.eval p.2))).run P w= .ok (.slice (some ⟨w.heap.size,0,none⟩) len len) (w.alloc (.cells C e)):=by
   rw [m]
   unfold adK
   simp only [abI,run_underlying h.ht,abA,sizeOf,typeInfo,program,afn,hi,abS,l,if_neg E,if_neg B,zeroValue,hz,r,newRow,newObj]
   rfl
  simp only [abI,abS]
  show ((adK t len (ps.map λp=>(p.1,a.eval p.2))).run P w).andThen _=_
  rw [e1]
  rfl
 unfold acS
 rw [c,acr,A]
 exact k _ _ _ (Z.put j _) (x.alloc C e)
theorem Mem.L9 (h:Mem W w fs) {i g m c:Nat} {e:aiP} {size:Nat} {xs:List aiN} (hi:fs[i]?=some (.row (.slice (some ⟨g,0,none⟩) m c) m xs e size)) (off:Nat) {ys:List aiN} (hy:∀j u,ys[j]?=some u->xs[off+j]?=some u):w.rangeAt g off ys:=λj u b=>by
 have f:=h.own hi
 have:=f.cells (g:=g) rfl (off+j) u (hy j u b)
 rw [acI,aci] at this
 exact this
theorem Mem.zo2 (h:Mem W w fs) {i g m c:Nat} {e:aiP} {size:Nat} {xs:List aiN} (hi:fs[i]?=some (.row (.slice (some ⟨g,0,none⟩) m c) m xs e size)):w.rangeAt g 0 xs:=h.L9 hi 0 (λj u b=>by rw [aci];exact b)
def Ma (Z:Fr a n D σ) (m:Mem W w fs) {t e:Nat} {z:aiN} {size bytes:Nat} (c:o.op= .buildSlice t 0 #[]) (h:EI P t e z size bytes) (p:o.dst=some d) (f:d<n)
  (k:∀j l g,Fr j n D ((d,.slice (some ⟨g,0,none⟩) 0 0)::σ)->Mem W l (.row (.slice (some ⟨g,0,none⟩) 0 0) 0 [] e size::fs)->K j l):o.wp P a w K Q:=by
 obtain ⟨i,hi,hz,q,_⟩:=info_parts h.hi
 have b:(execOp a.eval o).run P w= .ok (.value (.slice (some ⟨w.heap.size,0,none⟩) 0 0)) (w.alloc (.cells #[] e)):=by
  unfold execOp
  simp only [c]
  have e1:(adK t 0 #[]).run P w= .ok (.slice (some ⟨w.heap.size,0,none⟩) 0 0) (w.alloc (.cells #[] e)):=by
   unfold adK
   simp only [abI,run_underlying h.ht,abA,sizeOf,typeInfo,program,afn,hi,abS,newRow,newObj]
   simp [ae5,show ahf 0= #[] from rfl]
   rfl
  simp only [abI,abS,ac3,adF]
  show ((adK t 0 #[]).run P w).andThen _=_
  rw [e1]
  rfl
 unfold acS
 rw [b,acr,p]
 refine k _ _ w.heap.size (Z.put f _) ?_
 have:=(m.alloc #[] e).fU (i:=0) (size:=size) (n:=0) rfl (by simp) om
 exact this
def Ag:Nat->List aiN->List (Nat×aiN)
 |_,[]=>[]
 |i,v::r=>(i,v)::Ag (i+1) r
def F3:∀(b:List aiN) (i t:Nat) (v:aiN),(Ag i b).lookup t=some v->i<=t/\b[t-i]?=some v
 |[],_,_,_,h=>by cases h
 | u :: r, i, t, v, h => by
  rw [Ag,acR] at h
  split at h
  ·rename_i e
   rw [beq_iff_eq] at e
   subst e
   exact ⟨abu _,by simpa using h⟩
  ·obtain ⟨f,c⟩:=F3 r (i+1) t v h
   refine ⟨by omega,?_⟩
   rw [show t-i=(t- (i+1))+1 by omega,adV]
   exact c
def yI {f:Nat} {fn:Func} {c:Code} (g:P.funcs[f]?=some fn) (hb:fn.body=some c) (h:fn.ntmps=N) (i:decide (abo vs<=N)=true) {σ0:List (Nat×aiN)} (j:Ag 0 vs=σ0)
  (k:∀a,Fr a N [] σ0->c.wp P (bodyPost P fn R) a w):Calls P f vs.toArray w R:=by
 subst j
 rw [decide_eq_true_eq] at i
 refine calls_of_wp g hb (k _ ⟨by simp [h];omega,rfl,λt v l=>?_⟩)
 obtain ⟨_,b⟩:=F3 vs 0 t v l
 rw [afo] at b
 have e:=(abB.1 b).1
 simp only [acQ,adW,ade,if_pos e]
 simp [b]
def vk (c:Array aiN):ResultVar->Sem aiN
 | .tmp t=>pure (c.getD t undef)
 | .cell b t=>do loadVar t (<-asAddr (c.getD b undef))
def mG (P:aiO) (a:Act) (w:aiM) (r:ResultVar) (v:aiN):Prop:=(vk a.tmps r).run P w= .ok v w
def BR (fn:Func) (b:Array aiN):results fn b=(do
 let c<-fn.results.mapM (vk b)
 pure (if h:c.size=1 then c[0] else .tuple c)):=by
 unfold results
 have:vk b=(λ| .tmp t=>pure (b.getD t undef)| .cell a t=>do loadVar t (<-asAddr (b.getD a undef))):=by
  funext r;cases r<;>rfl
 rw [this]
 rfl
theorem mG.tmp {t:Nat} (Z:Fr a n D σ) (h:σ.lookup t=some v):mG P a w (.tmp t) v:=by
 unfold mG vk
 simp only [Z.slot t v h]
 rfl
theorem mG.cellS {b:Nat} (Z:Fr a n D σ) (e:Mem W w fs) (h:σ.lookup b=some (.pointer (some ⟨g,0,none⟩))) (hi:fs[i]?=some (.blk g C tb)) (c:SI P t m) (hm:C.size=m):mG P a w (.cell b t) (.agg C):=by
 obtain ⟨f,j,k⟩:=c.desc
 have l:=run_loadVar_mid (P:=P) w g 0 t C.toList f (qj (e.blk hi)) j k (by rw [c.size,<-hm];simp)
 unfold mG vk
 simp only [Z.slot b _ h]
 simp [asAddr,l]
theorem mG.cell1 {b:Nat} (Z:Fr a n D σ) (c:Mem W w fs) (h:σ.lookup b=some (.pointer (some ⟨g,0,none⟩))) (hi:fs[i]?=some (.blk g C tb)) (ht:gM P t=true) (hc:C[0]?=some v):mG P a w (.cell b t) v:=by
 unfold mG vk
 simp only [Z.slot b _ h]
 simp [asAddr,loadVar,FZ ht,load,afn,c.cell hi hc]
section
variable {fn:Func} {R:aiQ->aiM->Prop}
def iV {v1:aiN} (hr:fn.results= #[r1]) (Z:Fr a n [] σ) (h1:mG P a w r1 v1) (b:R (.returned v1) w):bodyPost P fn R .ret a w:=
 bodyPost_ret (v:=v1) (by
  unfold mG at h1
  rw [BR,hr]
  generalize vk a.tmps=f at*
  simp [h1]) Z.defers b
def dR {b:ResultVar} {v1:aiN} (hr:fn.results= #[r1,b]) (Z:Fr a n [] σ) (h1:mG P a w r1 v1) (c:mG P a w b v2) (e:R (.returned (.tuple #[v1,v2])) w):bodyPost P fn R .ret a w:=
 bodyPost_ret (v:= .tuple #[v1,v2]) (by
  unfold mG at h1 c
  rw [BR,hr]
  generalize vk a.tmps=f at*
  simp [h1,c]) Z.defers e
def iq {b c:ResultVar} {v1:aiN} (hr:fn.results= #[r1,b,c]) (Z:Fr a n [] σ) (h1:mG P a w r1 v1) (e:mG P a w b v2) (g:mG P a w c z) (h:R (.returned (.tuple #[v1,v2,z])) w):bodyPost P fn R .ret a w:=
 bodyPost_ret (v:= .tuple #[v1,v2,z]) (by
  unfold mG at h1 e g
  rw [BR,hr]
  generalize vk a.tmps=f at*
  simp [h1,e,g]) Z.defers h
end
def q38 {c:aiR} {x y:Code} (Z:Fr a n D σ) (hc:look σ c=some (.bool true)) (h:x.wp P Q a w):(afV c x y).wp P Q a w:=wp_cond_true (Z.eval hc) h
def PS {c:aiR} {x y:Code} (Z:Fr a n D σ) (hc:look σ c=some (.bool false)) (h:y.wp P Q a w):(afV c x y).wp P Q a w:=wp_cond_false (Z.eval hc) h
def qy {x y:Code} (R:Act->aiM->Prop) (h:x.wp P (Exit.then R Q) a w) (k:∀a w,R a w->y.wp P Q a w):(Code.seq x y).wp P Q a w:=
 wp_seq (ahg (λe a w b=>by cases e<;>first|exact k _ _ b|exact b) h)
def qg {c:Code} (J:Nat->Act->aiM->Prop) {m:Nat} (A:J m a w) (round:∀k a w,J k a w->c.wp P (Exit.then (λi j=>∃z,z<k/\J z i j) Q) a w):(Code.loop c).wp P Q a w:=by
 intro b r s
 have key:∀m a w,J m a w->∃e i j,Q e i j/\Arrives P (lone (b.at a (.code c:: .inLoop c::r)) s w) b r s e i j:=by
  intro m
  induction m using afb with
  | _ m B =>
   intro a w C
   obtain ⟨e,p,q,g,f⟩:=round m a w C b (.inLoop c::r) s
   cases e with
   |normal=>
    obtain ⟨E,t,u⟩:=g
    obtain ⟨e2,F,G,y,h⟩:=B E t p q u
    exact ⟨e2,F,G,y,.of_steps (Steps.trans f (.one step_inLoop)) h⟩
   |exit id=>exact ⟨_,p,q,g,.pass (x:= .inLoop c) rfl (λ_ _=> .inl (by simp)) f⟩
   |goto l=>exact ⟨_,p,q,g,.pass (x:= .inLoop c) rfl (λ_ _=> .inl (by simp)) f⟩
   |ret=>exact ⟨_,p,q,g,.pass (x:= .inLoop c) rfl (λ_ _=> .inl (by simp)) f⟩
   |panic H=>exact ⟨_,p,q,g,.pass (x:= .inLoop c) rfl (λ_ _=> .inl (by simp)) f⟩
   |outgrown=>exact ⟨_,p,q,g,.pass (x:= .inLoop c) rfl (λ_ _=> .inl (by simp)) f⟩
 obtain ⟨e,i,j,g,f⟩:=key m a w A
 exact ⟨e,i,j,g,.of_steps (.one step_loop) f⟩
end
def putAt (xs:List aiN) (off:Nat) (vs:List aiN):List aiN:=xs.take off++vs++xs.drop (off+abo vs)
theorem Mc {off:Nat} (h:off+abo vs<=abo xs):abo (putAt xs off vs)=abo xs:=by grind [putAt]
theorem Md {off:Nat} (h:off+abo vs<=abo xs) (j:Nat):(putAt xs off vs)[j]?=if off<=j/\j<off+abo vs then vs[j-off]? else xs[j]?:=by grind [putAt,abv,List.getElem?_append_left,List.getElem?_append_right,abx,ab6]
def qji {cur:Array aiN} {e:aiP} (hb:w.heap[g]?=some (.cells cur e (0,0))) (off:Nat) (vs:List aiN) (f:off+abo vs<=cur.size):
  (w.setCells g off vs).heap[g]?=some (.cells (putAt cur.toList off vs).toArray e (0,0)):=by
 have c:cur=(cur.toList.take off++(cur.toList.drop off).take (abo vs)++cur.toList.drop (off+abo vs)).toArray:=by
  apply Array.toList_inj.1
  simp only [abv]
  rw [<-acN,ab8,ab8]
 have b:=Pj g e vs w (cur.toList.take off) (cur.toList.drop (off+abo vs)) ((cur.toList.drop off).take (abo vs)) (by rw [<-c];exact hb) (by simp only [abx,abE,acA];omega)
 rw [abx,acA,ac4 om] at b
 exact b
section
variable {P:aiO} {Q:aiV->Act->aiM->Prop} {a:Act} {W w:aiM} {n d:Nat} {D:List aiU} {σ:List (Nat×aiN)} {o:aiS} {v:aiN} {K:Act->aiM->Prop} {fs:List aiX}
theorem Mem.oM (h:Mem W w fs) {i g m c:Nat} {e:aiP} {size:Nat} {xs:List aiN} (hi:fs[i]?=some (.row (.slice (some ⟨g,0,none⟩) m c) m xs e size)) {off:Nat} {vs:List aiN} (r:off+abo vs<=abo xs):
  Mem W (w.setCells g off vs) (fs.set i (.row (.slice (some ⟨g,0,none⟩) m c) m (putAt xs off vs) e size)):=by
 have B:=h.own hi
 obtain ⟨l,C⟩:=B
 rcases C with ⟨f,_⟩|⟨E,cap,cur,b,z,F,p,s,q,ht⟩
 ·cases f
 ·injection b with b G t
  injection b with b
  injection b with b
  subst b;subst t
  have A:m*size<=cur.size:=by rw [q];exact acy _ p
  refine h.turn hi (below_setCells h.below z off vs) (λk H u=>LK _ _ _ _ _ (λe=>u (by rw [e];rfl))) ?_ (λE x=> .inl x)
  refine ⟨by rw [Mc r];exact l,.inr ⟨g,c,_,rfl,z,qji F off vs om,p,s,?_,?_⟩⟩
  ·rw [ade,Mc (by simpa using (by omega:off+abo vs<=cur.size)),acA,q]
  ·show (putAt cur.toList off vs).take (m*size)=putAt xs off vs
   subst ht
   have y:off+abo vs<=abo cur.toList/\off+abo vs<=m*size:=by
    rw [abx,acA] at r
    rw [acA]
    omega
   apply agB
   intro j
   rw [Md r,adE,adE,Md y.1]
   by_cases f:off<=j/\j<off+abo vs
   ·rw [if_pos f,if_pos om,if_pos f]
   ·rw [if_neg f,if_neg f]
def Me (h:Mem W w fs) {i g m c:Nat} {e:aiP} {size:Nat} {xs:List aiN} (hi:fs[i]?=some (.row (.slice (some ⟨g,0,none⟩) m c) m xs e size)) (off k:Nat) (z:off+k<=abo xs):w.there g off k:=by
 have r:=h.own hi
 obtain ⟨p,s⟩:=r
 rcases s with ⟨t,_⟩|⟨A,cap,cur,b,B,u,f,x,j,ht⟩
 ·cases t
 ·injection b with b y l
  injection b with b
  injection b with b
  subst b;subst l
  have q:m*size<=cur.size:=by rw [j];exact acy _ f
  exact WA u off k om
def zj (Z:Fr a n D σ) (f:Mem W w fs) {t:aiP} {x y:aiR} {i g off m c:Nat} {xs:List aiN} {e:aiP} {size:Nat} (b:o.op= .store t x y) (j:o.dst=none) (l:look σ x=some (.pointer (some ⟨g,off,none⟩))) (hy:look σ y=some v) (hs:(P.info? t).map (·.size)=some 1) (p:v.oneCell'=true)
  (hi:fs[i]?=some (.row (.slice (some ⟨g,0,none⟩) m c) m xs e size)) (q:off<abo xs) (k:∀h,Mem W h (fs.set i (.row (.slice (some ⟨g,0,none⟩) m c) m (putAt xs off [v]) e size))->K a h):o.wp P a w K Q:=by
 have ht:=Me f hi off 1 om 0 om
 rw [acK] at ht
 obtain ⟨u,r⟩:=Option.isSome_iff_exists.1 ht.1
 unfold acS execOp
 simp only [b,Z.eval l,Z.eval hy,abI,Xf hs p r ht.2,abA,abS,aeV,j]
 exact k _ (f.oM hi (vs:=[v]) q)
def Xj (Z:Fr a n D σ) (HM:Mem W w fs) {s x:aiR} {t e:aiP} {z:aiN} {size bytes f cap m c B B':Nat} {A E:aiW} {xs news:List aiN} (N:o.op= .call {callee:= .builtin .append,args:= #[s,x],argTypes:= #[t,t]}) (M:EI P t e z size bytes)
  (hs:look σ s=some (.slice A f cap)) (hx:look σ x=some (.slice E m c)) (l:Rd w B size A f xs) (hr:Rd w B' size E m news) (hm:0<m) (hg:cap<f+m) (r:A=none->f=0/\cap=0) (hb:(f+m)*bytes<=140737488355328) (h63:f+m<=9223372036854775807)
  (hd:o.dst=some d) (O:d<n) (k:∀a' F g p,Fr a' n D ((d,.slice (some ⟨g,0,none⟩) (f+m) p)::σ)->Mem W F (.row (.slice (some ⟨g,0,none⟩) (f+m) p) (f+m) (xs++news) e size::fs)->f+m<=p->K a' F):o.wp P a w K Q:=by
 obtain ⟨i,hi,hz,y,H⟩:=info_parts M.hi
 obtain ⟨R,S,_,h⟩:=hr.row hm
 subst S
 have q:abo (xs++news)=(f+m)*size:=by rw [abq,l.len,hr.len,aeo]
 obtain ⟨p,F,I,T⟩:∃p F,(ac9 #[t,t] o.type #[.slice A f cap,.slice (some R) m c]).run P w= .ok (.slice (some ⟨w.heap.size,0,none⟩) (f+m) p) F/\
   (f+m<=p/\p<=maxLen/\F=w.drew.alloc (.cells (xs.toArray++news.toArray++ab2 z.cells (p- (f+m))) e)):=by
  cases A with
  |none=>
   obtain ⟨rfl,rfl⟩:=r rfl
   have U:xs=[]:=acu (by simpa using l.len)
   subst U
   have C:=run_append_nil (P:=P) w t o.type e i z M.ht hi hz R m c news (by rw [y];exact hr.len) h hm om (by rw [H];rw [aci] at hb;omega)
   refine ⟨_,_,by rw [aci];exact C,?_,?_,?_⟩
   ·rw [aci];exact grownCap_ge w m 0 e
   ·exact grownCap_le_maxLen w m 0 e (by unfold maxLen;omega)
   ·simp
  | some b =>
   have holds:∀j u,xs[j]?=some u->w.cell? (b.add j)=some u:=by
    intro j u V
    rcases ach f with X|X
    ·have J:=l.len
     rw [X,af9] at J
     rw [acu J] at V
     simp at V
    ·obtain ⟨ad',G,_,Y⟩:=l.row X
     injection G with G
     subst G
     exact Y j u V
   have C:=run_append_grow (P:=P) w t o.type e i z M.ht hi hz b f cap xs (by rw [y];exact l.len) holds R m c news (by rw [y];exact hr.len) h hg om (by rw [H];exact growslice_fits hg hb)
   exact ⟨_,_,C,grownCap_ge w (f+m) cap e,grownCap_le_maxLen w (f+m) cap e (by unfold maxLen;omega),rfl⟩
 obtain ⟨G,Y,rfl⟩:=T
 have L:(w.drew.alloc (.cells (xs.toArray++news.toArray++ab2 z.cells (p- (f+m))) e)).ownsRow w.heap.size e size (.slice (some ⟨w.heap.size,0,none⟩) (f+m) p) (f+m) (xs++news):=by
  refine ⟨q,.inr ⟨w.heap.size,_,_,rfl,abu _,ad6 w.drew _,G,Y,?_,?_⟩⟩
  ·simp only [afg,ade,size_zeroCells,M.hz,l.len,hr.len,<-aeo]
   congr 1
   omega
  ·simp only [agd,abv]
   rw [<-abv,<-q]
   exact adO
 unfold acS execOp
 simp only [N,resolve,invoke,builtin,abI,abS,abA,ac3,acB,adF,Z.eval hs,Z.eval hx,I]
 rw [acr,hd]
 exact k _ _ w.heap.size p (Z.put O _) (HM.cZ ((ad2 _ _).drew.alloc (by simp) _) L) G
theorem Mem.dG (h:Mem W w fs) {i m:Nat} {e:aiP} {size:Nat} {xs ys:List aiN} (hi:fs[i]?=some (.row v m xs e size)) (b:xs=ys):Mem W w (fs.set i (.row v m ys e size)):=by grind [abB,adY]
end
def PU {α:Type} (f:α->List aiN) (sz:Nat) (b:∀x,abo (f x)=sz):∀(l:List α) (k:Nat) (x:α),k<abo l->putAt (l.flatMap f) (k*sz) (f x)=(l.set k x).flatMap f
 |[],k,x,h=>by simp at h
 |y::r,0,x,h=>by
  unfold putAt
  rw [af9,aci,b,abR,afz,abR,List.take_zero,acZ,List.drop_append_of_le_length (by rw [b];exact abu _),acs (by rw [b];exact abu _),acZ]
 | y :: r, k + 1, x, h => by
  have c:=PU f sz b r k x (by simpa using h)
  unfold putAt at c⊢
  rw [abR,agt,abR,<-c,adI]
  have e1:(f y++r.flatMap f).take (k*sz+sz)=f y++(r.flatMap f).take (k*sz):=by
   rw [aft,abL (by rw [b];omega),b,Nat.add_sub_cancel]
  have e2:(f y++r.flatMap f).drop (k*sz+sz+abo (f x))=(r.flatMap f).drop (k*sz+abo (f x)):=by
   rw [afu,acs (by rw [b];omega),acZ,b y]
   congr 1
   omega
  rw [e1,e2]
  simp only [abv]
def vo {α:Type} (f:α->List aiN) (sz:Nat) (b:∀x,abo (f x)=sz) (l:List α) (k:Nat) (y x:α) (hk:l[k]?=some y) (off:Nat) (p:off<sz) (v:aiN) (q:f x=(f y).set off v):putAt (l.flatMap f) (k*sz+off) [v]=(l.set k x).flatMap f:=by
 obtain ⟨g,r⟩:=abB.1 hk
 rw [<-PU f sz b l k x g,q]
 have h:=rJ f sz b l
 have s:k*sz+sz<=abo l*sz:=by rw [<-adI];exact acy _ g
 have c:abo ((f y).set off v)=sz:=by rw [abK,b]
 apply agB
 intro j
 rw [Md (by rw [ae6];omega),Md (by rw [c];omega),c,ae6]
 by_cases i:k*sz<=j/\j<k*sz+sz
 ·rw [if_pos i]
  have e:=Eb f sz b l k (j-k*sz) g om
  rw [r,show k*sz+(j-k*sz)=j by omega] at e
  by_cases m:k*sz+off<=j/\j<k*sz+off+1
  ·obtain rfl:j=k*sz+off:=by omega
   rw [if_pos m,aeg,show k*sz+off-k*sz=off by omega,adf (by rw [b];exact p)]
   rfl
  ·rw [if_neg m,e,List.getElem?_set_ne om]
 ·rw [if_neg i,if_neg om]
theorem Mem.qw (h:Mem W w fs) {α:Type} {f:α->List aiN} {sz:Nat} (p:∀x,abo (f x)=sz) {i g m c:Nat} {e:aiP} {l:List α} (hi:fs[i]?=some (.row (.slice (some ⟨g,0,none⟩) m c) m (l.flatMap f) e sz)) {k off:Nat} {x:α} {v:aiN} (hk:l[k]?=some x) (q:(f x)[off]?=some v):w.cell? ⟨g,k*sz+off,none⟩=some v:=by
 obtain ⟨r,s⟩:=abB.1 hk
 have t:off<sz:=by have:=(abB.1 q).1;rwa [p] at this
 have:=h.L9 hi (k*sz+off) (ys:=[v]) (λj u b=>by
  cases j with
  |zero=>
   injection b with b
   subst b
   rw [acK,Eb f sz p l k off r t,s]
   exact q
  |succ j=>cases b)
 exact this 0 v rfl
section
variable {P:aiO} {Q:aiV->Act->aiM->Prop} {a:Act} {W w:aiM} {n d:Nat} {D:List aiU} {σ:List (Nat×aiN)} {o:aiS} {K:Act->aiM->Prop} {fs:List aiX}
def qma (w:aiM) (a:Addr) (n k:Nat) (h:k≠a.block):(w.freeze a n).heap[k]?=w.heap[k]?:=by
 unfold afW
 split
 ·rfl
 ·simp only [aeY]
  rw [if_neg om]
def below_freeze {W w:aiM} (h:Below B W w) {a:Addr} (b:B<=a.block) (n:Nat):Below B W (w.freeze a n):=by
 refine h.trans ⟨?_,?_,?_,?_,λk c=>qma _ _ _ _ om⟩<;>unfold afW<;>split<;>simp
def qvw {w:aiM} {g m:Nat} {e:aiP} (hb:w.heap[g]?=some (.cells C e (0,0))):(w.freeze ⟨g,m,none⟩ 1).heap[g]?=some (.cells C e (m,m+1)):=by
 unfold afW
 rw [if_neg de]
 simp [aeY,hb]
def zgt (Z:Fr a n D σ) (b:Mem W w fs) (i:Nat) {t e:aiP} {x:aiR} {g m c:Nat} {C:Array aiN} {te:aiP} (f:o.op= .convert t t x) (v:look σ x=some (.slice (some ⟨g,0,none⟩) m c)) (hi:fs[i]?=some (.blk g C te)) (ht:P.underlying t=some (.slice e)) (y:P.underlying e=some (.int .u8)) (z:o.dst=some d) (h:d<n)
  (k:∀q r,Fr q n D ((d,.slice (some ⟨g,0,none⟩) m c)::σ)->Mem W r (fs.set i (.obj g (.cells C te (C.size,C.size+1))))->K q r):o.wp P a w K Q:=by
 have s:=b.blk hi
 have u:=b.holds _ (abJ hi)
 have j:w.shape? g=some (te,C.size):=by unfold afX;rw [s]
 have A:(execOp a.eval o).run P w= .ok (.value (.slice (some ⟨g,0,none⟩) m c)) (w.freeze ⟨g,C.size,none⟩ 1):=by
  unfold execOp
  simp [f,Z.eval v,convert,run_underlying ht,run_underlying y,markStringish,j]
 unfold acS
 rw [A,acr,z]
 refine k _ _ (Z.put h _) (b.turn hi (below_freeze b.below u.1 1) (λk B l=>qma _ _ _ _ (λe=>l (by rw [e];rfl))) ⟨u.1,qvw s⟩ (λE p=> .inl p))
theorem Mem.wB (h:Mem W w fs) {i g:Nat} {C:Array aiN} {t:aiP} {q:Nat×Nat} {size n:Nat} (hi:fs[i]?=some (.obj g (.cells C t q))) (c:C.size=n*size):Rd w w.heap.size size (some ⟨g,0,none⟩) n C.toList:=
 have b:w.heap[g]?=some (.cells C t q):=(h.holds _ (abJ hi)).2
 ⟨by simpa using c,λ_=>⟨_,rfl,z8 b,λj u e=>by
  rw [acI,aci]
  simp only [aef,b]
  simpa using e⟩⟩
end
section
variable {w:aiM} {B size n:Nat} {A:aiW} {xs:List aiN} {g o:Nat}
theorem Rd.Xk (h:Rd w B size A n xs) (e:0<n) (hs:0<size):∃g o,A=some ⟨g,o,none⟩/\g<B:=by
 obtain ⟨f,rfl,i,hc⟩:=h.row e
 have j:=h.len
 have k:n*size>=1*1:=Nat.mul_le_mul e hs
 have b:=q3l (hc 0 _ (abr om))
 have c:f.spot=none:=by simpa [Addr.add] using b
 obtain ⟨g,o,sp⟩:=f
 cases c
 exact ⟨g,o,rfl,i⟩
theorem Rd.sat (h:Rd w B size A n xs) (k:Nat) (hk:k<n:=by omega) (hs:0<size:=by decide):∃g o,A=some ⟨g,o,none⟩/\g<B:=h.Xk (agw (abz _) hk) hs
theorem Rd.range (h:Rd w B size (some ⟨g,o,none⟩) n xs):w.rangeAt g o xs:=λj u b=>by
 have f:=(abB.1 b).1
 rcases ach n with rfl|c
 ·have:=h.len;omega
 ·obtain ⟨i,e,k,hc⟩:=h.row c
  injection e with e
  subst e
  have:=hc j u b
  rwa [acI] at this
theorem Rd.BS (h:Rd w B 1 (some ⟨g,o,none⟩) n xs) {k:Nat} {u:aiN} (b:xs[k]?=some u):w.cell? ⟨g,o+k*1,none⟩=some u:=by rw [ac0];exact h.range k u b
theorem Rd.vv {α:Type} {f:α->List aiN} (b:∀x,abo (f x)=size) {l:List α} (h:Rd w B size (some ⟨g,o,none⟩) n (l.flatMap f)) {k:Nat} {x:α} (hk:l[k]?=some x):w.rangeAt g (o+k*size) (f x):=λj u c=>by
 obtain ⟨i,m⟩:=abB.1 hk
 have p:j<size:=by have:=(abB.1 c).1;rwa [b] at this
 have e:=h.range (k*size+j) u ((Eb f size b l k j i p).trans (by rw [m];exact c))
 rw [<-afe] at e
 exact e
theorem Rd.partAt {α:Type} {f:α->List aiN} (b:∀x,abo (f x)=size) {l:List α} (h:Rd w B size (some ⟨g,o,none⟩) n (l.flatMap f)) {k j:Nat} {x:α} {u:aiN} (hk:l[k]?=some x) (c:(f x)[j]?=some u):w.cell? ⟨g,o+k*size+j,none⟩=some u:=h.vv b hk j u c
end
section
variable {W w:aiM} {fs:List aiX}
theorem Mem.Xm (h:Mem W w fs) {i g m c:Nat} {e:aiP} {xs:List aiN} (hi:fs[i]?=some (.row (.slice (some ⟨g,0,none⟩) m c) m xs e 1)) {k:Nat} {u:aiN} (b:xs[k]?=some u):w.cell? ⟨g,k*1,none⟩=some u:=by
 have f:=h.zo2 hi k u b
 rwa [aci,<-ac0 k] at f
def iW {A:aiW} {n m c:Nat} (h:n=m):Value.slice A n c= .slice A m c:=by rw [h]
theorem Mem.bC (h:Mem W w fs) {i n m:Nat} {A:aiW} {c size:Nat} {e:aiP} {xs ys:List aiN} (hi:fs[i]?=some (.row (.slice A n c) n xs e size)) (b:n=m) (f:xs=ys):Mem W w (fs.set i (.row (.slice A m c) m ys e size)):=by grind [abB,adY]
end
def vw {α:Type} {F:α->aiN} {l:List α} {k:Nat} {x:α} (h:l[k]?=some x):(l.map F)[k]?=some (F x):=by rw [acM,h];rfl
section
variable {P:aiO} {Q:aiV->Act->aiM->Prop} {a:Act} {W w:aiM} {n d:Nat} {D:List aiU} {σ:List (Nat×aiN)} {o:aiS} {K:Act->aiM->Prop} {fs:List aiX}
def zie (Z:Fr a n D σ) (E:Mem W w fs) {t e:Nat} {l c:aiR} {z:aiN} {size bytes m:Nat} {v x:aiT} (p:o.op= .makeSlice t l c) (y:EI P t e z size bytes) (F:look σ l=some (.int v 0)) (hc:look σ c=some (.int x (m:Int))) (hb:bytes*m<=281474976710656) (h63:m<=9223372036854775807) (G:o.dst=some d) (q:d<n)
  (k:∀C j g,Fr C n D ((d,.slice (some ⟨g,0,none⟩) 0 m)::σ)->Mem W j (.row (.slice (some ⟨g,0,none⟩) 0 m) 0 [] e size::fs)->K C j):o.wp P a w K Q:=by
 obtain ⟨i,hi,hz,r,s⟩:=info_parts y.hi
 obtain ⟨j,b,f,u⟩:=run_make_own (P:=P) w w.heap.size t e i z size y.ht hi hz r v x m (by rw [s];exact hb) h63 (abu _)
 have e1:(execOp a.eval o).run P w= .ok (.value (.slice (some ⟨w.heap.size,0,none⟩) 0 m)) j:=by
  unfold execOp
  simp only [p,Z.eval F,Z.eval hc,abI]
  rw [b]
  rfl
 unfold acS
 rw [e1,acr,G]
 exact k _ _ _ (Z.put q _) (E.cZ ((ad2 _ _).grown u (abu _) (λ_ h=>by cases h)) f)
def xO (Z:Fr a n D σ) (E:Mem W w fs) {t e:Nat} {l c:aiR} {z:aiN} {size bytes m:Nat} {v x:aiT} (p:o.op= .makeSlice t l c) (y:EI P t e z size bytes) (F:look σ l=some (.int v (m:Int))) (hc:look σ c=some (.int x (m:Int))) (hb:bytes*m<=281474976710656) (h63:m<=9223372036854775807) (G:o.dst=some d) (q:d<n)
  (k:∀C j g,Fr C n D ((d,.slice (some ⟨g,0,none⟩) m m)::σ)->Mem W j (.row (.slice (some ⟨g,0,none⟩) m m) m (madeCells z.cells (m*size)).toList e size::fs)->K C j):o.wp P a w K Q:=by
 obtain ⟨i,hi,hz,r,s⟩:=info_parts y.hi
 obtain ⟨j,b,f,u⟩:=run_make_full (P:=P) w w.heap.size t e i z size y.ht hi hz r v x m (by rw [s];exact hb) h63 (abu _)
 have e1:(execOp a.eval o).run P w= .ok (.value (.slice (some ⟨w.heap.size,0,none⟩) m m)) j:=by
  unfold execOp
  simp only [p,Z.eval F,Z.eval hc,abI]
  rw [b]
  rfl
 unfold acS
 rw [e1,acr,G]
 exact k _ _ _ (Z.put q _) (E.cZ ((ad2 _ _).grown u (abu _) (λ_ h=>by cases h)) f)
end
theorem Rd.pre {r:List Nat} (h:Rd w B 1 A m ((l++r).map B8)) (b:abo l=n) (hm:n<=m):Rd w B 1 A n (l.map B8):=by
 have c:=h.upto hm
 rwa [ac0,abZ,List.take_append_of_le_length (by simp [b]),abL (by simp [b])] at c
theorem Mem.sub (h:Mem W w fs) {i g:Nat} {C:Array aiN} {t:aiP} (hi:fs[i]?=some (.blk g C t)) (off:Nat) {ds:Array aiN} (b:(C.toList.drop off).take ds.size=ds.toList):w.rangeAt g off ds.toList:=λj u a=>by
 have c:w.rangeAt g 0 C.toList:=qj (h.blk hi)
 have hc:C.toList[off+j]?=some u:=by
  rw [<-b,adE] at a
  split at a
  ·rwa [List.getElem?_drop] at a
  ·cases a
 have:=c (off+j) u hc
 rwa [aci] at this
def Mf {α:Type} (F:α->aiN) (l:List α) (k:Nat) (x:α) (hk:k<abo l):putAt (l.map F) (k*1) [F x]=(l.set k x).map F:=by
 have b:∀l:List α,l.map F=l.flatMap λx=>[F x]:=λl=>by induction l with
  |nil=>rfl
  |cons a r c=>rw [acB,abR,c];rfl
 rw [b,b,<-PU (λx=>[F x]) 1 (λ_=>rfl) l k x hk]
section
variable {P:aiO} {S:aiM->Prop} {σ:List (Nat×aiN)} {o:aiS}
end
theorem Rd.BU {k:Nat} (h:Rd w B 1 A n (l.map B8)) (hk:k<=n):Rd w B 1 A k ((l.take k).map B8):=by
 have a:=h.upto hk
 rwa [ac0,<-aha] at a
def aZ (x:Int):aiN:= .int .i64 x
theorem Mem.PV {fs':List aiX} (h:Mem W w fs) (n:Nat) (c:List Nat) (o:c.Nodup) (d:(c.all (· <n))=true) (p:Go.Proofs.YtekiimhdnigmcaaGreatDoor.picks fs c++fs.drop n=fs'):Mem W w fs':=by
 subst p
 refine ⟨h.below,λf a=>?_,agf.2 ⟨LW h.apart o,?_,?_⟩⟩
 ·rcases acg.1 a with a|a
  ·obtain ⟨j,_,e⟩:=afy.1 a
   exact h.holds f (abJ e)
  ·exact h.holds f (abU a)
 ·exact h.apart.sublist (List.drop_sublist _ _)
 ·intro f a g q
  obtain ⟨j,e,k⟩:=afy.1 a
  have r:j<n:=by simpa using ace.1 d j e
  obtain ⟨i,hi,b⟩:=acp q
  rw [List.getElem_drop] at b
  rw [abE] at hi
  obtain ⟨l,m⟩:=abB.1 k
  have:=acC.1 h.apart j (n+i) l om om
  rwa [m,b] at this
section
open Go.MapKept
section
variable {P:aiO} {Q:aiV->Act->aiM->Prop} {a:Act} {W w:aiM} {n d:Nat} {D:List aiU} {σ:List (Nat×aiN)} {o:aiS} {K:Act->aiM->Prop} {fs:List aiX} {S:aiM->Prop}
theorem Mem.jC (h:Mem W w fs) {i g:Nat} {b:Obj} (hi:fs[i]?=some (.obj g b)):w.heap[g]?=some b:=(h.holds _ (abJ hi)).2
theorem Mem.setObj (h:Mem W w fs) {i g:Nat} {q:Obj} (hi:fs[i]?=some (.obj g q)) (c:Obj):Mem W {w with heap:=w.heap.setIfInBounds g c} (fs.set i (.obj g c)):=by
 have f:=h.holds _ (abJ hi)
 have j:=z8 f.2
 have b:∀k,k≠g->(w.heap.setIfInBounds g c)[k]?=w.heap[k]?:=λk l=>Array.getElem?_setIfInBounds_ne (Ne.symm l)
 refine h.turn hi ⟨h.below.os,h.below.tape,h.below.output,by simpa using h.below.size,λk l=>?_⟩ (λk _ m=>b k (λe=>m (by rw [e];rfl))) ⟨f.1,?_⟩ (λr p=> .inl p)
 ·have:=f.1
  exact (b k om).trans (h.below.block k l)
 ·show (w.heap.setIfInBounds g c)[g]?=some c
  rw [Array.getElem?_setIfInBounds_self]
  simp [j]
def q39 (Z:Fr a n D σ) (h:Mem W w fs) {t:aiP} (b:o.op= .makeMap t none) (i:o.dst=some d) (c:d<n)
  (k:∀e f g,Fr e n D ((d,.map (some g))::σ)->Mem W f (.obj g (.map #[] 0)::fs)->K e f):o.wp P a w K Q:=by
 have e1:(execOp a.eval o).run P w= .ok (.value (.map (some w.heap.size))) (w.alloc (.map #[] 0)):=by
  unfold execOp
  simp only [b,abI]
  rfl
 unfold acS
 rw [e1,acr,i]
 exact k _ _ _ (Z.put c _) (h.mU _)
def Xn (Z:Fr a n D σ) (e:Mem W w fs) {t kt et:aiP} {kd:TypeDesc} {m x y:aiR} {i g clock:Nat} {es:Array MapEntry} {key val:aiN} (b:o.op= .mapUpdate t m x y\/o.op= .insert t m x y) (j:o.dst=none) (ht:P.underlying t=some (.map kt et)) (hk:P.underlying kt=some kd)
  (hm:look σ m=some (.map (some g))) (l:look σ x=some key) (hy:look σ y=some val) (hi:fs[i]?=some (.obj g (.map es clock))) (c:IsKey kd key) (p:Instr.findNow kd key es.toList 0=some none)
  (k:∀f,Mem W f (fs.set i (.obj g (.map (es.push {key,val,born:=clock}) (clock+1))))->K a f):o.wp P a w K Q:=by
 have h:=e.jC hi
 have e1:(agH t (.map (some g)) key val).run P w= .ok () {w with heap:=w.heap.setIfInBounds g (.map (es.push {key,val,born:=clock}) (clock+1))}:=by
  unfold agH
  simp only [abI,run_underlying ht,abA,aez h,run_checkKey hk c,run_findKey hk p,MapKept.run_setObj_map _ h]
 unfold acS execOp
 rcases b with b|b<;>simp only [b,Z.eval hm,Z.eval l,Z.eval hy,abI,e1,abA,abS,aeV,j]
 ·exact k _ (e.setObj hi _)
 ·exact k _ (e.setObj hi _)
def aaO {kt et:aiP} {kd:TypeDesc} {m:aiR} {clock j:Nat} {es:Array MapEntry} {key v:aiN} (c:o.op= .lookup t m x false) (ht:P.underlying t=some (.map kt et)) (hk:P.underlying kt=some kd) (hm:look σ m=some (.map (some g))) (e:look σ x=some key) (hb:∀w,S w->w.heap[g]?=some (.map es clock)) (b:IsKey kd key) (f:ag1 kd key es.toList 0=some (some (j,v))):
  Yl P S σ o v:=λa n D Z w h=>by
 have e1:(afh t (.map (some g)) key false).run P w= .ok v w:=by
  unfold afh
  simp only [abI,run_underlying ht,abA,aez (hb w h),abS,run_checkKey hk b,run_findKey hk f]
  rfl
 unfold execOp
 simp only [c,Z.eval hm,Z.eval e,abI,e1,abA,abS]
def abg {kt et:aiP} {kd:TypeDesc} {m:aiR} {clock:Nat} {es:Array MapEntry} {key:aiN} (c:o.op= .lookup t m x false) (ht:P.underlying t=some (.map kt et)) (hk:P.underlying kt=some kd) (hm:look σ m=some (.map (some g))) (f:look σ x=some key) (hb:∀w,S w->w.heap[g]?=some (.map es clock)) (b:IsKey kd key) (h:ag1 kd key es.toList 0=some none) (hz:(P.info? et).bind (·.zero)=some z):
  Yl P S σ o z:=λa n D Z w i=>by
 obtain ⟨j,hi,e⟩:=adh.1 hz
 have e1:(afh t (.map (some g)) key false).run P w= .ok z w:=by
  unfold afh
  simp only [abI,run_underlying ht,abA,aez (hb w i),abS,run_checkKey hk b,run_findKey hk h,zeroValue,typeInfo,program,afn,hi,e]
  rfl
 unfold execOp
 simp only [c,Z.eval hm,Z.eval f,abI,e1,abA,abS]
def Yl.makeFunc {fn:Fn} {xs ys:Array aiR} {fst:List aiN} (b:o.op= .makeFunc fn xs ys) (c:looks σ xs.toList=some fst) (hy:looks σ ys.toList=some caps):Yl P S σ o (.func fn fst.toArray caps.toArray):=λa n D Z w e=>by
 have e1:xs.map a.eval=fst.toArray:=by
  have:=Ad Z c
  rw [<-this,<-adi,acO]
 have e2:ys.map a.eval=caps.toArray:=by
  have:=Ad Z hy
  rw [<-this,<-adi,acO]
 unfold execOp
 simp only [b,Instr.makeFunc,abI,abS,abA]
 show Result.ok (Next.value (.func fn (adB a.eval xs) (adB a.eval ys))) w=_
 rw [e1,e2]
def zh (Z:Fr a n D σ) {fo:aiR} {f:FuncId} {xs:Array aiR} {ts:Array aiP} {vs fst caps:List aiN} {R:aiQ->aiM->Prop} (c:o.op= .call {callee:= .value fo,args:=xs,argTypes:=ts}) (g:look σ fo=some (.func (.func f) fst.toArray caps.toArray)) (j:looks σ xs.toList=some vs) (l:callable P f=true) (m:o.dst=some d) (h:d<n)
  (p:Calls P f (fst++vs++caps).toArray w R) (k:∀e b,R e b->∃v,e= .returned v/\∀i,Fr i n D ((d,v)::σ)->K i b):o.wp P a w K Q:=by
 have e1:xs.map a.eval=vs.toArray:=by
  have:=Ad Z j
  rw [<-this,<-adi,acO]
 unfold acS execOp
 simp only [c,resolve,Z.eval g,adH,invoke,abI,abS,abA]
 have e3:fst.toArray++adB a.eval xs++caps.toArray=(fst++vs++caps).toArray:=by simp [e1]
 show afU P o a K Q (((callFunc f (fst.toArray++adB a.eval xs++caps.toArray)).run P w))
 rw [e3,El l,afF]
 refine p.mono λe b q=>?_
 obtain ⟨v,rfl,r⟩:=k e b q
 show K (a.put o.dst v) b
 rw [m]
 exact r _ (Z.put h v)
end
end
def kN:acw->Nat
 | .i8=>127| .i16=>32767| .i32=>2147483647| .i64=>9223372036854775807
 | .u8=>255| .u16=>65535| .u32=>4294967295| .u64=>18446744073709551615
theorem xP (k:acw) {m:Nat} (h:m<=kN k):adk k (m:Int)=(m:Int):=by
 cases k<;>simp only [kN] at h
 ·exact IntWalk.i8_in _ om
 ·exact IntWalk.i16_in _ om
 ·exact IntWalk.i32_in _ om
 ·exact agD _ om
 ·exact IntWalk.u8_in _ om
 ·exact IntWalk.u16_in _ om
 ·exact IntWalk.u32_in _ om
 ·exact IntWalk.u64_in _ om
def zc {x:Int} (h:x=(m:Int)) (hb:m<=9223372036854775807):abT .i64 (Go.IntKind.i64.wrap x)= .int .i64 (m:Int):=by subst h;rw [xP .i64 hb]
def xQ {x:Int} (h:x=(m:Int)) (hb:m<=18446744073709551615):abT .u64 (Go.IntKind.u64.wrap x)= .int .u64 (m:Int):=by subst h;rw [xP .u64 hb]
def BX {x:Int} (h:x=(m:Int)) (hb:m<=4294967295):abT .u32 (Go.IntKind.u32.wrap x)= .int .u32 (m:Int):=by subst h;rw [xP .u32 hb]
def Xp {x:Int} (h:x=(m:Int)) (hb:m<=255):abT .u8 (Go.IntKind.u8.wrap x)= .int .u8 (m:Int):=by subst h;rw [xP .u8 hb]
def Em (m:Nat):abT .u8 (Go.IntKind.u8.wrap (m:Int))= .int .u8 ((m%256:Nat):Int):=by
 rw [Go.IntKind.wrap_u8];simp
def Xq (m:Nat):abT .u32 (Go.IntKind.u32.wrap (m:Int))= .int .u32 ((m%4294967296:Nat):Int):=by
 rw [Go.IntKind.wrap_u32];simp
def zi (k:acw) (m n:Nat):abT k (Int.tmod (m:Int) (n:Int))= .int k ((m%n:Nat):Int):=by rw [Int.tmod_eq_emod_of_nonneg om];rfl
def zbb (k:acw) {m:Nat} (n:Nat) (h:m<=kN k):abT k (adk k (Int.tdiv (m:Int) (n:Int)))= .int k ((m/n:Nat):Int):=by
 rw [Int.tdiv_eq_ediv_of_nonneg om,show ((m:Int)/ (n:Int))=((m/n:Nat):Int) from rfl,xP k (ada (afa _ _) h)]
theorem uI (k:acw) (m:Nat) {j:Nat} {p:Int} {q:Nat} (a:p=(j:Int)) (b:2^ (min p.toNat k.bits)=q):abT k (Int.fdiv (m:Int) (2^ (min p.toNat k.bits)))= .int k ((m/q:Nat):Int):=by grind
theorem PW (w:Nat) {m:Nat} (h:m<2^w):(ab0 w (m:Int)).toNat=m:=by grind
theorem zif (k:acw) {m n:Nat} (hm:m<2^k.bits) (a:n<2^k.bits) (hr:m&&&n<=kN k):abT k (adk k (ab0 k.bits (m:Int)&&&ab0 k.bits (n:Int)).toNat)= .int k ((m&&&n:Nat):Int):=by grind [PW,xP]
theorem PX (k:acw) {m n:Nat} (hm:m<2^k.bits) (a:n<2^k.bits) (hr:m|||n<=kN k):abT k (adk k (ab0 k.bits (m:Int)|||ab0 k.bits (n:Int)).toNat)= .int k ((m|||n:Nat):Int):=by grind [PW,xP]
theorem zig (k:acw) {m n:Nat} (hm:m<2^k.bits) (a:n<2^k.bits) (hr:m^^^n<=kN k):abT k (adk k (ab0 k.bits (m:Int)^^^ab0 k.bits (n:Int)).toNat)= .int k ((m^^^n:Nat):Int):=by grind [PW,xP]
def Xr (k:acw) {m j n:Nat} (b:n=2^j-1) (c:2^j-1<=kN k) (hm:m<2^k.bits) (a:n<2^k.bits):abT k (adk k (ab0 k.bits (m:Int)&&&ab0 k.bits (n:Int)).toNat)= .int k ((m%2^j:Nat):Int):=by
 subst b
 have h:=Nat.and_two_pow_sub_one_eq_mod m j
 rw [zif k hm a (by rw [h];have:=ad1 m (ag2 j);omega),h]
def zmt {m n:Nat} (hm:m<4294967296) (a:n<4294967296):abT .u32 (Go.IntKind.u32.wrap (ab0 Go.IntKind.u32.bits (m:Int)|||ab0 Go.IntKind.u32.bits (n:Int)).toNat)= .int .u32 ((m|||n:Nat):Int):=
 PX .u32 (by show m<4294967296;omega) (by show n<4294967296;omega) (by have h:m|||n<4294967296:=afm (n:=32) (by simpa using hm) (by simpa using a);show _<=4294967295;omega)
def Mg {m n:Nat} (hm:m<4294967296) (a:n<4294967296):abT .u32 (Go.IntKind.u32.wrap (ab0 Go.IntKind.u32.bits (m:Int)^^^ab0 Go.IntKind.u32.bits (n:Int)).toNat)= .int .u32 ((m^^^n:Nat):Int):=
 zig .u32 (by show m<4294967296;omega) (by show n<4294967296;omega) (by have h:m^^^n<4294967296:=Nat.xor_lt_two_pow (n:=32) (by simpa using hm) (by simpa using a);show _<=4294967295;omega)
def Xt {j:Nat} (a:n=2^j-1) (b:n<4294967296) (hm:m<4294967296):abT .u32 (Go.IntKind.u32.wrap (ab0 Go.IntKind.u32.bits (m:Int)&&&ab0 Go.IntKind.u32.bits (n:Int)).toNat)= .int .u32 ((m%2^j:Nat):Int):=
 Xr .u32 a (by rw [<-a];show n<=4294967295;omega) (by show m<4294967296;omega) (by show n<4294967296;omega)
def Xu {m n:Nat} (hm:m<18446744073709551616) (a:n<18446744073709551616):abT .u64 (Go.IntKind.u64.wrap (ab0 Go.IntKind.u64.bits (m:Int)|||ab0 Go.IntKind.u64.bits (n:Int)).toNat)= .int .u64 ((m|||n:Nat):Int):=
 PX .u64 (by show m<18446744073709551616;omega) (by show n<18446744073709551616;omega) (by have h:m|||n<18446744073709551616:=afm (n:=64) (by simpa using hm) (by simpa using a);show _<=18446744073709551615;omega)
def Mh {j:Nat} (a:n=2^j-1) (b:n<18446744073709551616) (hm:m<18446744073709551616):abT .u64 (Go.IntKind.u64.wrap (ab0 Go.IntKind.u64.bits (m:Int)&&&ab0 Go.IntKind.u64.bits (n:Int)).toNat)= .int .u64 ((m%2^j:Nat):Int):=
 Xr .u64 a (by rw [<-a];show n<=18446744073709551615;omega) (by show m<18446744073709551616;omega) (by show n<18446744073709551616;omega)
def zmu {m n:Nat} (hm:m<9223372036854775808) (a:n<9223372036854775808):abT .i64 (Go.IntKind.i64.wrap (ab0 Go.IntKind.i64.bits (m:Int)|||ab0 Go.IntKind.i64.bits (n:Int)).toNat)= .int .i64 ((m|||n:Nat):Int):=
 PX .i64 (by show m<18446744073709551616;omega) (by show n<18446744073709551616;omega) (by have h:m|||n<9223372036854775808:=afm (n:=63) (by simpa using hm) (by simpa using a);show _<=9223372036854775807;omega)
theorem getD_at {α:Type} {l:List α} {k:Nat} (d:α) (h:k<abo l):l[k]?=some (l.getD k d):=by
 rw [abt,abr h];rfl
theorem qf {α:Type} {l:List α} {k:Nat} (d:α) (h:k<abo l):l.getD k d∈l:=abJ (getD_at d h)
def getD_lt (a:∀b∈l,b<m) {k:Nat} (h:k<abo l):l.getD k 0<m:=a _ (qf 0 h)
def zg6 (P:aiO) (t:aiP):Option Nat:=match P.underlying t with
 |some (.array n e)=>if gM P e=true/\(P.info? e).map (·.size)=some 1 then some n else none
 |_=>none
def Yl.zh3 {S:aiM->Prop} {σ:List (Nat×aiN)} {ix:aiR} {y:Nat} {v:aiN} (c:o.op= .index t x ix) (h:look σ x=some (.agg C)) (hi:look σ ix=some (.int k (y:Int))) (b:zg6 P t=some m) (hy:y<m) (j:C[y]?=some v):Yl P S σ o v:=λa n D Z w p=>by
 unfold zg6 at b
 split at b
 ·rename_i q e l
  split at b
  ·rename_i d
   obtain ⟨d,f⟩:=d
   obtain ⟨i,g,f⟩:=adt.1 f
   injection b with b
   subst b
   unfold execOp
   simp [c,Z.eval h,Z.eval hi,Instr.index,asIntOf,run_underlying l,hy,sizeOf,typeInfo,g,f,part,FZ d,j]
  ·cases b
 ·cases b
section
open Go.MapKept
section
variable {P:aiO} {Q:aiV->Act->aiM->Prop} {a:Act} {W w:aiM} {n d:Nat} {D:List aiU} {σ:List (Nat×aiN)} {o:aiS} {K:Act->aiM->Prop} {fs:List aiX} {S:aiM->Prop}
end
end
section
variable {W w w':aiM} {fs gs fs':List aiX}
theorem Mem.perm (h:Mem W w fs) (c:fs.Perm fs'):Mem W w fs':=
 ⟨h.below,λf d=>h.holds f (c.mem_iff.2 d),(c.pairwise_iff (λ{_ _} b=>b.symm)).1 h.apart⟩
theorem Mem.mV (h:Mem W w fs) (hs:fs'.Sublist fs):Mem W w fs':=
 ⟨h.below,λf b=>h.holds f (hs.subset b),h.apart.sublist hs⟩
theorem aiX.holds.base {b:Nat} {f:aiX} (h:f.holds b w) (hb:c<=b):f.holds c w:=by
 cases f with
 |blk g d t=>exact ⟨ada hb h.1,h.2⟩
 |obj g o=>exact ⟨ada hb h.1,h.2⟩
 |row v n xs e size=>exact Ph h hb
theorem Mem.join (h:Mem W w fs) (k:Mem w w' gs):Mem W w' (gs++fs):=by
 have e:=h.call k.below
 refine ⟨e.below,?_,?_⟩
 ·intro f hm
  rcases acg.1 hm with hm|hm
  ·exact (k.holds f hm).base h.size
  ·exact e.holds f hm
 ·refine agf.2 ⟨k.apart,h.apart,?_⟩
  intro f b g c x i d
  have j:=((k.holds f b).lt i).1
  have l:=((h.holds g c).lt d).2
  omega
theorem Mem.kg {e:aiP} {size:Nat} (h:Mem W w fs) (b:aiX.row (.slice A n c) n xs e size∈fs):Rd w w.heap.size size A n xs:=by
 obtain ⟨i,hi⟩:=agb.1 b
 exact h.rd hi
theorem Mem.dX {W w:aiM} {fs:List aiX} (h:Mem W w fs) {i g:Nat} {C ds:Array aiN} {t:aiP} (hi:fs[i]?=some (.blk g C t)) (b:C=ds):Mem W w (fs.set i (.blk g ds t)):=by grind [abB,adY]
structure Own where
 A:aiW
 n:Nat
 c:Nat
 xs:List aiN
def aa5 (e:aiP) (size:Nat) (p:Own):aiX:= .row (.slice p.A p.n p.c) p.n p.xs e size
def jD (e:aiP) (size:Nat) (ps:List Own):List aiX:=ps.map (aa5 e size)
theorem Mem.zo6 {e:aiP} {size:Nat} {ps:List Own} (h:Mem W w (.row (.slice A n c) n xs e size::(fs++jD e size ps))):Mem W w (fs++jD e size (ps++[⟨A,n,c,xs⟩])):=by
 refine h.perm ?_
 unfold jD
 rw [abZ,<-abv]
 exact (List.perm_append_singleton _ _).symm
theorem Mem.oN (h:Mem W w fs) (e:aiP) (size:Nat):Mem W w (fs++jD e size []):=by unfold jD;simpa using h
end
section
variable {P:aiO} {ops:Array aiS} {Q:aiV->Act->aiM->Prop} {a:Act} {w:aiM}
end
section
variable {P:aiO} {ops:Array aiS} {Q:aiV->Act->aiM->Prop} {a:Act} {W w:aiM} {l n N i d:Nat} {D:List aiU} {σ σ':List (Nat×aiN)} {K:Act->aiM->Prop} {fs:List aiX} {o:aiS}
def P5 (f:¬LetsOut Q):∀(e:List aiS),(∀o∈e,∀c,o.op≠ .defer c)->∀a w,wpList P ops Q e a w->wpListIn (Fence.wide.inRound l) 0 P ops Q e a w
 |[],_,_,_,h=>h
 | o :: e, b, a, w, h => by
  unfold wpList at h
  unfold wpListIn
  split at h
  ·rename_i g
   rw [if_pos g]
   exact WW (b o acj) f (λa w h=>P5 f e (λo j=>b o (ab5 _ j)) a w h) h
  ·rename_i g
   rw [if_neg g]
   exact ⟨λ_ _=>trivial,P5 f e (λo j=>b o (ab5 _ j)) _ _ h⟩
def qk {id:Nat} (h:qi P ops Q 0 a w) (b:LU ops=true:=by kernel_rfl) (c:¬LetsOut Q:=by intro ⟨_,_,h⟩;exact h):(aea id ops false).wpIn (Fence.wide.inRound l) 0 P Q a w:=
 wpIn_region_list (P5 c _ (λo e=>by
  obtain ⟨j,f⟩:=agb.1 e
  exact WV b (i:=j) (by simpa using f)) a w (by simpa [qi] using h))
def XC {id:Nat} (e:Mem W w fs) (fs':List aiX) (m:Nat) (b f:List Nat) (h:Mem W w.drew fs->Mem W w.drew fs'->ql P .any ops Q (λg=>Mem W g fs') f ops.size (Array.replicate ops.size false) a w.drew)
  (hm:P.follows .mixedOrders=true:=by kernel_rfl) (j:b.Nodup:=by decide) (c:(b.all (· <m))=true:=by decide) (k:picks fs b++fs.drop m=fs':=by rfl) (p:LU ops=true:=by kernel_rfl) (q:¬LetsOut Q:=by intro ⟨_,_,h⟩;exact h):(aea id ops true).wpIn (Fence.wide.inRound l) 0 P Q a w:=
 wpIn_region_any hm (LV p q _ _ _ _ (qc4 _ _ _ _ (h e.drew (e.drew.PV m b j c k))))
def BZ {F:Fence} {c:aiR} {x y:Code} (Z:Fr a n D σ) (hc:look σ c=some (.bool true)) (h:x.wpIn F 0 P Q a w):(afV c x y).wpIn F 0 P Q a w:=wpIn_cond_true (Z.eval hc) h
def Ca {F:Fence} {c:aiR} {x y:Code} (Z:Fr a n D σ) (hc:look σ c=some (.bool false)) (h:y.wpIn F 0 P Q a w):(afV c x y).wpIn F 0 P Q a w:=wpIn_cond_false (Z.eval hc) h
def q4f {F:Fence} {x y:Code} (R:Act->aiM->Prop) (h:x.wpIn F 0 P (Exit.then R Q) a w) (k:∀a w,R a w->y.wpIn F 0 P Q a w):(Code.seq x y).wpIn F 0 P Q a w:=
 wpIn_seq (wpIn_mono h (λe a w b=>by cases e<;>first|exact k _ _ b|exact b))
def qc1 (fn:FuncId) (tmps:Array aiN) (ps:Array Tmp) (assign body:Code) (D:Nat) (st:LoopState) (b:Option Code):Loop:={state:=st,pending:=b,fn,tmps,params:=ps,assign,body,defers:=D}
abbrev ahT:=λa b=>(.obj a (.loop b):aiX)
def roundEnd (W:aiM) (l:Nat) (b:LoopState->Option Code->Loop) (R:aiQ->aiM->Prop):aiV->Act->aiM->Prop
 | .normal,_,w=>∃F,Mem W w (ahT l (b .busy none)::F)/\∀c,Mem W c (ahT l (b .ready none)::F)->R (.returned (.bool true)) c
 | .ret,_,w=>∃F,Mem W w (ahT l (b .busy none)::F)/\∀c,Mem W c (ahT l (b .done (some .ret))::F)->R (.returned (.bool false)) c
 | .exit id,_,w=>∃F,Mem W w (ahT l (b .busy none)::F)/\∀c,Mem W c (ahT l (b .done (some (.exit id)))::F)->R (.returned (.bool false)) c
 |_,_,_=>False
def XD {fn:FuncId} {ps:Array Tmp} {assign body:Code} {args:Array aiN} (u:Mem W w (.obj l (.loop (qc1 fn tmps ps assign body B .ready none))::F)) (hs:args.size=ps.size)
  (h : assign.wpIn (Fence.wide.inRound l) 0 P (Exit.then (λm q => ∃ j, Mem W q (.obj l (.loop (qc1 fn tmps ps assign body B .ready none)) :: j) /\ ∀ k, Mem W k (.obj l (.loop (qc1 fn tmps ps assign body B .busy none)) :: j) -> body.wpIn (Fence.wide.inRound l) 0 P (roundEnd W l (qc1 fn tmps ps assign body B) R) m k) (λ_ _ _ => False))
   {tmps:=(ps.zip args).foldl (λt (p,v)=>t.setIfInBounds p v) tmps,defers:=[]} w):YieldAt acf 0 P l args w R:=by
 have x:=u.jC (i:=0) rfl
 refine ⟨fn,_,assign,body,run_yield x hs,roundIn_of_wpIn trivial (wpIn_mono h ?_)⟩
 rintro e m q b
 cases e with
 | normal =>
  obtain ⟨j,r,y⟩:=b
  refine ⟨_,run_beginRound (r.jC (i:=0) rfl) rfl,?_⟩
  refine wpIn_mono (y _ (r.setObj (i:=0) rfl _)) ?_
  rintro e z k b
  cases e with
  |normal=>
   obtain ⟨s,f,g⟩:=b
   exact ⟨_,_,run_endRound none (f.jC (i:=0) rfl),g _ (f.setObj (i:=0) rfl _)⟩
  |ret=>
   obtain ⟨s,f,g⟩:=b
   exact ⟨_,_,run_endRound (some .ret) (f.jC (i:=0) rfl),g _ (f.setObj (i:=0) rfl _)⟩
  |exit id=>
   obtain ⟨s,f,g⟩:=b
   exact ⟨_,_,run_endRound (some (.exit id)) (f.jC (i:=0) rfl),g _ (f.setObj (i:=0) rfl _)⟩
  |goto t=>exact b.elim
  |panic c=>exact b.elim
  |outgrown=>exact b.elim
 |exit id=>exact b.elim
 |goto t=>exact b.elim
 |ret=>exact b.elim
 |panic c=>exact b.elim
 |outgrown=>exact b.elim
def Fr.P6 {p2:Nat} {v1 v2:aiN} (h:Fr {tmps:=tmps,defers:=[]} n D σ) (h1:c<n) (b:p2<n):Fr {tmps:=(#[c,p2].zip #[v1,v2]).foldl (λt (p,v)=>t.setIfInBounds p v) tmps,defers:=[]} n D ((p2,v2)::(c,v1)::σ):=by
 have e:=(h.put h1 v1).put b v2
 simpa [Act.put] using e
def Ep {b:LoopState->Option Code->Loop} {assign body:Code} {v1:aiN} (f:∃fn e,b=qc1 fn e #[c,m] assign body B/\Fr {tmps:=e,defers:=[]} n [] σ) (k:Mem W w (.obj l (.loop (b .ready none))::F)) (h1:c<n) (p:m<n)
  (h:∀a,Fr a n [] ((m,v2)::(c,v1)::σ)->assign.wpIn (Fence.wide.inRound l) 0 P (Exit.then (λq r=>∃g,Mem W r (.obj l (.loop (b .ready none))::g)/\∀j,Mem W j (.obj l (.loop (b .busy none))::g)->body.wpIn (Fence.wide.inRound l) 0 P (roundEnd W l b R) q j) (λ_ _ _=>False)) a w):YieldAt acf 0 P l #[v1,v2] w R:=by
 obtain ⟨fn,e,rfl,Z⟩:=f
 exact XD k rfl (h _ (Z.P6 h1 p))
def P7 {a:Act} {w:aiM} {K K':Act->aiM->Prop} (m:¬LetsOut Q) (b:∀a w,K a w->K' a w) (h:o.wp P a w K Q\/(o.asks P a w/\LetsOut Q)):o.wpIn acf 0 P a w K' Q:=by
 rcases h with h|h
 ·refine ⟨λ_ _=>trivial,?_⟩
  rw [show Fence.wide.round=none from rfl,agR]
  unfold acS at h
  generalize (execOp a.eval o).run P w=r at h
  cases r with
  | ok x j =>
   cases x with
   |value v=>exact b _ _ h
   |skip=>exact b _ _ h
   |defer d=>exact b _ _ h
   |enter f args=>
    refine ⟨λh=>by simp [acf] at h,?_⟩
    show CallsIn acf 0 P f args j _
    refine (callsIn_wide.2 h).mono ?_
    intro e g k
    cases e with
    |returned v=>exact b _ _ k
    |panicked c=>exact k
    |outgrown=>exact k
   |row r args=>
    refine ⟨λh=>by simp [acf] at h,λc p _=>?_⟩
    obtain ⟨v,g,q,s⟩:=(h:Rows P r args j _) c p
    exact ⟨v,g,b _ _ q,stepsIn_wide.2 s⟩
   |_=>exact (h:False).elim
  |halt t j=>
   cases t with
   |panic v=>exact h
   |_=>exact (h:False).elim
 ·exact absurd h.2 m
def P8 (c:¬LetsOut Q):∀(b:List aiS) (a:Act) (w:aiM),wpList P ops Q b a w->wpListIn acf 0 P ops Q b a w
 |[],_,_,h=>h
 | o :: b, a, w, h => by
  unfold wpList at h
  unfold wpListIn
  split at h
  ·rename_i e
   rw [if_pos e]
   exact P7 c (λa w h=>P8 c b a w h) h
  ·rename_i e
   rw [if_neg e]
   exact ⟨λ_ _=>trivial,P8 c b _ _ h⟩
def XE {pre:Array aiS} (p:¬LetsOut Q) (K:Act->aiM->Prop) (b:List aiS) (q:∀a w,K a w->wpListIn acf 0 P ops Q b a w):∀(k:List aiS),(∀o∈k,o.guard=none)->∀a w,wpList P pre (Exit.then K Q) k a w->wpListIn acf 0 P ops Q (k++b) a w
 |[],_,a,w,h=>q a w h
 | o :: k, s, a, w, h => by
  have t:∀x,acY o x=true:=λx=>by unfold acY;rw [s o acj]
  unfold wpList at h
  rw [if_pos (t _)] at h
  show if acY o (yielded ops a.tmps)=true then _ else _
  rw [if_pos (t _)]
  have u:=P7 (Q:=Exit.then K Q) (K':=wpListIn acf 0 P ops Q (k++b)) (λ⟨a,w,h⟩=>p ⟨a,w,h⟩) (λa w h=>XE p K b q k (λo z=>s o (ab5 _ z)) a w h) h
  refine ⟨u.1,?_⟩
  have g:=u.2
  generalize (o.semAt Fence.wide.round a.eval).run P w=r at g
  cases r with
  | ok x A =>
   cases x with
   |enter f args=>
    refine ⟨g.1,g.2.mono ?_⟩
    intro e m j
    cases e with
    |returned v=>exact j
    |panicked c=>exact j
    |outgrown=>exact j
   |round l f y assign body=>
    refine ⟨g.1,g.2.mono ?_⟩
    intro e m j
    cases e with
    |returned v=>exact j
    |panicked c=>exact j
    |outgrown=>exact j
   |_=>exact g
  |halt B A=>
   cases B with
   |panic v=>exact g
   |_=>exact g
def F7 {id i:Nat} (h:qi P (ops.toList.take i).toArray (Exit.then (λa w=>∃o,ops[i]?=some o/\o.guard=none/\o.wpIn Fence.wide 0 P a w (wpListIn Fence.wide 0 P ops Q (ops.toList.drop (i+1))) Q) Q) 0 a w) (c:((ops.toList.take i).all λo=>o.guard.isNone)=true:=by kernel_rfl) (e:¬LetsOut Q:=by intro ⟨_,_,h⟩;obtain ⟨_,h,_⟩:=h;cases h):(aea id ops false).wp P Q a w:=by
 refine wpIn_wide.1 (wpIn_region_list (n:=0) ?_)
 have f:wpList P (ops.toList.take i).toArray (Exit.then (λa w=>∃o,ops[i]?=some o/\o.guard=none/\o.wpIn acf 0 P a w (wpListIn acf 0 P ops Q (ops.toList.drop (i+1))) Q) Q) (ops.toList.take i) a w:=by simpa [qi] using h
 have g:=XE (ops:=ops) e _ (ops.toList.drop i) (λa w ⟨o,b,j,h⟩=>by
  obtain ⟨k,m⟩:=acU.1 b
  rw [acz (by simpa using k),ad7,m]
  unfold wpListIn
  rw [if_pos (by unfold acY;rw [j])]
  exact h) (ops.toList.take i) (λo b=>by
  have:=ace.1 c o b
  simpa using this) a w f
 rwa [ab8] at g
def aal {r:aiX} {es:List aiX} (h:Mem W w (r::(es++F))):Mem W w (r::(F++es)):=h.perm (List.Perm.cons _ acD)
def aag {es:List aiX} (h:Mem W w (F++es)):Mem W w (es++F):=h.perm acD
def aan (es:List aiX) {F:List aiX} (h:Mem W w (es++F)):Mem W w F:=h.mV (List.sublist_append_right es F)
def uJ (Z:Fr a n D σ) {fo:aiR} {xs:Array aiR} {ts:Array aiP} {vs:List aiN} {R:aiQ->aiM->Prop} (q:ops[i]?=some o) (r:o.guard=none) (c:o.op= .call {callee:= .value fo,args:=xs,argTypes:=ts}) (f:look σ fo=some (.func (.yield l) #[] #[])) (s:looks σ xs.toList=some vs) (t:o.dst=some d) (g:d<n)
  (hy:YieldAt Fence.wide 0 P l vs.toArray w R) (u:∀e b,R e b->∃v,e= .returned v) (k:∀v b j,R (.returned v) b->Fr j n D ((d,v)::σ)->qi P ops Q (i+1) j b) (x:¬LetsOut Q:=by intro ⟨_,_,h⟩;obtain ⟨_,h,_⟩:=h;cases h):
  ∃o,ops[i]?=some o/\o.guard=none/\o.wpIn acf 0 P a w (wpListIn acf 0 P ops Q (ops.toList.drop (i+1))) Q:=by
 refine ⟨o,q,r,λ_ _=>trivial,?_⟩
 have e1:xs.map a.eval=vs.toArray:=by
  have:=Ad Z s
  rw [<-this,<-adi,acO]
 obtain ⟨fn,m,assign,body,y,z⟩:=hy
 rw [show Fence.wide.round=none from rfl,agR]
 unfold execOp
 simp only [c,resolve,Z.eval f,adH,invoke,abI,abS,abA]
 have e2:(#[]:Array aiN)++adB a.eval xs++ #[]=vs.toArray:=by simp [e1]
 show Oper.uponIn acf 0 P o a _ Q ((Instr.yield l (#[]++adB a.eval xs++ #[])).run P w)
 rw [e2,y]
 refine ⟨λh=>by simp [acf] at h,z.mono ?_⟩
 intro e b p
 obtain ⟨v,rfl⟩:=u e b p
 show wpListIn acf 0 P ops Q (ops.toList.drop (i+1)) (a.put o.dst v) b
 rw [t]
 exact P8 x _ _ _ (k v b _ p (Z.put g v))
def Cb {g:aiR} {ps:Array Tmp} {assign body:Code} (Z:Fr a n [] σ) (H:Mem W w fs) (J:List aiX->Prop) (X:Code->List aiX->Prop) (I:look σ g=some (.func (.func m) #[] caps.toArray)) (x:callable P m=true)
  (y : ∀ (l B : Nat) (b : LoopState -> Option Code -> Loop) (E : aiM), (∃ fn k, b = qc1 fn k ps assign body B /\ Fr { tmps := k, defers := [] } n [] σ) -> Mem W E (.obj l (.loop (b .ready none)) :: .obj B (.deferred (some [])) :: fs) ->
   Calls P m (.func (.yield l) #[] #[]::caps).toArray E λr j=>∃v,r= .returned v/\((∃F,J F/\Mem W j (.obj l (.loop (b .ready none)):: .obj B (.deferred (some []))::F))\/∃c F,X c F/\Mem W j (.obj l (.loop (b .done (some c))):: .obj B (.deferred (some []))::F)))
  (p:∀(B:Nat) (s:Act) (j:aiM) (F:List aiX),J F->Fr s n [{target:= .collected B,args:= #[]}] σ->Mem W j (.obj B (.deferred (some []))::F)->Q .normal s j)
  (q:∀(c:Code) (B:Nat) (s:Act) (j:aiM) (F:List aiX),X c F->Fr s n [{target:= .collected B,args:= #[]}] σ->Mem W j (.obj B (.deferred (some []))::F)->c.wp P Q s j):
  (Code.rangeFunc g ps assign body).wp P Q a w:=by
 refine (wpIn_wide (n:=0)).1 (wpIn_rangeFunc ?_)
 intro fn _
 show ∃l mark w₁ d w₁' f args w₂,(agI fn a.tmps ps assign body none).run P w= .ok (l,mark) w₁/\_
 have z:=(H.mU (.deferred (some []))).mU (.loop (qc1 fn a.tmps ps assign body w.heap.size .ready none))
 rw [World.size_alloc] at z
 have A:Fr {tmps:=a.tmps,defers:=[]} n [] σ:=⟨Z.size,rfl,Z.slot⟩
 have t:Fr {a with defers:={target:= .collected w.heap.size,args:= #[]}::a.defers} n [{target:= .collected w.heap.size,args:= #[]}] σ:=⟨Z.size,by show _::a.defers=_;rw [Z.defers],Z.slot⟩
 have G:(agI fn a.tmps ps assign body none).run P w= .ok (w.heap.size+1,[{target:= .collected w.heap.size,args:= #[]}]) ((w.alloc (.deferred (some []))).alloc (.loop (qc1 fn a.tmps ps assign body w.heap.size .ready none))):=run_enterLoop_outer _ _ _ _ _
 generalize (w.alloc (.deferred (some []))).alloc (.loop (qc1 fn a.tmps ps assign body w.heap.size .ready none))=W1 at z G
 refine ⟨w.heap.size+1,[{target:= .collected w.heap.size,args:= #[]}],W1,{target:= .fn (.func m) caps.toArray,args:= #[.func (.yield (w.heap.size+1)) #[] #[]]},W1,m,#[.func (.yield (w.heap.size+1)) #[] #[]]++caps.toArray,W1,G,?_,λ_ _=>trivial,?_,λh=>by simp [acf] at h,?_⟩
 ·simp only [resolve,Z.eval I]
  simp [go_sem]
 ·simp [invoke,go_sem,El x]
 ·have e:(#[.func (.yield (w.heap.size+1)) #[] #[]]++caps.toArray:Array aiN)=(.func (.yield (w.heap.size+1)) #[] #[]::caps).toArray:=by simp
  rw [e]
  refine callsIn_wide.2 ((y _ _ _ _ ⟨fn,a.tmps,rfl,A⟩ z).mono ?_)
  rintro e j ⟨v,rfl,(⟨F,L,u⟩|⟨c,F,M,u⟩)⟩
  ·have C:=run_endLoop (P:=P) (u.jC (i:=0) rfl) (by simp [qc1])
   exact ⟨none,_,C,p _ _ _ F L t (u.setObj (i:=0) rfl _).tail⟩
  ·have C:=run_endLoop (P:=P) (u.jC (i:=0) rfl) (by simp [qc1])
   exact ⟨some c,_,C,wpIn_wide.2 (q c _ _ _ F M t (u.setObj (i:=0) rfl _).tail)⟩
def vC (P:aiO) (fn:Func) (R:aiQ->aiM->Prop):aiV->Act->aiM->Prop
 | .normal,a,w| .ret,a,w=>LeavesInM acf 0 P fn a.tmps R a.defers .returning w
 |_,_,_=>False
def Cc {f N:Nat} {fn:Func} {c:Code} (j:P.funcs[f]?=some fn) (hb:fn.body=some c) (m:fn.ntmps=N) (p:decide (abo vs<=N)=true) {σ0:List (Nat×aiN)} (q:Ag 0 vs=σ0)
  (k:∀a,Fr a N [] σ0->c.wp P (vC P fn R) a w):Calls P f vs.toArray w R:=by
 subst q
 rw [decide_eq_true_eq] at p
 refine (callsIn_wide (n:=0)).1 (callsIn_of_wp_marks j hb trivial (wpIn_wide.2 (ahg (λe a w h=>by cases e<;>first|exact h|exact (h:False).elim) (k _ ⟨by simp [m];omega,rfl,λt v r=>?_⟩))) rfl)
 obtain ⟨_,b⟩:=F3 vs 0 t v r
 rw [afo] at b
 have g:=(abB.1 b).1
 simp only [acQ,adW,ade,if_pos g]
 simp [b]
section
variable {fn:Func} {R:aiQ->aiM->Prop}
def Ce (h:bodyPost P fn R .ret a w):vC P fn R .ret a w:=by
 obtain ⟨b,v,c,e⟩:=h
 show LeavesInM acf 0 P fn a.tmps R a.defers .returning w
 rw [b]
 exact ⟨v,c,e⟩
def xS (Z:Fr a n [{target:= .collected B,args:= #[]}] σ) (b:Mem W w fs) (hi:fs[i]?=some (.obj B (.deferred (some [])))) (h:∀(c:Act) (e:aiM),Fr c n [] σ->Mem W e (fs.set i (.obj B (.deferred none)))->bodyPost P fn R .ret c e):vC P fn R .ret a w:=by
 obtain ⟨_,v,f,g⟩:=h {tmps:=a.tmps,defers:=[]} _ ⟨Z.size,rfl,Z.slot⟩ (b.setObj hi (.deferred none))
 show LeavesInM acf 0 P fn a.tmps R a.defers .returning w
 rw [Z.defers]
 exact ⟨λh=>(nomatch h),.inl ⟨B,_,rfl,run_takeDeferred (b.jC hi),v,f,g⟩⟩
def yK (hr:fn.results= #[]) (Z:Fr a n [] σ) (b:R (.returned (.tuple #[])) w):bodyPost P fn R .ret a w:=
 bodyPost_ret (v:= .tuple #[]) (by
  rw [BR,hr]
  simp) Z.defers b
def iB (hr:fn.results= #[]) (Z:Fr a n [] σ) (b:R (.returned (.tuple #[])) w):bodyPost P fn R .normal a w:=yK hr Z b
end
end
section
variable {P:aiO} {Q:aiV->Act->aiM->Prop} {a:Act} {W w:aiM} {n d:Nat} {D:List aiU} {σ:List (Nat×aiN)} {o:aiS} {v:aiN} {K:Act->aiM->Prop} {fs:List aiX}
def rG (t:aiP) (k:Int):List PanicEntry:=[{v:= .iface t (.int .i64 k),recovered:=false}]
def kW (W:aiM) (fs:List aiX) (b:List PanicEntry) (r:aiQ) (c:aiM):Prop:=r= .panicked b/\Mem W c fs
def o9 (Z:Fr a n D σ) (vs:List aiN) {f:FuncId} {xs:Array aiR} {ts:Array aiP} {g:List PanicEntry} (c:o.op= .call {callee:= .value (.func f),args:=xs,argTypes:=ts})
  (h:Calls P f vs.toArray w (kW W fs g)) (k:∀b,Mem W b fs->Q (.panic g) a b) (i:looks σ xs.toList=some vs:=by kernel_rfl) (j:callable P f=true:=by kernel_rfl):o.wp P a w K Q:=by
 have e1:xs.map a.eval=vs.toArray:=by
  have:=Ad Z i
  rw [<-this,<-adi,acO]
 unfold acS execOp
 simp only [c,resolve,ag9,adH,invoke,abI,abS,abA]
 have e3: #[]++adB a.eval xs++ #[]=vs.toArray:=by simp [e1]
 show afU P o a K Q (((callFunc f (#[]++adB a.eval xs++ #[])).run P w))
 rw [e3,El j,afF]
 exact h.mono λe b ⟨l,m⟩=>by subst l;exact k b m
def zkt (Z:Fr a n D σ) {x:aiR} {t:aiP} {u:aiN} (b:o.op= .panic x) (c:look σ x=some (.iface t u)) (k:Q (.panic [{v:= .iface t u,recovered:=false}]) a w):o.wp P a w K Q:=by
 unfold acS execOp
 simp only [b,Z.eval c,abI]
 exact k
def Fe (P:aiO) (t:aiP):Bool:=match P.underlying t with
 |some (.interface _)=>false
 |some _=>true
 |none=>false
def Yl.makeInterface {S:aiM->Prop} (b:o.op= .makeInterface t x) (c:look σ x=some v) (ht:Fe P t=true:=by kernel_rfl):Yl P S σ o (.iface t v):=λa n D Z w e=>by
 unfold Fe at ht
 cases hu:P.underlying t with
 |none=>rw [hu] at ht;cases ht
 |some d=>
  rw [hu] at ht
  unfold execOp
  simp only [b,Z.eval c,Instr.makeInterface,abI,run_underlying hu,abA]
  cases d<;>first|rfl|cases ht
def isIface (P:aiO) (t:aiP):Bool:=match P.underlying t with
 |some (.interface _)=>true
 |_=>false
def qoz (h:isIface P t=true):∃b,P.underlying t=some (.interface b):=by
 unfold isIface at h
 split at h
 ·rename_i b c;exact ⟨b,c⟩
 ·cases h
def qwp {t e:aiP} {v:aiN} (ht:isIface P t=true) (w:aiM):(adg t (.iface e v) .nilIface).run P w= .ok false w:=by
 obtain ⟨c,b⟩:=qoz ht
 have h:∀d,(acT (d+1) t (.iface e v) .nilIface).run P w= .ok false w:=λd=>by
  rw [acT]
  simp only [abI,run_underlying b,abA,abS]
 exact h 9999
def q8p (ht:isIface P t=true) (w:aiM):(adg t .nilIface .nilIface).run P w= .ok true w:=by
 obtain ⟨c,b⟩:=qoz ht
 have h:∀d,(acT (d+1) t .nilIface .nilIface).run P w= .ok true w:=λd=>by
  rw [acT]
  simp only [abI,run_underlying b,abA,abS]
 exact h 9999
def aa8 {S:aiM->Prop} {e:aiP} (b:o.op= .binOp .neq t x y u) (c:look σ x=some (.iface e v)) (hy:look σ y=some .nilIface) (ht:isIface P t=true:=by kernel_rfl):Yl P S σ o (.bool true):=λa n D Z w f=>by
 unfold execOp
 simp only [b,Z.eval c,Z.eval hy,abI,xK .neq t x y (a:= .iface e v) rfl,abA,binOp,qwp ht,abS]
 rfl
def abj {S:aiM->Prop} (b:o.op= .binOp .neq t x (.const .nilIface) u) (c:look σ x=some .nilIface) (ht:isIface P t=true:=by kernel_rfl):Yl P S σ o (.bool false):=λa n D Z w e=>by
 have e1:a.eval (.const .nilIface)= .nilIface:=rfl
 have e2:(eqGuard .neq t x (.const .nilIface) .nilIface .nilIface).run P w= .ok () w:=by
  unfold eqGuard
  simp
 unfold execOp
 simp only [b,Z.eval c,e1,abI,e2,abA,binOp,q8p ht,abS]
 rfl
def qtr (h:Fe P t=true):∃d,P.underlying t=some d/\∀b,d≠ .interface b:=by
 unfold Fe at h
 split at h
 ·cases h
 ·rename_i d c f;exact ⟨d,f,λb e=>c b e⟩
 ·cases h
def aa2 {S:aiM->Prop} {e:aiP} (b:o.op= .typeAssert x e t true) (c:look σ x=some (.iface t v)) (ht:Fe P t=true:=by kernel_rfl):Yl P S σ o (.tuple #[v,.bool true]):=λa n D Z w h=>by
 obtain ⟨d,f,g⟩:=qtr ht
 unfold execOp
 simp only [b,Z.eval c,aeN,abI,run_underlying f,abA]
 cases d<;>first|(exact absurd rfl (g _))|simp
def abb {S:aiM->Prop} {e:aiP} (b:o.op= .typeAssert x e t true) (f:look σ x=some .nilIface) (hz:(P.info? t).bind (·.zero)=some z) (ht:Fe P t=true:=by kernel_rfl):Yl P S σ o (.tuple #[z,.bool false]):=λa n D Z w j=>by
 obtain ⟨d,g,h⟩:=qtr ht
 obtain ⟨i,hi,c⟩:=adh.1 hz
 unfold execOp
 simp only [b,Z.eval f,aeN,abI,run_underlying g,abA]
 cases d<;>first|(exact absurd rfl (h _))|rfl|simp [zeroValue,typeInfo,hi,c]
def J8 (Q:aiV->Act->aiM->Prop):aiV->Act->aiM->Prop
 | .normal,a,w=>Q .normal a w
 |_,_,_=>False
def zku {c:Code} (h:c.wp P (J8 Q) a w):c.wp P Q a w:=λb k i=>by
 obtain ⟨e,j,l,g,f⟩:=h b k i
 cases e with
 |normal=>exact ⟨_,j,l,g,f⟩
 |_=>exact g.elim
def Fg {p:Prop} (Z:Fr a n [] σ) (h:p):a.defers=[]/\p:=⟨Z.defers,h⟩
def zkv (Z:Fr a n D σ) {fo:aiR} {f:FuncId} {caps:List aiN} {ts:Array aiP} (b:o.op= .defer {callee:= .value fo,args:= #[],argTypes:=ts}) (c:look σ fo=some (.func (.func f) #[] caps.toArray)) (g:o.dst=none)
  (k:∀e,Fr e n ({target:= .fn (.func f) caps.toArray,args:= #[]}::D) σ->K e w):o.wp P a w K Q:=by
 unfold acS execOp
 simp only [b,resolve,Z.eval c,adH,abI,abS,abA,ac3,adF,Oper.upon_defer,g]
 exact k _ ⟨Z.size,by show _::a.defers=_;rw [Z.defers];rfl,Z.slot⟩
def qts {f:Nat} {fn:Func} {c:Code} (g:P.funcs[f]?=some fn) (hb:fn.body=some c) (h:fn.ntmps=N) (i:decide (abo vs<=N)=true) {σ0:List (Nat×aiN)} (j:Ag 0 vs=σ0)
  (k:∀a,Fr a N [] σ0->c.wp P (bodyPostD P fn R) a w):Calls P f vs.toArray w R:=by
 subst j
 rw [decide_eq_true_eq] at i
 refine calls_of_wp_defers g hb (k _ ⟨by simp [h];omega,rfl,λt v l=>?_⟩)
 obtain ⟨_,b⟩:=F3 vs 0 t v l
 rw [afo] at b
 have e:=(abB.1 b).1
 simp only [acQ,adW,ade,if_pos e]
 simp [b]
def pq (W:aiM) (fs:List aiX) (e:aiQ) (u:FrameMode) (b:aiM):Prop:=e= .returned (.tuple #[])/\settle u= .returning/\Mem W b fs
def q2v {fn:Func} {c:List PanicEntry} {f:FuncId} {r:ResultVar} (Z:Fr a n [{target:= .fn (.func f) caps.toArray,args:= #[]}] σ) (hc:callable P f=true) (i:CallsD P f caps.toArray (.panicking c) w (pq W fs)) (hr:fn.results= #[r])
  (k:∀b,Mem W b fs->mG P a b r v/\R (.returned v) b):bodyPostD P fn R (.panic c) a w:=by
 show Leaves P fn a.tmps R a.defers (.panicking c) w
 rw [Z.defers]
 refine leaves_cons (f:=f) (args:=caps.toArray) (by simp) (by simp only [invoke];rw [show #[]++caps.toArray=caps.toArray by simp];exact El hc _ _) (i.mono λe u b ⟨j,l,m⟩=>?_)
 subst j
 show Leaves P fn a.tmps R [] (settle u) b
 rw [l]
 obtain ⟨h,p⟩:=k b m
 unfold mG at h
 refine ⟨v,?_,p⟩
 rw [BR,hr]
 generalize vk a.tmps=g at*
 simp [h]
def q8q {fn:Func} {f:FuncId} {r:ResultVar} (Z:Fr a n [{target:= .fn (.func f) caps.toArray,args:= #[]}] σ) (hc:callable P f=true) (h:CallsD P f caps.toArray .returning w (pq W fs)) (hr:fn.results= #[r])
  (k:∀b,Mem W b fs->mG P a b r v/\R (.returned v) b):bodyPostD P fn R .ret a w:=by
 show Leaves P fn a.tmps R a.defers .returning w
 rw [Z.defers]
 refine leaves_cons (f:=f) (args:=caps.toArray) (by simp) (by simp only [invoke];rw [show #[]++caps.toArray=caps.toArray by simp];exact El hc _ _) (h.mono λe u b ⟨i,j,l⟩=>?_)
 subst i
 show Leaves P fn a.tmps R [] (settle u) b
 rw [j]
 obtain ⟨c,m⟩:=k b l
 unfold mG at c
 refine ⟨v,?_,m⟩
 rw [BR,hr]
 generalize vk a.tmps=g at*
 simp [c]
def qza {ops:Array aiS} (h:o.guard=none):acY o (yielded ops a.tmps)=true:=by unfold acY;rw [h]
def qko {ops:Array aiS} {rest:List Nat} {j:aiV->Act->List Frame->aiM->Prop} {e cs':List Frame} {ts:Array aiP} (Z:Fr a n D σ) (p:ops[i]?=some o) (f:o.op= .call {callee:= .builtin .recover,args:= #[],argTypes:=ts}) (q:o.guard=none) (l:o.dst=some d) (b:d<n)
  (g:(recoverD e=some (v,cs'))\/(recoverD e=none/\v= .nilIface/\cs'=e)) (k:∀m,Fr m n D ((d,v)::σ)->wpOpsS P ops j rest m cs' w):wpOpsS P ops j (i::rest) a e w:=by
 have c:(execOp a.eval o).run P w= .ok .recover w:=by
  unfold execOp
  simp [f,resolve,invoke,builtin]
 simp only [wpOpsS,p,qza q,if_true,c]
 rcases g with h|⟨h,rfl,rfl⟩
 ·simp only [h,l]
  exact k _ (Z.put b _)
 ·simp only [h,l]
  exact k _ (Z.put b _)
def qtt {ops:Array aiS} {rest:List Nat} {e:aiV->Act->List Frame->aiM->Prop} {f:List Frame} (Z:Fr a n D σ) (h:ops[i]?=some o) (j:sj P σ o.op=some v) (l:o.guard=none) (m:o.dst=some d) (c:d<n)
  (k:∀g,Fr g n D ((d,v)::σ)->wpOpsS P ops e rest g f w):wpOpsS P ops e (i::rest) a f w:=by
 have b:=WX Z j w
 simp only [wpOpsS,h,qza l,if_true,b,acr,m]
 exact k _ (Z.put c _)
def qkp {f:Nat} {fn:Func} {c:Code} {u:FrameMode} {R:aiQ->FrameMode->aiM->Prop} (h:P.funcs[f]?=some fn) (hb:fn.body=some c) (i:fn.ntmps=N) (j:decide (abo vs<=N)=true) {σ0:List (Nat×aiN)} (l:Ag 0 vs=σ0)
  (k:∀(c₀:Frame) (b:List Frame) a,c₀.mode=u->Fr a N [] σ0->c.wpS P (bodyPostS P fn c₀ b R) a (c₀::b) w):CallsD P f vs.toArray u w R:=by
 subst l
 rw [decide_eq_true_eq] at j
 refine callsD_of_wpS h hb λc₀ b m=>k c₀ b _ m ⟨by simp [i];omega,rfl,λt v p=>?_⟩
 obtain ⟨_,e⟩:=F3 vs 0 t v p
 rw [afo] at e
 have g:=(abB.1 e).1
 simp only [acQ,adW,ade,if_pos g]
 simp [e]
def qtu {fn:Func} {c₀:Frame} {b:List Frame} {u:FrameMode} {R:aiQ->FrameMode->aiM->Prop} (hr:fn.results= #[]) (Z:Fr a n [] σ) (h:R (.returned (.tuple #[])) u w):bodyPostS P fn c₀ b R .normal a ({c₀ with mode:=u}::b) w:=
 ⟨Z.defers,u,rfl,_,(by rw [BR,hr];simp),h⟩
end
section
variable {P:aiO} {W w:aiM} {l n:Nat} {σ:List (Nat×aiN)}
def Fr.Rv {v1:aiN} (h:Fr {tmps:=tmps,defers:=[]} n [] σ) (h1:c<n):Fr {tmps:=(#[c].zip #[v1]).foldl (λt (p,v)=>t.setIfInBounds p v) tmps,defers:=[]} n [] ((c,v1)::σ):=by
 have a:=h.put h1 v1
 simpa [Act.put] using a
def qst {b:LoopState->Option Code->Loop} {assign body:Code} {v1:aiN} (e:∃fn d,b=qc1 fn d #[c] assign body B/\Fr {tmps:=d,defers:=[]} n [] σ) (i:Mem W w (.obj l (.loop (b .ready none))::F)) (h1:c<n)
  (h:∀a,Fr a n [] ((c,v1)::σ)->assign.wpIn (Fence.wide.inRound l) 0 P (Exit.then (λj k=>∃f,Mem W k (.obj l (.loop (b .ready none))::f)/\∀g,Mem W g (.obj l (.loop (b .busy none))::f)->body.wpIn (Fence.wide.inRound l) 0 P (roundEnd W l b R) j g) (λ_ _ _=>False)) a w):YieldAt acf 0 P l #[v1] w R:=by
 obtain ⟨fn,d,rfl,Z⟩:=e
 exact XD i rfl (h _ (Z.Rv h1))
def Rx (W:aiM) (fr:List aiX) (J:List aiX->Prop) (e:aiQ) (b:aiM):Prop:=∃a,Mem W b (a++fr)/\e= .returned (.bool true)/\J a
def zp {W:aiM} {fr:List aiX} {J:List aiX->Prop}:∀(e:aiQ) (a:aiM),Rx W fr J e a->∃v,e= .returned v
 |_,_,⟨_,_,h,_⟩=>⟨_,h⟩
def ZV (W:aiM) (J:List aiX->Prop) (r:aiQ) (b:aiM):Prop:=∃v,r= .returned v/\∃a,Mem W b a/\J a
def ZW (P:aiO) (W:aiM) (a n:Nat) (Inv:Nat->List aiX->Prop):Prop:=
 ∀(i:Nat) (F fr:List aiX) (w:aiM) (x:Int),Inv i F->i<n->Mem W w (F++fr)->YieldAt acf 0 P a #[.int .i64 x] w (Rx W fr (Inv (i+1)))
end
section
variable {P:aiO} {ops:Array aiS} {Q:aiV->Act->aiM->Prop} {a:Act} {w W:aiM} {n i:Nat} {K:Act->aiM->Prop} {md:Region.Mode}
def xg:Nat->List (List Bool)
 |0=>[[]]
 |n+1=>(xg n).flatMap λl=>[true::l,false::l]
def qzm:∀(l:List Bool),l∈xg (abo l)
 |[]=>by simp [xg]
 |b::l=>by
  rw [List.length_cons,xg,List.mem_flatMap]
  exact ⟨l,qzm l,by cases b<;>simp⟩
def Ox (md:ad3) (ops:Array aiS) (l:List Bool):Bool:=(aco (abo l)).all λk=> !l.getD k false||((ops[k]?).map (·.after.all λe=> !Region.binds md e||l.getD e.on false)).getD false
def oH (md:ad3) (ops:Array aiS) (i:Nat):Bool:=
 ((xg i).all λl=> !Ox md ops l||(((acF md (ops.toList.take i).toArray l.toArray).all λj=>Ox md ops (l.set j true))&& (((acF md (ops.toList.take i).toArray l.toArray).isEmpty==l.all id)&& (l.all id||(acF md ops (l++abD (ops.size-i) false).toArray==acF md (ops.toList.take i).toArray l.toArray)))))
 && (Ox md ops (abD i false)&& (((aco (ops.size-i)).all λj=>acF md ops (abD (i+j) true++abD (ops.size-i-j) false).toArray==[i+j])
 && ((acF md ops (abD ops.size true).toArray).isEmpty&& (decide (i<=ops.size)&& ((ops.toList.take i).all λo=>o.guard.isNone)))))
def zol (j d:Nat):(abD j true++abD (d+1) false).toArray.setIfInBounds j true=(abD (j+1) true++abD d false).toArray:=by
 rw [aed]
 congr 1
 rw [List.set_append_right _ _ (by simp),List.length_replicate,aeg,List.replicate_succ,afz,List.replicate_succ',abv]
 rfl
def zhm {F:Fence} (h1:∀j,i<=j->j<ops.size->acF md ops (abD j true++abD (ops.size-j) false).toArray=[j]) (f:acF md ops (abD ops.size true).toArray=[]):
  ∀(d j:Nat),j+d=ops.size->i<=j->∀a w,wpListIn F n P ops Q (ops.toList.drop j) a w->wpAnyIn F n P md ops Q d (abD j true++abD d false).toArray a w
 |0,j,m,_,a,w,h=>by
  obtain rfl:j=ops.size:=by omega
  rw [acs (by simp)] at h
  refine ⟨?_,h⟩
  rw [List.replicate_zero,abM]
  exact f
 | d + 1, j, m, hi, a, w, h => by
  have b:j<ops.size:=by omega
  have c:=h1 j hi b
  rw [show ops.size-j=d+1 by omega] at c
  refine ⟨λg=>(by rw [c] at g;cases g),λq k=>?_⟩
  rw [c,List.mem_singleton] at k
  subst k
  rw [acz (by simpa using b)] at h
  have l:=zhm (F:=F) h1 f d (q+1) om om
  rw [zol]
  unfold wpOpIn
  rw [afK b]
  unfold wpListIn at h
  simp only [ad7] at h⊢
  split at h
  ·rename_i e
   rw [if_pos e]
   exact Oper.wpIn_mono l h
  ·rename_i e
   rw [if_neg e]
   exact ⟨h.1,l _ _ h.2⟩
def qt0:∀{l:List Bool} {j:Nat},l[j]?=some false->(l.set j true).count false+1=l.count false
 |[],_,h=>by simp at h
 |b::l,0,h=>by
  simp at h
  subst h
  simp
 |b::l,j+1,h=>by
  have:=qt0 (l:=l) (j:=j) (by simpa using h)
  rw [agt,agS,agS]
  omega
def qt1 {l:List Bool}:l.count false=0↔l.all id=true:=by
 rw [List.count_eq_zero,ace]
 constructor
 ·intro h x b
  cases x with
  |true=>rfl
  |false=>exact absurd b h
 ·intro h b
  have:=h _ b
  cases this
def zom (A:oH md ops i=true) (R:¬LetsOut Q) (S:∀a w,K a w->wpListIn acf 0 P ops Q (ops.toList.drop i) a w):
  ∀(d:Nat) (l:List Bool),abo l=i->l.count false=d->Ox md ops l=true->∀a w,wpAny P md (ops.toList.take i).toArray (Exit.then K Q) d l.toArray a w->wpAnyIn acf 0 P md ops Q (d+(ops.size-i)) (l++abD (ops.size-i) false).toArray a w:=by
 unfold oH at A
 simp only [abG,decide_eq_true_eq] at A
 obtain ⟨T,_,U,V,hi,X⟩:=A
 have q:abo (ops.toList.take i)=i:=by rw [abx];simp;omega
 have Y:=zhm (P:=P) (Q:=Q) (F:=acf) (n:=0) (md:=md) (ops:=ops) (i:=i) (λj h1 h2=>by
  have g:=ace.1 U (j-i) (List.mem_range.2 om)
  rw [show i+(j-i)=j by omega,show ops.size-i- (j-i)=ops.size-j by omega] at g
  exact eq_of_beq g) (List.isEmpty_iff.1 V)
 intro d
 induction d with
 |zero=>
  intro l y hc s a w h
  have Z:=qt1.1 hc
  have k:l=abD i true:=List.eq_replicate_iff.2 ⟨y,λb hb=>ace.1 Z b hb⟩
  subst k
  rw [aci]
  exact Y _ _ om (abu _) _ _ (S _ _ h.2)
 | succ d ih =>
  intro l y hc s a w h
  have g:=ace.1 T l (by rw [<-y];exact qzm l)
  rw [s,Bool.not_true,ahb,abG] at g
  have m:=g.1
  replace g:=g.2
  have B:l.all id=false:=by
   cases hx:l.all id with
   |false=>rfl
   |true=>rw [qt1.2 hx] at hc;omega
  rw [B,ahb,abG] at g
  have J:=eq_of_beq g.2
  have t:=eq_of_beq g.1
  rw [Nat.succ_add]
  refine ⟨λL=>(by rw [J] at L;rw [L] at t;cases t),λj z=>?_⟩
  rw [J] at z
  have u:=h.2 j z
  have m:=ace.1 m j z
  obtain ⟨C,o,p,_⟩:=mem_ready.1 z
  have D:j<i:=by
   have:=(acU.1 p).1
   simpa [q] using this
  have E:l[j]?=some false:=by
   have:l.toArray.getD j true=false:=C
   rw [acQ,aeU,abr om] at this
   rw [abr om]
   exact congrArg some this
  have G:ops[j]?=some o:=by
   rw [aeU,adE,if_pos D,Array.getElem?_toList] at p
   exact p
  have H:o.guard=none:=by
   have hm:o∈ops.toList.take i:=by
    rw [aeU] at p
    exact abJ p
   have:=ace.1 X o hm
   simpa using this
  have e1:l.toArray.setIfInBounds j true=(l.set j true).toArray:=aed ..
  have e2:(l++abD (ops.size-i) false).toArray.setIfInBounds j true=(l.set j true++abD (ops.size-i) false).toArray:=by
   rw [aed,List.set_append_left _ _ om]
  rw [e1] at u
  rw [e2]
  have hk:=ih (l.set j true) (by rw [abK];exact y) (by have:=qt0 E;omega) m
  have M:∀x,acY o x=true:=λx=>by unfold acY;rw [H]
  unfold wpOp at u
  rw [p] at u
  simp only [M,if_true] at u
  unfold wpOpIn
  rw [G]
  simp only [M,if_true]
  have N:=P7 (Q:=Exit.then K Q) (λ⟨a,w,h⟩=>R ⟨a,w,h⟩) hk u
  refine ⟨N.1,?_⟩
  have g:=N.2
  generalize (o.semAt Fence.wide.round a.eval).run P w=r at g
  cases r with
  | ok x w' =>
   cases x with
   |enter f args=>
    refine ⟨g.1,g.2.mono ?_⟩
    intro e I k
    cases e with
    |returned v=>exact k
    |panicked c=>exact k
    |outgrown=>exact k
   |round l f O assign body=>
    refine ⟨g.1,g.2.mono ?_⟩
    intro e I k
    cases e with
    |returned v=>exact k
    |panicked c=>exact k
    |outgrown=>exact k
   |_=>exact g
  |halt hh w'=>
   cases hh with
   |panic v=>exact g
   |_=>exact g
def UG (P:aiO) (ops:Array aiS) (Q:aiV->Act->aiM->Prop) (i:Nat) (a:Act) (w:aiM):Prop:=∃o,ops[i]?=some o/\o.guard=none/\o.wpIn acf 0 P a w (wpListIn acf 0 P ops Q (ops.toList.drop (i+1))) Q
def q9g {id:Nat} (i:Nat) (S:aiM->Prop) (d:List Nat) (h:ql P .any (ops.toList.take i).toArray (Exit.then (UG P ops Q i) Q) S d i (Array.replicate i false) a w.drew)
  (hm:P.follows .mixedOrders=true:=by kernel_rfl) (b:oH .any ops i=true:=by kernel_rfl) (e:¬LetsOut Q:=by intro ⟨_,_,h⟩;obtain ⟨_,h,_⟩:=h;cases h):(aea id ops true).wp P Q a w:=by
 refine wpIn_wide.1 (wpIn_region_any (n:=0) hm ?_)
 have c:=zom (P:=P) (Q:=Q) (K:=UG P ops Q i) b e (λa w ⟨o,f,g,h⟩=>by
  obtain ⟨j,k⟩:=acU.1 f
  rw [acz (by simpa using j),ad7,k]
  unfold wpListIn
  rw [if_pos (by unfold acY;rw [g])]
  exact h) i (abD i false) (by simp) (by simp) (by unfold oH at b;simp only [abG] at b;exact b.2.1) a w.drew (qc4 _ _ _ _ (by rw [af5];exact h))
 unfold oH at b
 simp only [abG,decide_eq_true_eq] at b
 obtain ⟨_,_,_,_,hi,_⟩:=b
 rw [show i+(ops.size-i)=ops.size by omega,List.replicate_append_replicate,show i+(ops.size-i)=ops.size by omega,af5] at c
 exact c
def DR {id:Nat} (i:Nat) {fs:List aiX} (d:Mem W w fs) (fs':List aiX) (m:Nat) (b e:List Nat) (h:Mem W w.drew fs->Mem W w.drew fs'->ql P .any (ops.toList.take i).toArray (Exit.then (UG P ops Q i) Q) (λf=>Mem W f fs') e i (Array.replicate i false) a w.drew)
  (g:b.Nodup:=by decide) (c:(b.all (· <m))=true:=by decide) (j:picks fs b++fs.drop m=fs':=by rfl) (hm:P.follows .mixedOrders=true:=by kernel_rfl) (k:oH .any ops i=true:=by kernel_rfl) (l:¬LetsOut Q:=by intro ⟨_,_,h⟩;obtain ⟨_,h,_⟩:=h;cases h):(aea id ops true).wp P Q a w:=
 q9g i _ e (h d.drew (d.drew.PV m b g c j)) hm k l
end
def aaF {S:aiM->Prop} {σ:List (Nat×aiN)} (b:o.op= .convert 30 9 x) (d:look σ x=some (.slice A n c)) (hr:∀w,S w->Rd w w.heap.size 1 A n (l.map B8)):Yl abp S σ o (.string (jX l)):=λa m D Z w f=>by
 unfold execOp
 simp [b,Z.eval d,zh5 (hr w f)]
def tK (l:List Nat):∀u∈l.map B8,u.oneCell'=true:=by
 intro u a
 obtain ⟨x,_,rfl⟩:=ab7.1 a
 rfl
theorem Rd.F4 {k cap:Nat} (h:Rd w B 1 A n (l.map B8)) (hk:k<=n) (hc:n<=cap):Rd w B 1 (if cap=k then A else A.map (·.add (k*1))) (n-k) ((l.drop k).map B8):=by
 have a:=h.from hk hc
 rw [ahc]
 have e:(l.map B8).drop (k*1)=(l.map B8).drop k:=by rw [ac0]
 rw [<-e]
 exact a
def Xv (l:List Nat):((jX l).toList==(jX l).toList)=true:=by simp
theorem Mem.le (h:Mem W w fs) {B:Nat} (a:B<=W.heap.size):B<=w.heap.size:=ada a h.size
def nD {x:Int} (h: -9223372036854775808<=x/\x<=9223372036854775807):abT .i64 (IntKind.i64.wrap x)= .int .i64 x:=by rw [agD x h]
def mh (w:aiM) (er:Nat) (R:List Nat) (r:aiQ) (a:aiM):Prop:=
 (∃A c,r= .returned (.tuple #[.slice A (abo R) c,.int .i64 (er:Int)])/\a.ownsRow w.heap.size 5 1 (.slice A (abo R) c) (abo R) (R.map B8)/\abo R<=c)/\Below w.heap.size w a
section
variable {P:aiO} {S:aiM->Prop} {σ:List (Nat×aiN)} {o:aiS} {t e:aiP} {z:aiN} {size bytes:Nat}
def aaf (d:EI P t e z size bytes) {x y:aiR} {A:aiW} {m c j:Nat} {k:aiT} (b:o.op= .slice t x (some y) none none) (f:look σ x=some (.slice A m c)) (g:look σ y=some (.int k (j:Int))) (h:j<=m):
  Yl P S σ o (.slice (if c=j then A else A.map (·.add (j*size))) (m-j) (c-j)):=λa n D Z w i=>by
 unfold execOp
 simp only [b,Z.eval f,Z.eval g,aeJ,aeK,abI,abS,qne (P:=P) d h,abA]
def aah (d:EI P t e z size bytes) {x hi:aiR} {A:aiW} {m c j:Nat} {k:aiT} (b:o.op= .slice t x none (some hi) none) (f:look σ x=some (.slice A m c)) (g:look σ hi=some (.int k (j:Int))) (h:j<=c):
  Yl P S σ o (.slice A j c):=λa n D Z w i=>by
 unfold execOp
 simp only [b,Z.eval f,Z.eval g,aeJ,aeK,abI,abS,qnf (P:=P) d h,abA]
end
section
variable {P:aiO} {S:aiM->Prop} {σ:List (Nat×aiN)} {o:aiS}
def placesOf (P:aiO):List Field->Option (List (Nat×Nat))
 |[]=>some []
 |f::r=>match P.info? f.type,placesOf P r with
  |some i,some l=>some ((f.offset,i.size)::l)
  |_,_=>none
def Xw:∀{a:List Field} {l:List (Nat×Nat)},placesOf P a=some l->∀w,(a.mapM λf=>(do pure (f.offset,<-sizeOf f.type):Sem (Nat×Nat))).run P w= .ok l w
 |[],l,h,w=>by cases h;rfl
 | f :: r, l, h, w => by
  unfold placesOf at h
  split at h
  ·rename_i i c hi b
   injection h with h
   subst h
   simp [List.mapM_cons,sizeOf,typeInfo,hi]
   have:=Xw b w
   simp [sizeOf,typeInfo] at this
   simp [this]
  ·cases h
def PY (P:aiO) (t:aiP) (vs:List (Nat×aiN)):Option (Array aiN):=match P.underlying t,xL P t with
 |some (.struct a),some z=>match placesOf P a.toList with
  |some l=>ae5 (l.toArray[·]?) z vs
  |none=>none
 |_,_=>none
def Yl.build {vs:List (Nat×aiN)} (b:o.op= .build t ps) (j:xM σ ps.toList=some vs) (hb:PY P t vs=some C):Yl P S σ o (.agg C):=λa n D Z w q=>by
 have c:=PO Z j
 have e1:(aej t (ps.map λp=>(p.1,a.eval p.2))).run P w= .ok (.agg C) w:=by
  rw [c]
  unfold PY at hb
  split at hb
  ·rename_i h z k hz
   split at hb
   ·rename_i l m
    unfold xL at hz
    obtain ⟨r,d,rfl⟩:=adt.1 hz
    obtain ⟨i,hi,g⟩:=adh.1 d
    have hm:(h.mapM λf=>(do aeC (f.offset,<-sizeOf f.type):Sem (Nat×Nat))).run P w= .ok l.toArray w:=by
     rw [<-acO (xs:=h),List.mapM_toArray]
     simp only [Sem.run_map,Xw m]
     rfl
    unfold aej
    simp only [abI,zeroValue,typeInfo,program,afn,hi,g,abS,abA,run_underlying k,hm,hb]
   ·cases hb
  ·cases hb
 unfold execOp
 simp only [b,abI,abS]
 show ((aej t (ps.map λp=>(p.1,a.eval p.2))).run P w).andThen _=_
 rw [e1]
 rfl
end
def zx {base:Nat} {e:aiP} {size:Nat} (h:w.ownsRow base e size (.slice A n c) n xs) (b:0<n):∃g,A=some ⟨g,0,none⟩:=by
 obtain ⟨g,d,a,_⟩:=zms h b
 injection a with a _ _
 exact ⟨g,a⟩
theorem Mem.rat (h:Mem W w fs) (i k:Nat) {e:aiP} {size n c:Nat} {A:aiW} {xs:List aiN} (hi:fs[i]?=some (.row (.slice A n c) n xs e size):=by rfl) (hk:k<n:=by omega):∃g,A=some ⟨g,0,none⟩:=zx (h.own hi) (agw (abz _) hk)
theorem Mem.yJ (h:Mem W w fs) {α:Type} {f:α->List aiN} {sz:Nat} (a:∀x,abo (f x)=sz) {i g m c:Nat} {e:aiP} {l:List α} (hi:fs[i]?=some (.row (.slice (some ⟨g,0,none⟩) m c) m (l.flatMap f) e sz)) {k:Nat} {x:α} (hk:l[k]?=some x):w.rangeAt g (k*sz) (f x):=
 h.L9 hi (k*sz) λj u b=>by
  obtain ⟨d,n⟩:=abB.1 hk
  have p:j<sz:=by have:=(abB.1 b).1;rwa [a] at this
  rw [Eb f sz a l k j d p,n]
  exact b
section
variable {P:aiO} {S:aiM->Prop} {σ:List (Nat×aiN)} {o:aiS} {v:aiN}
def Eo (P:aiO) (t:aiP):Bool:=match P.underlying t with
 |some (.func _ _ _)=>true
 |_=>false
def q0j {f:Fn} {xs ys:Array aiN} (ht:Eo P t=true) (w:aiM):(adg t (.func f xs ys) .nilFunc).run P w= .ok false w:=by
 unfold Eo at ht
 split at ht
 ·rename_i a
  show (acT (9999+1) t (.func f xs ys) .nilFunc).run P w=_
  unfold acT
  simp only [abI,run_underlying a,abA]
  rfl
 ·cases ht
def q4d (ht:Eo P t=true) (w:aiM):(adg t .nilFunc .nilFunc).run P w= .ok true w:=by
 unfold Eo at ht
 split at ht
 ·rename_i a
  show (acT (9999+1) t .nilFunc .nilFunc).run P w=_
  unfold acT
  simp only [abI,run_underlying a,abA]
  rfl
 ·cases ht
def aaI {f:Fn} {xs:Array aiN} (b:o.op= .binOp .neq t x y u) (c:look σ x=some (.func f xs ys)) (hy:look σ y=some .nilFunc) (ht:Eo P t=true):Yl P S σ o (.bool true):=λa n D Z w d=>by
 unfold execOp
 have e:(binOp .neq t (.func f xs ys) .nilFunc).run P w= .ok (.bool true) w:=by
  show ((do aeC (.bool (!(<-adg t (.func f xs ys) .nilFunc))):Sem aiN)).run P w=_
  simp [q0j ht]
 simp only [b,Z.eval c,Z.eval hy,abI,xK (P:=P) .neq t x y (a:= .func f xs ys) rfl,abA,e,abS]
def abk (b:o.op= .binOp .neq t x y u) (c:look σ x=some .nilFunc) (hy:look σ y=some .nilFunc) (ht:Eo P t=true):Yl P S σ o (.bool false):=λa n D Z w d=>by
 unfold execOp
 have e:(binOp .neq t .nilFunc .nilFunc).run P w= .ok (.bool false) w:=by
  show ((do aeC (.bool (!(<-adg t .nilFunc .nilFunc))):Sem aiN)).run P w=_
  simp [q4d ht]
 simp only [b,Z.eval c,Z.eval hy,abI,xK (P:=P) .neq t x y (a:= .nilFunc) rfl,abA,e,abS]
def aaQ {m:Nat} (b:o.op= .unOp .xor t x) (d:look σ x=some (.int .u32 (m:Int))) (hm:m<4294967296):Yl P S σ o (.int .u32 ((m^^^4294967295:Nat):Int)):=λa n D Z w e=>by
 have c:=Mg (m:=4294967295) (n:=m) de hm
 rw [Nat.xor_comm] at c
 unfold execOp
 simp only [b,Z.eval d,Op.unary]
 rw [<-c]
 rfl
def Xz (P:aiO) (t:aiP):Option (Nat×Nat):=match P.underlying t with
 |some (.array n e)=>(P.info? e).map λi=>(n,i.size)
 |_=>none
def Yl.tL {ix:aiR} {ad:Addr} {y:Nat} {k:aiT} (c:o.op= .indexAddr t x ix) (f:look σ x=some (.pointer (some ad))) (hi:look σ ix=some (.int k (y:Int))) (b:Xz P t=some (m,sz)) (hy:y<m):Yl P S σ o (.pointer (some (ad.add (y*sz)))):=λa n D Z w l=>by
 unfold Xz at b
 split at b
 ·rename_i p e g
  obtain ⟨i,d,b⟩:=adt.1 b
  injection b with h j
  subst h;subst j
  unfold execOp
  simp [c,Z.eval f,Z.eval hi,Instr.indexAt,asIntOf,run_underlying g,hy,sizeOf,typeInfo,d,aek]
 ·cases b
def aam {e:aiP} {size bytes:Nat} (g:EI P t e z size bytes) {x y hi:aiR} {A:aiW} {m c i j:Nat} {k h:aiT} (f:o.op= .slice t x (some y) (some hi) none) (p:look σ x=some (.slice A m c)) (q:look σ y=some (.int k (i:Int))) (r:look σ hi=some (.int h (j:Int))) (b:i<=j) (l:j<=c):
  Yl P S σ o (.slice (if c=i then A else A.map (·.add (i*size))) (j-i) (c-i)):=λa n D Z w B=>by
 obtain ⟨s,d,_,hs,_⟩:=info_parts g.hi
 have u:i<=c:=ada b l
 have e1:(adG t (.slice A m c) (some (.int k (i:Int))) (some (.int h (j:Int))) none).run P w= .ok (.slice (if c=i then A else A.map (·.add (i*size))) (j-i) (c-i)) w:=by
  subst hs
  simp [adG,run_underlying g.ht,agx,afw,afG,asIntOf,b,l,sizeOf,typeInfo,d]
 unfold execOp
 simp only [f,Z.eval p,Z.eval q,Z.eval r,aeJ,aeK,abI,e1,abA]
 rfl
def XA (P:aiO) (t:aiP):Option Nat:=match P.underlying t with
 |some (.array n _)=>some n
 |_=>none
def Yl.arrayAt {k:Nat} (b:o.op= .sliceToArrayPointer t x) (d:look σ x=some (.slice A m c)) (ht:XA P t=some k) (hk:k<=m):Yl P S σ o (.pointer A):=λa n D Z w g=>by
 unfold XA at ht
 split at ht
 ·rename_i h e f
  injection ht with ht;subst ht
  unfold execOp
  simp [b,Z.eval d,Instr.arrayAt,run_underlying f,Nat.not_lt.2 hk]
 ·cases ht
end
theorem Rd.mid {size j:Nat} (h:Rd w B size A n xs) (a:i<=j) (e:j<=n) (hc:n<=c):
  Rd w B size (if c=i then A else A.map (·.add (i*size))) (j-i) ((xs.take (j*size)).drop (i*size)):=by
 have b:=h.from (k:=i) (cap:=c) om hc
 have d:=b.upto (k:=j-i) om
 rw [List.drop_take,<-Nat.sub_mul]
 exact d
theorem Rd.xR {j:Nat} (h:Rd w B 1 A n (l.map B8)) (a:i<=j) (d:j<=n) (hc:n<=c):
  Rd w B 1 (if c=i then A else A.map (·.add (i*1))) (j-i) (((l.take j).drop i).map B8):=by
 have b:=h.mid a d hc
 rw [ac0,ac0,<-aha,<-ahc] at b
 rw [ac0]
 exact b
section
variable {W w:aiM} {fs:List aiX}
theorem Mem.lG (h:Mem W w fs) {g:Nat} {a:Obj} (hb:W.heap[g]?=some a):w.heap[g]?=some a:=(h.below.block g (z8 hb)).trans hb
theorem Mem.mH (h:Mem W w fs) {g off:Nat} {C:Array aiN} {t:aiP} {v:aiN} (hb:W.heap[g]?=some (.cells C t (0,0))) (hc:C[off]?=some v):w.cell? ⟨g,off,none⟩=some v:=by
 simp [aef,h.lG hb,hc]
theorem Mem.zo5 (h:Mem W w fs) {g:Nat} {C:Array aiN} {t:aiP} (hb:W.heap[g]?=some (.cells C t (0,0))):w.rangeAt g 0 C.toList:=qj (h.lG hb)
end
section
variable {P:aiO} {S:aiM->Prop} {σ:List (Nat×aiN)} {o:aiS}
def aaY {e:aiP} {size bytes:Nat} (g:EI P t e z size bytes) {x y hi s:aiR} {A:aiW} {m c i j q:Nat} {k h k2:aiT} (d:o.op= .slice t x (some y) (some hi) (some s)) (l:look σ x=some (.slice A m c)) (p:look σ y=some (.int k (i:Int))) (r:look σ hi=some (.int h (j:Int))) (hm:look σ s=some (.int k2 (q:Int))) (f:i<=j) (u:j<=q) (v:q<=c):
  Yl P S σ o (.slice (if q=i then A else A.map (·.add (i*size))) (j-i) (q-i)):=λa n D Z w C=>by
 obtain ⟨B,b,_,hs,_⟩:=info_parts g.hi
 have e1:(adG t (.slice A m c) (some (.int k (i:Int))) (some (.int h (j:Int))) (some (.int k2 (q:Int)))).run P w= .ok (.slice (if q=i then A else A.map (·.add (i*size))) (j-i) (q-i)) w:=by
  subst hs
  simp [adG,run_underlying g.ht,agx,afw,afG,asIntOf,f,u,v,sizeOf,typeInfo,b]
 unfold execOp
 simp only [d,Z.eval l,Z.eval p,Z.eval r,Z.eval hm,aeJ,abI,e1,abA]
 rfl
end
def Zi {α:Type} (f:α->List aiN) (sz:Nat) (a:∀x,abo (f x)=sz):∀(l:List α) (k:Nat),(l.flatMap f).take (k*sz)=(l.take k).flatMap f
 |[],_=>by simp
 |_::_,0=>by simp
 |x::l,k+1=>by
  rw [abR,List.take_succ_cons,abR,aft,abL (by rw [a,adI];omega),a,<-Zi f sz a l k]
  congr 2
  rw [adI];omega
def Zj {α:Type} (f:α->List aiN) (sz:Nat) (a:∀x,abo (f x)=sz):∀(l:List α) (k:Nat),(l.flatMap f).drop (k*sz)=(l.drop k).flatMap f
 |[],_=>by simp
 |_::_,0=>by simp
 |x::l,k+1=>by
  rw [abR,List.drop_succ_cons,afu,acs (by rw [a,adI];omega),a,<-Zj f sz a l k,acZ]
  congr 1
  rw [adI];omega
theorem Rd.zpc {α:Type} {f:α->List aiN} (a:∀x,abo (f x)=sz) {w:aiM} {B k c:Nat} {A:aiW} {l:List α} (h:Rd w B sz A (abo l) (l.flatMap f)) (hk:k<=abo l) (hc:abo l<=c):Rd w B sz (if c=k then A else A.map (·.add (k*sz))) (abo (l.drop k)) ((l.drop k).flatMap f):=by
 have b:=h.from hk hc
 rwa [Zj f sz a,<-abE] at b
theorem qc6 {α:Type} {l:List α} {k:Nat} (d:α) (h:k<abo l):l.take (k+1)=l.take k++[l.getD k d]:=by simp_all
section
variable {P:aiO} {Q:aiV->Act->aiM->Prop} {a:Act} {W w:aiM} {n d:Nat} {D:List aiU} {σ:List (Nat×aiN)} {o:aiS} {K:Act->aiM->Prop} {fs:List aiX} {S:aiM->Prop}
def Yl.cap (b:o.op= .call {callee:= .builtin .cap,args:= #[x],argTypes:= #[t]}) (f:look σ x=some (.slice A m c)) (ht:nN P t=true):Yl P S σ o (.int .i64 (c:Int)):=λa n D Z w h=>by
 unfold nN at ht
 split at ht
 ·rename_i e g
  unfold execOp
  simp [b,resolve,invoke,builtin,Z.eval f,Builtin.cap_,run_underlying g,goInt]
 ·cases ht
def qpe (Z:Fr a n D σ) (A:Mem W w fs) {s x:aiR} {t tn e:aiP} {z:aiN} {size bytes m:Nat} {kn k:aiT} (h:o.op= .call {callee:= .builtin .append,args:= #[s,x],argTypes:= #[t,tn]}) (c:EI P t e z size bytes) (j:P.underlying tn=some (.int kn))
  (hs:look σ s=some (.slice none 0 0)) (B:look σ x=some (.int k (m:Int))) (C:0<m) (h63:m<=4611686018427387904) (hb:m*bytes<=281474976710656)
  (E:o.dst=some d) (l:d<n) (F:∀u v g p,Fr u n D ((d,.slice (some ⟨g,0,none⟩) m p)::σ)->Mem W v (.row (.slice (some ⟨g,0,none⟩) m p) m (Builtin.zeroCells z.cells m).toList e size::fs)->m<=p->K u v):o.wp P a w K Q:=by
 obtain ⟨i,hi,hz,q,r⟩:=info_parts c.hi
 have G:=Lib.run_append_nil_zeros (P:=P) w t tn o.type e i z k kn c.ht j hi hz m C (by rw [q];exact c.hs) om (by rw [r];exact hb)
 have y:m<=grownCap w m 0 e:=grownCap_ge w m 0 e
 have H:grownCap w m 0 e<=maxLen:=grownCap_le_maxLen w m 0 e (by unfold maxLen;omega)
 have b:(ab2 z.cells m).size=m*size:=by rw [size_zeroCells,c.hz]
 have f:(w.drew.alloc (.cells (ab2 z.cells m++ab2 z.cells (grownCap w m 0 e-m)) e)).ownsRow w.heap.size e size (.slice (some ⟨w.heap.size,0,none⟩) m (grownCap w m 0 e)) m (ab2 z.cells m).toList:=by
  refine ⟨by simpa using b,.inr ⟨w.heap.size,_,_,rfl,abu _,ad6 w.drew _,y,H,?_,?_⟩⟩
  ·rw [afg,b,size_zeroCells,c.hz,<-aeo]
   congr 1
   omega
  ·rw [agd,<-b,<-acA]
   exact adO
 unfold acS execOp
 simp only [h,resolve,invoke,builtin,abI,abS,abA,ac3,acB,adF,Z.eval hs,Z.eval B,G]
 rw [acr,E]
 exact F _ _ w.heap.size _ (Z.put l _) (A.cZ ((ad2 _ _).drew.alloc (by simp) _) f) y
theorem Mem.shrink (h:Mem W w fs) {i m k c size:Nat} {A:aiW} {e:aiP} {xs:List aiN} (hi:fs[i]?=some (.row (.slice A m c) m xs e size)) (hk:k<=m) (p:A=none->k=0/\c=0):Mem W w (fs.set i (.row (.slice A k c) k (xs.take (k*size)) e size)):=by
 have j:=h.own hi
 refine h.turn hi h.below (λ_ _ _=>rfl) ?_ (λv f=> .inl (by cases A<;>exact f))
 refine ⟨by rw [abx,j.1];exact ac4 (acy _ hk),?_⟩
 rcases j.2 with ⟨b,l⟩|⟨g,cap,cur,b,l,q,x,r,s,t⟩
 ·injection b with b _ _
  obtain ⟨rfl,rfl⟩:=p b
  subst b
  exact .inl ⟨rfl,rfl⟩
 ·injection b with b _ u
  subst b;subst u
  refine .inr ⟨g,c,cur,rfl,l,q,by omega,r,s,?_⟩
  rw [<-t,List.take_take,ac4 (acy _ hk)]
end
theorem XB {m n j:Nat} (hm:m<2^j):m|||n*2^j=m+n*2^j:=by grind [ae7,Nat.mul_comm,Nat.two_pow_add_eq_or_of_lt]
def PZ {m n j p:Nat} (b:2^j=p) (hm:m<p) (hb:m+n*p<4294967296):abT .u32 (Go.IntKind.u32.wrap (ab0 Go.IntKind.u32.bits (m:Int)|||ab0 Go.IntKind.u32.bits ((n*p:Nat):Int)).toNat)= .int .u32 ((m+n*p:Nat):Int):=by
 subst b
 have h:=zmt (m:=m) (n:=n*2^j) om om
 rw [XB hm] at h
 exact h
def zbc {m n j p:Nat} (b:2^j=p) (hm:n<p) (hb:m*p+n<9223372036854775808):abT .i64 (Go.IntKind.i64.wrap (ab0 Go.IntKind.i64.bits ((m*p:Nat):Int)|||ab0 Go.IntKind.i64.bits (n:Int)).toNat)= .int .i64 ((m*p+n:Nat):Int):=by
 subst b
 have h:=zmu (m:=m*2^j) (n:=n) om om
 rw [Nat.or_comm,XB hm,ae7] at h
 exact h
structure Part where
 A:aiW
 c:Nat
 l:List Nat
def aaH (p:Part):aiN:= .slice p.A (abo p.l) p.c
def F5 {l:List Part} {k:Nat} {d:Part} (h:k<abo l):(l.take (k+1)).flatMap (·.l)=(l.take k).flatMap (·.l)++(l.getD k d).l:=by
 rw [adM,getD_at d h];simp
theorem F6 {l:List Part} (k:Nat):abo ((l.take k).flatMap (·.l))<=abo (l.flatMap (·.l)):=by grind [abq,ab8]
def rA (n:Nat):List Nat:=[n%256,n/256%256,n/65536%256,n/16777216%256]
def aY (l:List Nat):List Nat:=l++rA (zy l)
def jZ (l:List Nat):Nat:=l.getD 0 0+256*l.getD 1 0+65536*l.getD 2 0+16777216*l.getD 3 0
def zn (l:List Nat):Bool:=decide (4<=abo l/\zy (l.take (abo l-4))=jZ (l.drop (abo l-4)))
def P9 (k:Nat) (h:k<16):tN.getD k 0<4294967296:=by
 have:∀k,k<16->tN.getD k 0<4294967296:=by decide
 exact this k h
def Is (w:aiM) (v:aiN) (r:aiQ) (a:aiM):Prop:=r= .returned v/\Below w.heap.size w a
def sD (w:aiM) (R:List Nat) (r:aiQ) (a:aiM):Prop:=
 (∃A c,r= .returned (.slice A (abo R) c)/\a.ownsRow w.heap.size 5 1 (.slice A (abo R) c) (abo R) (R.map B8)/\abo R<=c)/\Below w.heap.size w a
def sD.as {R R':List Nat} {r:aiQ} (h:sD w R r W) (e:R=R'):sD w R' r W:=e▸h
def qrw {R xs:List Nat} (a:W.ownsRow w.heap.size 5 1 (.slice A n c) n (xs.map B8)) (hc:n<=c) (b:n=abo R) (d:xs=R) (hb:Below w.heap.size w W):sD w R (.returned (.slice A n c)) W:=by
 subst d;subst b
 exact ⟨⟨A,c,rfl,a,hc⟩,hb⟩
def quu (c:Nat) (l:List Nat) (x:Nat):zm c (l++[x])=Er (zm c l) x:=by unfold zm;rw [agy];rfl
def quv {c k:Nat} (h:k<abo l):zm c (l.take (k+1))=Er (zm c (l.take k)) (l.getD k 0):=by
 rw [adM,getD_at 0 h];exact quu _ _ _
def vD (h:∀b∈l,b<m) (k:Nat):∀b∈l.take k,b<m:=λb a=>h b (List.mem_of_mem_take a)
theorem xU (h:∀b∈l,b<m) (k:Nat):∀b∈l.drop k,b<m:=λb a=>h b (abU a)
def zmv (h:c<4294967296):rP c<4294967296:=F8 om (P9 _ om)
def XG (l:List Nat):zy l<4294967296:=by unfold zy;omega
def XH (n:Nat):∀b∈rA n,b<256:=by intro b a;simp [rA] at a;omega
theorem XI (n:Nat):abo (rA n)=4:=rfl
theorem pY (l:List Nat):abo (aY l)=abo l+4:=by unfold aY;rw [abq,XI]
def Mk (a:∀b∈l,b<256):∀b∈aY l,b<256:=by
 intro b c
 rcases acg.1 c with h|h
 ·exact a b h
 ·exact XH _ b h
theorem zbg:∀{l:List Nat},(∀x∈l,x<256)->4<=abo l->rA (jZ l)=l.take 4
 |a::b::c::d::r,e,_=>by
  have f:=e a (by simp)
  have g:=e b (by simp)
  have hc:=e c (by simp)
  have i:=e d (by simp)
  simp [rA,jZ]
  omega
 |[],_,h=>by simp at h
 |[_],_,h=>by simp at h
 |[_,_],_,h=>by simp at h
 |[_,_,_],_,h=>by simp at h
def XJ (h:n<4294967296) (r:List Nat):jZ (rA n++r)=n:=by simp [jZ,rA];omega
theorem zbh (a:∀x∈l,x<256) (h:4<=abo l):rA (jZ (l.drop (abo l-4)))=l.drop (abo l-4):=by grind [xU,zbg,abE,abL]
theorem XK (a:∀x∈l,x<256) (h:zn l=true):aY (l.take (abo l-4))=l:=by simp_all [zbh,aY,zn]
theorem Qa {l:List Nat}:zn (aY l)=true:=by
 have a:zy l<4294967296:=XG l
 have e:abo (aY l)-4=abo l:=by rw [pY];omega
 unfold zn
 rw [decide_eq_true_eq,e]
 unfold aY
 refine ⟨by rw [abq,XI];omega,?_⟩
 rw [adO,afE]
 have:=XJ a []
 rw [abM] at this
 exact this.symm
def yM (x:Nat):∀b∈ak x,b<256:=by
 intro b a
 unfold ak at a
 obtain ⟨p,c,rfl⟩:=ab7.1 a
 have:=Wz 10 x p c
 unfold bJ
 split<;>omega
def zii {m:List Nat} (a:∀b∈l,b<256) (hm:∀b∈m,b<256):((jX l).toList==(jX m).toList)=decide (l=m):=by
 rw [ab3,beq_iff_eq,decide_eq_true_eq]
 constructor
 ·intro h
  refine za1 a hm ?_
  rw [afS,afS] at h
  cases hx:jX l;cases hy:jX m
  rw [hx,hy] at h
  simpa using h
 ·rintro rfl;rfl
set_option linter.all false
def QW (P:aiO) (t:aiP):Bool:=match P.underlying t with
 |some (.array n e)=>n==2&& (P.cellsOf e==1&& (gM P e&&match P.underlying e with
  |some (.int _)=>true
  |_=>false))
 |_=>false
def zcj (ht:QW P t=true) {k:acw} (a b c d:Int) (w:aiM):
  (adg t (.agg #[.int k a,.int k b]) (.agg #[.int k c,.int k d])).run P w= .ok (a==c&&b==d) w:=by
 unfold QW at ht
 split at ht
 ·rename_i n e r
  simp only [abG,beq_iff_eq] at ht
  obtain ⟨s,u,z,g⟩:=ht
  subst s
  split at g
  ·rename_i A l
   obtain ⟨i,hi⟩:=info_of_underlying l
   show (acT (9999+1) t _ _).run P w=_
   rw [run_equalIn_array w 9999 _ _ r hi,u]
   have f:∀(xs:Array aiN) (j:Nat) (v:aiN),xs[j]?=some v->(part e xs j).run P w= .ok v w:=λxs j v h=>by
    unfold part
    simp [FZ z,h]
   have m:∀x y,(acT 9999 e (.int k x) (.int k y)).run P w= .ok (x==y) w:=λx y=>run_equalIn_int w 9998 e k A x y l
   show (Op.eqItems 9999 e 1 _ _ [0,1]).run P w=_
   have B:(part e #[.int k a,.int k b] 0).run P w= .ok (.int k a) w:=f _ _ _ rfl
   have C:(part e #[.int k c,.int k d] 0).run P w= .ok (.int k c) w:=f _ _ _ rfl
   have D:(part e #[.int k a,.int k b] 1).run P w= .ok (.int k b) w:=f _ _ _ rfl
   have E:(part e #[.int k c,.int k d] 1).run P w= .ok (.int k d) w:=f _ _ _ rfl
   have p:=m a c
   have q:=m b d
   generalize (9999:Nat)=dd at p q⊢
   simp only [Op.eqItems,abI,af9,ahv,B,C,p,abA]
   cases h5:(a==c)<;>cases h6:(b==d)<;>simp [D,E,q,h6]
  ·cases g
 ·cases ht
section
variable {P:aiO} {S:aiM->Prop} {σ:List (Nat×aiN)} {o:aiS}
def qsd (c:P.eqGuardType P.depth t=false) (op:BinOp) (x y:aiR) (a b:Array aiN) (w:aiM):(eqGuard op t x y (.agg a) (.agg b)).run P w= .ok () w:=by
 unfold eqGuard
 cases op<;>simp<;>simp [c]
def aaX {p q:aiR} {a b c d:Int} (f:o.op= .binOp .neq t p q u) (g:look σ p=some (.agg #[.int k a,.int k b])) (hy:look σ q=some (.agg #[.int k c,.int k d])) (ht:QW P t=true) (h:P.eqGuardType P.depth t=false):Yl P S σ o (.bool (!(a==c&&b==d))):=λi n D Z w j=>by
 unfold execOp
 have e:(binOp .neq t (.agg #[.int k a,.int k b]) (.agg #[.int k c,.int k d])).run P w= .ok (.bool (!(a==c&&b==d))) w:=by
  show ((do aeC (.bool (!(<-adg t (.agg #[.int k a,.int k b]) (.agg #[.int k c,.int k d])))):Sem aiN)).run P w=_
  simp [zcj ht]
 simp only [f,Z.eval g,Z.eval hy,abI,qsd h,abA,e,abS]
end
def zm9 {o k:Nat} (h:Rd w B 1 (some ⟨g,o,none⟩) n (l.map B8)) (hk:k+2<=abo l):w.rangeAt g (o+k) (#[B8 (l.getD k 0),B8 (l.getD (k+1) 0)]:Array aiN).toList:=λj v a=>by
 have b:=h.range
 rw [afe]
 refine b (k+j) v ?_
 rcases j with _|_|j
 ·simp at a
  rw [acK,<-a]
  exact vw (getD_at 0 om)
 ·simp at a
  rw [<-a]
  exact vw (getD_at 0 om)
 ·simp at a
section
variable {P:aiO} {S:aiM->Prop} {σ:List (Nat×aiN)} {o:aiS}
def aax (b:o.op= .binOp .rem t x y u) (c:look σ x=some (.int k (m:Int))) (hy:look σ y=some (.int k (n:Int))) (e:0<n):Yl P S σ o (.int k ((m%n:Nat):Int)):=λa N D Z w f=>by
 have d:tJ .rem (.int k (m:Int)) (.int k (n:Int))=some (.int k ((m%n:Nat):Int)):=by
  show (if k=k then Ef .rem k (m:Int) (n:Int) else none)=_
  rw [if_pos rfl]
  show (if (n:Int)=0 then none else some (abT k ((m:Int).tmod (n:Int))))=_
  rw [if_neg om]
  exact congrArg some (zi k m n)
 unfold execOp
 simp [b,Z.eval c,Z.eval hy,xK (P:=P) .rem t x y (a:= .int k (m:Int)) rfl,FP d t]
def abe (b:o.op= .binOp .quo t x y u) (c:look σ x=some (.int k (m:Int))) (hy:look σ y=some (.int k (n:Int))) (e:0<n) (hm:m<=kN k):Yl P S σ o (.int k ((m/n:Nat):Int)):=λa N D Z w f=>by
 have d:tJ .quo (.int k (m:Int)) (.int k (n:Int))=some (.int k ((m/n:Nat):Int)):=by
  show (if k=k then Ef .quo k (m:Int) (n:Int) else none)=_
  rw [if_pos rfl]
  show (if (n:Int)=0 then none else some (abT k (k.wrap ((m:Int).tdiv (n:Int)))))=_
  rw [if_neg om]
  exact congrArg some (zbb k n hm)
 unfold execOp
 simp [b,Z.eval c,Z.eval hy,xK (P:=P) .quo t x y (a:= .int k (m:Int)) rfl,FP d t]
def aat {c:acw} (b:o.op= .binOp .shr t x y u) (d:look σ x=some (.int k (m:Int))) (hy:look σ y=some (.int c (n:Int))) (e:n<=k.bits):Yl P S σ o (.int k ((m/2^n:Nat):Int)):=λa N D Z w g=>by
 have f:tJ .shr (.int k (m:Int)) (.int c (n:Int))=some (.int k ((m/2^n:Nat):Int)):=by
  show (if (n:Int)<0 then none else some (abT k (Int.fdiv (m:Int) (2^ (ahn (n:Int).toNat k.bits)))))=_
  rw [if_neg om]
  exact congrArg some (uI k m (j:=n) rfl (by rw [abH,ac4 e]))
 unfold execOp
 simp [b,Z.eval d,Z.eval hy,xK (P:=P) .shr t x y (a:= .int k (m:Int)) rfl,FP f t]
def aaC {c:acw} (b:o.op= .binOp .shl t x y u) (d:look σ x=some (.int k (m:Int))) (hy:look σ y=some (.int c (n:Int))) (f:n<=k.bits) (hm:m*2^n<=kN k):Yl P S σ o (.int k ((m*2^n:Nat):Int)):=λa N D Z w h=>by
 have g:tJ .shl (.int k (m:Int)) (.int c (n:Int))=some (.int k ((m*2^n:Nat):Int)):=by
  show (if (n:Int)<0 then none else some (abT k (k.wrap ((m:Int)*2^ (ahn (n:Int).toNat k.bits)))))=_
  rw [if_neg om]
  have e:(m:Int)*2^ (ahn (n:Int).toNat k.bits)=((m*2^n:Nat):Int):=by rw [abH,ac4 f];norm_cast
  rw [e,xP k hm]
 unfold execOp
 simp [b,Z.eval d,Z.eval hy,xK (P:=P) .shl t x y (a:= .int k (m:Int)) rfl,FP g t]
end
section
variable {P:aiO} {S:aiM->Prop} {σ:List (Nat×aiN)} {o:aiS} {v:aiN}
def Qb (P:aiO) (t:aiP):Bool:=match P.underlying t with
 |some (.pointer _)=>true
 |_=>false
def q4n {a:aiW} (ht:Qb P t=true) (w:aiM):(adg t (.pointer a) (.pointer none)).run P w= .ok a.isNone w:=by
 unfold Qb at ht
 split at ht
 ·rename_i c
  show (acT (9999+1) t (.pointer a) (.pointer none)).run P w=_
  unfold acT
  cases a<;>simp only [abI,run_underlying c,abA]<;>rfl
 ·cases ht
def zbk {a:aiW} {m c m' g:Nat} (ht:nN P t=true) (w:aiM):(adg t (.slice a m c) (.slice none m' g)).run P w= .ok a.isNone w:=by
 unfold nN at ht
 split at ht
 ·rename_i d
  show (acT (9999+1) t (.slice a m c) (.slice none m' g)).run P w=_
  unfold acT
  cases a<;>simp only [abI,run_underlying d,abA]<;>rfl
 ·cases ht
def aaD {b:Bool} {a:aiW} (c:o.op= .binOp .eql t x y u) (d:look σ x=some (.pointer a)) (hy:look σ y=some (.pointer none)) (hb:a.isNone=b:=by rfl) (ht:Qb P t=true:=by kernel_rfl):Yl P S σ o (.bool b):=λ_ n D Z w f=>by
 subst hb
 unfold execOp
 have e:(binOp .eql t (.pointer a) (.pointer none)).run P w= .ok (.bool a.isNone) w:=by
  show ((do aeC (.bool (<-adg t (.pointer a) (.pointer none))):Sem aiN)).run P w=_
  simp [q4n ht]
 simp only [c,Z.eval d,Z.eval hy,abI,xK (P:=P) .eql t x y (a:= .pointer a) rfl,abA,e,abS]
def aaz {b:Bool} {a:aiW} {m':Nat} (d:o.op= .binOp .eql t x y u) (f:look σ x=some (.slice a m c)) (hy:look σ y=some (.slice none m' g)) (hb:a.isNone=b:=by rfl) (ht:nN P t=true:=by kernel_rfl):Yl P S σ o (.bool b):=λ_ n D Z w h=>by
 subst hb
 unfold execOp
 have e:(binOp .eql t (.slice a m c) (.slice none m' g)).run P w= .ok (.bool a.isNone) w:=by
  show ((do aeC (.bool (<-adg t (.slice a m c) (.slice none m' g))):Sem aiN)).run P w=_
  simp [zbk ht]
 simp only [d,Z.eval f,Z.eval hy,abI,xK (P:=P) .eql t x y (a:= .slice a m c) rfl,abA,e,abS]
def Yl.nilCheck {p:Addr} (a:o.op= .nilCheck x) (c:look σ x=some (.pointer (some p))):Yl P S σ o (.pointer (some p)):=λ_ n D Z w d=>by
 unfold execOp
 simp only [a,Z.eval c]
 rfl
end
def sF (P:aiO) (t:aiP) (a:Array aiN) (off:Nat):Option aiN:=
 match P.underlying t,P.info? t with
 |some (.struct _),some i=>some (.agg (a.extract off (off+i.size)))
 |some (.int _),_=>a[off]?
 |some .bool,_=>a[off]?
 |some .string,_=>a[off]?
 |_,_=>none
def Ch (P:aiO) (eq:aiP->aiN->aiN->Option Bool) (xs ys:Array aiN):List Field->Option Bool
 |[]=>some true
 | f :: c => if f.name = "_" then none else
  match sF P f.type xs f.offset,sF P f.type ys f.offset with
  |some a,some b=>match eq f.type a b,Ch P eq xs ys c with
   |some r,some s=>some (r&&s)
   |_,_=>none
  |_,_=>none
def nO (P:aiO):Nat->aiP->aiN->aiN->Option Bool
 |0,_,_,_=>none
 |d+1,t,x,y=>match P.underlying t,x,y with
  |some (.int _),.int k a,.int c b=>if k=c then some (a==b) else none
  |some .bool,.bool a,.bool b=>some (a==b)
  |some .string,.string a,.string b=>some (a.toList==b.toList)
  |some (.struct e),.agg xs,.agg f=>if P.stoodInHeld t then none else Ch P (nO P d) xs f e.toList
  |_,_,_=>none
def XO {off:Nat} {v:aiN} (h:sF P t C off=some v) (w:aiM):(part t C off).run P w= .ok v w:=by
 unfold sF at h
 split at h
 ·rename_i c i a hi
  injection h with h;subst h
  simp [part,isAgg,run_underlying a,sizeOf,typeInfo,hi]
 ·rename_i k _ a
  simp [part,isAgg,run_underlying a,h]
 ·rename_i _ a
  simp [part,isAgg,run_underlying a,h]
 ·rename_i _ a
  simp [part,isAgg,run_underlying a,h]
 ·cases h
def XP {P:aiO} {d:Nat} (c:∀(t:aiP) (x y:aiN) (b:Bool),nO P d t x y=some b->∀w,(acT d t x y).run P w= .ok b w) {xs ys:Array aiN}:∀(a:List Field) (b:Bool),Ch P (nO P d) xs ys a=some b->∀w,(Op.eqFields d xs ys a).run P w= .ok b w
 |[],b,h,w=>by
  injection h with h;subst h;rfl
 | f :: a, b, h, w => by
  unfold Ch at h
  split at h
  ·cases h
  ·rename_i e
   split at h
   ·rename_i p q g i
    split at h
    ·rename_i r s j hs
     injection h with h;subst h
     unfold Op.eqFields
     rw [if_pos e]
     simp only [abI,XO g,XO i,c _ _ _ _ j,abA]
     cases r
     ·simp
     ·simp [XP c a s hs w]
    ·cases h
   ·cases h
def XQ {P:aiO}:∀(d:Nat) (t:aiP) (x y:aiN) (b:Bool),nO P d t x y=some b->∀w,(acT d t x y).run P w= .ok b w
 |0,_,_,_,_,h,_=>by cases h
 | d + 1, t, x, y, b, h, w => by
  unfold nO at h
  split at h
  ·rename_i l k a m e c
   split at h
   ·rename_i g;subst g;injection h with h;subst h;exact run_equalIn_int w d t _ _ _ _ c
   ·cases h
  ·rename_i a e c;injection h with h;subst h;exact run_equalIn_bool' w d t _ _ c
  ·rename_i a e c;injection h with h;subst h;exact run_equalIn_string w d t _ _ c
  ·rename_i i xs j c
   split at h
   ·cases h
   ·rename_i hs
    have f:P.fieldsOf t=i:=by unfold Program.fieldsOf;rw [c]
    rw [run_equalIn_struct w d t xs j (by rw [c,f]) (by simpa using hs),f]
    exact XP (XQ d) _ _ h w
  ·cases h
def XR {P:aiO}:∀(d:Nat) (t:aiP) (x y:aiN) (b:Bool),nO P d t x y=some b->nO P (d+1) t x y=some b
 |0,_,_,_,_,h=>by cases h
 | d + 1, t, x, y, b, h => by
  have g : ∀ (c : List Field) (xs e : Array aiN) (b : Bool), Ch P (nO P d) xs e c = some b -> Ch P (nO P (d + 1)) xs e c = some b := by
   intro c
   induction c with
   |nil=>intro xs e b h;exact h
   | cons f c i =>
    intro xs e b h
    unfold Ch at h⊢
    split at h
    ·cases h
    ·rename_i j
     rw [if_neg j]
     split at h
     ·rename_i p q l m
      split at h
      ·rename_i r s k hs
       injection h with h;subst h
       simp only [XR d _ _ _ _ k,i _ _ _ hs]
      ·cases h
     ·cases h
  unfold nO at h⊢
  split at h
  ·rename_i a;(try simp only [a]);exact h
  ·rename_i a;(try simp only [a]);exact h
  ·rename_i a;(try simp only [a]);exact h
  ·rename_i c xs e a
   (try simp only [a])
   split at h
   ·cases h
   ·rename_i hs
    rw [if_neg hs]
    exact g _ _ _ _ h
  ·cases h
def XT {P:aiO} {d:Nat} {t:aiP} {x y:aiN} {b:Bool} (h:nO P d t x y=some b):∀k,nO P (d+k) t x y=some b
 |0=>h
 |k+1=>XR _ _ _ _ _ (XT h k)
section
variable {P:aiO} {S:aiM->Prop} {σ:List (Nat×aiN)} {o:aiS} {b:Bool}
def quw {xs:Array aiN} {d:Nat} (h:nO P d t (.agg xs) (.agg ys)=some b) (c:d<=10000) (w:aiM):(adg t (.agg xs) (.agg ys)).run P w= .ok b w:=by
 unfold adg
 have a:=XT h (10000-d)
 rw [show d+(10000-d)=10000 by omega] at a
 exact XQ _ _ _ _ _ a w
def qux (hm:P.eqGuardType P.depth t=false) (op:BinOp) (x y:aiR) (a c:Array aiN) (w:aiM):(eqGuard op t x y (.agg a) (.agg c)).run P w= .ok () w:=run_eqGuard_agg w op t x y a c hm
def aau {p q:aiR} {xs:Array aiN} {d:Nat} (c:o.op= .binOp .neq t p q u) (f:look σ p=some (.agg xs)) (hy:look σ q=some (.agg ys)) (h:nO P d t (.agg xs) (.agg ys)=some b) (g:d<=10000:=by decide) (hm:P.eqGuardType P.depth t=false:=by kernel_rfl):Yl P S σ o (.bool !b):=λa n D Z w i=>by
 unfold execOp
 have e:(binOp .neq t (.agg xs) (.agg ys)).run P w= .ok (.bool !b) w:=by
  show ((do aeC (.bool (!(<-adg t (.agg xs) (.agg ys)))):Sem aiN)).run P w=_
  simp [quw h g]
 simp only [c,Z.eval f,Z.eval hy,abI,qux hm,abA,e,abS]
end
def Nc (P:aiO) (t:aiP) (n sz:Nat):Bool:=match P.underlying t with
 |some (.array m e)=>m==n&& (match P.info? e with|some i=>i.size==sz|none=>false)
 |_=>false
theorem Z5 (h:Nc P t n sz=true):∃e i,P.underlying t=some (.array n e)/\P.info? e=some i/\i.size=sz:=by grind [Nc]
def Z6 (P:aiO) (t:aiP) (sz:Nat) (vs:List (Nat×aiN)):Option (Array aiN):=match xL P t with
 |some a=>ae5 (λi=>some (i*sz,sz)) a vs
 |none=>none
section
variable {P:aiO} {S:aiM->Prop} {σ:List (Nat×aiN)} {o:aiS} {t:aiP} {n sz:Nat}
def aaP {ad:Addr} (b:o.op= .slice t x none none none) (g:look σ x=some (.pointer (some ad))) (ht:Nc P t n sz=true) (h:(n==0)=false:=by decide):Yl P S σ o (.slice (some ad) n n):=λa N D Z w k=>by
 obtain ⟨e,i,c,hi,_⟩:=Z5 ht
 have d:P.arrayLen t=n:=by unfold Program.arrayLen;rw [c]
 have f:P.elem t=e:=by unfold Program.elem;rw [c]
 have e1:(adG t (.pointer (some ad)) none none none).run P w= .ok (.slice (some ad) n n) w:=by
  rw [run_sliceAt_array_all w t ad (by rw [d,f];exact c),f,d]
  have j:n≠0:=by simpa using h
  simp [sizeOf,typeInfo,hi,slicedAt,j,Addr.add]
 unfold execOp
 simp only [b,Z.eval g,aeK,abI,abS,e1,abA]
def aas {vs:List (Nat×aiN)} (c:o.op= .build t ps) (j:xM σ ps.toList=some vs) (k:Nc P t n sz=true) (hb:Z6 P t sz vs=some C):Yl P S σ o (.agg C):=λa N D Z w q=>by
 have d:=PO Z j
 obtain ⟨e,r,l,m,f⟩:=Z5 k
 obtain ⟨b,hz,hb⟩:∃b,xL P t=some b/\ae5 (λi=>some (i*sz,sz)) b vs=some C:=by
  unfold Z6 at hb
  split at hb
  ·rename_i b hz;exact ⟨b,hz,hb⟩
  ·cases hb
 unfold xL at hz
 obtain ⟨s,g,rfl⟩:=adt.1 hz
 obtain ⟨i,hi,h⟩:=adh.1 g
 have e1:(aej t (ps.map λp=>(p.1,a.eval p.2))).run P w= .ok (.agg C) w:=by
  rw [d]
  unfold aej
  subst f
  simp only [abI,zeroValue,sizeOf,typeInfo,program,afn,hi,m,h,abS,abA,run_underlying l]
  rw [hb];rfl
 unfold execOp
 simp only [c,abI,abS]
 show ((aej t (ps.map λp=>(p.1,a.eval p.2))).run P w).andThen _=_
 rw [e1]
 rfl
end
theorem Mem.Hz (h:Mem W w fs) {i g:Nat} {C ds:Array aiN} {t:aiP} (hi:fs[i]?=some (.blk g C t)) (a:C=ds):Mem W w (fs.set i (.blk g ds t)):=by grind [abB,adY]
section
variable {P:aiO} {S:aiM->Prop} {σ:List (Nat×aiN)} {o:aiS} {v:aiN}
end
section
variable {P:aiO} {ops:Array aiS} {Q:aiV->Act->aiM->Prop} {a:Act} {W w:aiM} {n i j d fuel:Nat} {D:List aiU} {σ σ':List (Nat×aiN)} {o:aiS} {v:aiN} {md:Region.Mode} {S:aiM->Prop} {K:Act->aiM->Prop} {listed:Array Bool} {fs fs':List aiX} {ex:List Nat}
def aad {α:Type} {F:α->aiN} {l:List α} {of:Nat} (hr:Rd W W.heap.size 1 (some ⟨g,of,none⟩) m (l.map F)) (b:Nat) (e:α) (hk:b<l.length) (c:o.op= .load t x) (f:look σ x=some (.pointer (some ⟨g,of+b*1,none⟩))) (ht:gM P t=true:=by kernel_rfl) (p:F (l.getD b e)=v:=by exact rfl):Yl P (λq=>Mem W q fs) σ o v:=by
 subst p
 exact Pd c f ht λ_ h=>(h.old hr).BS (k:=b) (vw (getD_at e hk))
def aae {α:Type} {F:α->aiN} {l:List α} {e:aiP} (j b:Nat) (k:α) (hk:b<l.length) (f:o.op= .load t x) (p:look σ x=some (.pointer (some ⟨g,b*1,none⟩))) (hi:fs[j]?=some (.row (.slice (some ⟨g,0,none⟩) m c) m (l.map F) e 1)) (ht:gM P t=true:=by kernel_rfl) (q:F (l.getD b k)=v:=by exact rfl):Yl P (λr=>Mem W r fs) σ o v:=by
 subst q
 exact Pd f p ht λ_ h=>h.Xm hi (vw (getD_at k hk))
def bt (n:Nat) (l:List Nat):Array Bool:=((aco n).map λi=> !l.contains i).toArray
def bf (n:Nat) (l:List Nat):Array Bool:=((aco n).map λi=>l.contains i).toArray
def iw (Z:Fr a n D σ) (g:S w) (i:Nat) (l:ops[i]?=some o) (hy:Yl P S σ o v) (k:∀f,Fr f n D ((d,v)::σ)->ql P md ops Q S ex fuel (listed.setIfInBounds i true) f w) (m:eB ops σ o=some true:=by exact rfl) (p:o.dst=some d:=by exact rfl)
  (b:d<n:=by decide) (e:sw md ops ex listed i=true:=by kernel_rfl) (q:∀c (a:Act) w,Q (.panic c) (a.put o.dst v) w->Q (.panic c) a w:=by intro _ _ _ h;exact h):ql P md ops Q S ex (fuel+1) listed a w:=Ej Z g l m p b e q hy k
def dH {off:Nat} (Z:Fr a n D σ) (p:Mem W w fs) (i j:Nat) (k:∀m,Fr m n D ((d,v)::σ)->ql P md ops Q (λb=>Mem W b fs) ex fuel (listed.setIfInBounds i true) m w) (q:ops[i]?=some o:=by exact rfl) (e:o.op= .load t x:=by exact rfl) (r:look σ x=some (.pointer (some ⟨g,off,none⟩)):=by exact rfl) (hi:fs[j]?=some (.blk g C tb):=by exact rfl) (s:C[off]?=some v:=by exact rfl) (u:eB ops σ o=some true:=by exact rfl) (y:o.dst=some d:=by exact rfl)
  (ht:gM P t=true:=by kernel_rfl) (f:d<n:=by decide) (l:sw md ops ex listed i=true:=by kernel_rfl) (z:∀c (a:Act) w,Q (.panic c) (a.put o.dst v) w->Q (.panic c) a w:=by intro _ _ _ h;exact h):ql P md ops Q (λb=>Mem W b fs) ex (fuel+1) listed a w:=Ej Z p q u y f l z (Pd e r ht λ_ h=>h.cell hi s) k
def p9 (Z:Fr a n D σ) (l:S w) (i:Nat) (k:∀g,Fr g n D ((d,.int .i64 (m:Int))::σ)->ql P md ops Q S ex fuel (listed.setIfInBounds i true) g w) (p:ops[i]?=some o:=by exact rfl) (b:o.op= .call {callee:= .builtin .len,args:= #[x],argTypes:= #[t]}:=by exact rfl) (q:look σ x=some (.slice A m c):=by exact rfl) (r:eB ops σ o=some true:=by exact rfl) (s:o.dst=some d:=by exact rfl)
  (ht:nN P t=true:=by kernel_rfl) (e:d<n:=by decide) (f:sw md ops ex listed i=true:=by kernel_rfl) (u:∀c (a:Act) w,Q (.panic c) (a.put o.dst (.int .i64 (m:Int))) w->Q (.panic c) a w:=by intro _ _ _ h;exact h):ql P md ops Q S ex (fuel+1) listed a w:=Ej Z l p r s e f u (Yl.len b q ht) k
def Ci {p:Addr} (Z:Fr a n D σ) (l:eD ex listed=false->S w) (i:Nat) (k:∀g,Fr g n D ((d,.pointer (some p))::σ)->ql P md ops Q S ex fuel (listed.setIfInBounds i true) g w) (m:ops[i]?=some o:=by exact rfl) (b:o.op= .nilCheck x:=by exact rfl) (q:look σ x=some (.pointer (some p)):=by exact rfl) (r:eB ops σ o=some true:=by exact rfl) (s:o.dst=some d:=by exact rfl)
  (e:d<n:=by decide) (f:pJ md ops ex listed i=true:=by kernel_rfl) (t:∀c (a:Act) w,Q (.panic c) (a.put o.dst (.pointer (some p))) w->Q (.panic c) a w:=by intro _ _ _ h;exact h):ql P md ops Q S ex (fuel+1) listed a w:=pK Z l m r s e f t (λ_=>Yl.nilCheck b q) k
def oO {p:Addr} (Z:Fr a n D σ) (l:S w) (i:Nat) (k:∀g,Fr g n D ((d,.pointer (some p))::σ)->ql P md ops Q S ex fuel (listed.setIfInBounds i true) g w) (m:ops[i]?=some o:=by exact rfl) (b:o.op= .nilCheck x:=by exact rfl) (q:look σ x=some (.pointer (some p)):=by exact rfl) (r:eB ops σ o=some true:=by exact rfl) (s:o.dst=some d:=by exact rfl)
  (e:d<n:=by decide) (f:sw md ops ex listed i=true:=by kernel_rfl) (t:∀c (a:Act) w,Q (.panic c) (a.put o.dst (.pointer (some p))) w->Q (.panic c) a w:=by intro _ _ _ h;exact h):ql P md ops Q S ex (fuel+1) listed a w:=Ej Z l m r s e f t (Yl.nilCheck b q) k
def s_on (Z:Fr a n D σ) (i:Nat) (c:ops[i]?=some o) (h:o.wp P a w (λe b=>(eD ex (listed.setIfInBounds i true)=false->S b)/\ql P md ops Q S ex fuel (listed.setIfInBounds i true) e b) Q) (hr:Region.ready md ops listed=[i]:=by kernel_rfl) (f:eB ops σ o=some true:=by exact rfl):ql P md ops Q S ex (fuel+1) listed a w:=zf [i] hr rfl (all_cons (qu Z c f h) all_nil)
def Cj {xs:Array aiR} {ts:Array aiP} {V:aiW->Nat->aiN} {e:aiP} {ys:List aiN} (Z:Fr a n D σ) (p:Mem W w fs) (vs:List aiN) (q:Calls P f vs.toArray w (λr b=>(∃A c,r= .returned (V A c)/\b.ownsRow w.heap.size e sz (.slice A m c) m ys/\m<=c)/\Below w.heap.size w b))
  (k:∀A c b,m<=c->Mem W b (.row (.slice A m c) m ys e sz::fs)->∀g,Fr g n D ((d,V A c)::σ)->K g b) (h:o.op= .call {callee:= .value (.func f),args:=xs,argTypes:=ts}:=by exact rfl) (s:o.dst=some d:=by exact rfl) (t:looks σ xs.toList=some vs:=by kernel_rfl) (u:callable P f=true:=by kernel_rfl) (l:d<n:=by decide):o.wp P a w K Q:=
 lF Z vs h s q (λe b ⟨⟨A,c,x,y,z⟩,B⟩=>⟨_,x,λg Z=>k A c b z (p.cZ B y) g Z⟩) t u l
def Ga {xs:Array aiR} {ts:Array aiP} (Z:Fr a n D σ) (vs:List aiN) (l:Calls P f vs.toArray w (λr b=>r= .returned v/\Mem W b fs')) (k:∀b,Mem W b fs'->∀h,Fr h n D ((d,v)::σ)->K h b) (c:o.op= .call {callee:= .value (.func f),args:=xs,argTypes:=ts}:=by exact rfl) (m:o.dst=some d:=by exact rfl) (p:looks σ xs.toList=some vs:=by kernel_rfl) (q:callable P f=true:=by kernel_rfl) (g:d<n:=by decide):o.wp P a w K Q:=
 lF Z vs c m l (λe b ⟨s,t⟩=>⟨_,s,k b t⟩) p q g
def nP {f:Nat} {fn:Func} {c:Code} (b:P.funcs[f]?=some fn) (vs:List aiN) (σ0:List (Nat×aiN)) (k:∀a,Fr a N [] σ0->c.wp P (bodyPost P fn R) a w) (hb:fn.body=some c:=by exact rfl) (e:fn.ntmps=N:=by exact rfl) (g:decide (vs.length<=N)=true:=by kernel_rfl) (h:Ag 0 vs=σ0:=by exact rfl):Calls P f vs.toArray w R:=yI b hb e g h k
theorem Mem.pk (h:Mem W w fs) (b:List Nat) (c:b.Nodup:=by decide) (e:Go.Proofs.YtekiimhdnigmcaaGreatDoor.picks fs b=fs':=by exact rfl):Mem W w fs':=h.picks b c e
theorem Mem.pt (h:Mem W w fs) (n:Nat) (b:List Nat) (e:b.Nodup:=by decide) (c:(b.all (· <n))=true:=by decide) (f:Go.Proofs.YtekiimhdnigmcaaGreatDoor.picks fs b++fs.drop n=fs':=by exact rfl):Mem W w fs':=h.PV n b e c f
def gX (Z:Fr a n D σ) (m:Mem W w fs) {e:aiP} (f:Array aiN) (k:∀h l g,Fr h n D ((d,.pointer (some ⟨g,0,none⟩))::σ)->Mem W l (.blk g f e::fs)->K h l) (b:o.op= .alloc e:=by exact rfl) (hz:xL P e=some f:=by kernel_rfl) (p:o.dst=some d:=by exact rfl) (c:d<n:=by decide):o.wp P a w K Q:=PN Z m b hz p c k
def eO (Z:Fr a n D σ) (e:Mem W w fs) (i:Nat) {t:aiP} {x y:aiR} {g off:Nat} {C:Array aiN} {tb:aiP} (k:∀c,Mem W c (fs.set i (.blk g (C.setIfInBounds off v) tb))->K a c) (b:o.op= .store t x y:=by exact rfl) (f:o.dst=none:=by exact rfl) (h:look σ x=some (.pointer (some ⟨g,off,none⟩)):=by exact rfl) (hy:look σ y=some v:=by exact rfl) (hs:(P.info? t).map (·.size)=some 1:=by kernel_rfl) (l:v.oneCell'=true:=by exact rfl) (hi:fs[i]?=some (.blk g C tb):=by exact rfl) (m:off<C.size:=by simp):o.wp P a w K Q:=rz Z e b f h hy hs l hi m k
def jA {t len e:Nat} {size bytes:Nat} (Z:Fr a n D σ) (m:Mem W w fs) (p:EI P t e z size bytes) (vs:List (Nat×aiN)) (f:Array aiN) (k:∀h l g,Fr h n D ((d,.slice (some ⟨g,0,none⟩) len len)::σ)->Mem W l (.blk g f e::fs)->K h l) (b:o.op= .buildSlice t len ps:=by exact rfl) (q:decide (0<len/\len*size<=16777216)=true:=by decide) (r:xM σ ps.toList=some vs:=by exact rfl)
  (s:Instr.fill (λi=>some (i*size,size)) (L8 z.cells (len*size)) vs=some f:=by kernel_rfl) (u:o.dst=some d:=by exact rfl) (c:d<n:=by decide):o.wp P a w K Q:=Xi Z m b p q r s u c k
section
variable {fn:Func} {R:aiQ->aiM->Prop} {t1 t2 t3:Nat} {v1 v2 v3:aiN}
def lV (hr:fn.results= #[.tmp t1]) (Z:Fr a n [] σ) (h1:σ.lookup t1=some v1) (b:R (.returned v1) w):bodyPost P fn R .ret a w:=iV hr Z (.tmp Z h1) b
def qA (hr:fn.results= #[.tmp t1,.tmp t2]) (Z:Fr a n [] σ) (h1:σ.lookup t1=some v1) (b:σ.lookup t2=some v2) (c:R (.returned (.tuple #[v1,v2])) w):bodyPost P fn R .ret a w:=dR hr Z (.tmp Z h1) (.tmp Z b) c
end
end
section
variable {α:Type}
inductive At:List α->α->Prop
 |z {a:α} {l:List α}:At (a::l) a
 |s {a b:α} {l:List α} (h:At l a):At (b::l) a
inductive lW (a b:α):List α->List α->Prop
 |z {l:List α}:lW a b (a::l) (b::l)
 |s {c:α} {l m:List α} (h:lW a b l m):lW a b (c::l) (c::m)
inductive tO:List α->List α->Prop
 |n {l:List α}:tO l l
 |t {a:α} {l m:List α} (h:tO l m):tO (a::l) (a::m)
 |f {a:α} {l m:List α} (h:tO l m):tO (a::l) m
def At.get {l:List α} {a:α} (h:At l a):∃i:Nat,l[i]?=some a:=by
 induction h with
 |z=>exact ⟨0,rfl⟩
 |s _ e=>obtain ⟨i,hi⟩:=e;exact ⟨i+1,by simpa using hi⟩
def lW.get {a b:α} {l m:List α} (h:lW a b l m):∃i:Nat,l[i]?=some a/\m=l.set i b:=by
 induction h with
 |z=>exact ⟨0,rfl,rfl⟩
 |s _ e=>obtain ⟨i,hi,rfl⟩:=e;exact ⟨i+1,by simpa using hi,rfl⟩
theorem tO.sub {l m:List α} (h:tO l m):m.Sublist l:=by
 induction h with
 |n=>exact ahw _
 |t _ e=>exact e.cons₂ _
 |f _ e=>exact e.cons _
variable {a b x1 x2 x3 x4 x5 x6 x7 x8 x9 y1 y2:α} {l m:List α}
def O0:At (a::l) a:= .z
def O1:At (x1::a::l) a:= .s .z
def O2:At (x1::x2::a::l) a:= .s O1
def O3:At (x1::x2::x3::a::l) a:= .s O2
def O4:At (x1::x2::x3::x4::a::l) a:= .s O3
def O5:At (x1::x2::x3::x4::x5::a::l) a:= .s O4
def O6:At (x1::x2::x3::x4::x5::x6::a::l) a:= .s O5
def O7:At (x1::x2::x3::x4::x5::x6::x7::a::l) a:= .s O6
def O8:At (x1::x2::x3::x4::x5::x6::x7::x8::a::l) a:= .s O7
def O9:At (x1::x2::x3::x4::x5::x6::x7::x8::x9::a::l) a:= .s O8
def O10:At (x1::x2::x3::x4::x5::x6::x7::x8::x9::y1::a::l) a:= .s O9
def aO:lW a b (a::l) (b::l):= .z
def gu:lW a b (x1::a::l) (x1::b::l):= .s .z
def iG:lW a b (x1::x2::a::l) (x1::x2::b::l):= .s gu
theorem og:lW a b (x1::x2::x3::a::l) (x1::x2::x3::b::l):= .s iG
def qB:lW a b (x1::x2::x3::x4::a::l) (x1::x2::x3::x4::b::l):= .s og
def rC:lW a b (x1::x2::x3::x4::x5::a::l) (x1::x2::x3::x4::x5::b::l):= .s qB
def uK:lW a b (x1::x2::x3::x4::x5::x6::a::l) (x1::x2::x3::x4::x5::x6::b::l):= .s rC
def vE:lW a b (x1::x2::x3::x4::x5::x6::x7::a::l) (x1::x2::x3::x4::x5::x6::x7::b::l):= .s uK
def Gb:lW a b (x1::x2::x3::x4::x5::x6::x7::x8::a::l) (x1::x2::x3::x4::x5::x6::x7::x8::b::l):= .s vE
def Qd:lW a b (x1::x2::x3::x4::x5::x6::x7::x8::x9::a::l) (x1::x2::x3::x4::x5::x6::x7::x8::x9::b::l):= .s Gb
end
def nth {α:Type}:List α->Nat->Option α
 |[],_=>none
 |x::_,0=>some x
 |_::r,n+1=>nth r n
def Qe {α:Type}:∀(l:List α) (i:Nat),nth l i=l[i]?
 |[],_=>rfl
 |_::_,0=>rfl
 |_::r,n+1=>by rw [adV];exact Qe r n
def Mq {α:Type} {l:Array α} {x:α} (h:nth l.toList i=some x):l[i]?=some x:=by
 rw [Qe] at h;simpa using h
def ko:acw->Option Nat
 | .i8=>some 127| .i16=>some 32767| .i32=>some 2147483647| .i64=>some 9223372036854775807
 | .u8=>some 255| .u16=>some 65535| .u32=>some 4294967295| .u64=>some 18446744073709551615
def Es (e:ko k=some B) (h:m<=B):adk k (m:Int)=(m:Int):=
 xP k (ada h (by cases k<;>(injection e with e;subst e;exact abu _)))
section
variable {P:aiO} {ops o2:Array aiS} {Q:aiV->Act->aiM->Prop} {a:Act} {W w:aiM} {n i j d d2:Nat} {D:List aiU} {σ σ':List (Nat×aiN)} {o o':aiS} {op:Op} {v v1 v2 v3:aiN} {X:Act->aiM->Prop} {fs fs':List aiX} {p q:Nat×aiN}
def JJ (W w:aiM) (n:Nat) (D:List aiU) (σ:List (Nat×aiN)) (fs:List aiX) (X:Act->aiM->Prop):Prop:=∀a,Fr a n D σ->Mem W w fs->X a w
def Jb (Z:Fr a n D σ) (e:Mem W w fs) (h:JJ W w n D σ fs X):X a w:=h a Z e
def Fr.iY {xs:List (Nat×aiN)} (h:Fr a n D (q::(xs++σ))) (C:(xs.all λp=>p.1==q.1||(σ.lookup p.1).isNone)=true):Fr a n D (q::σ):=by
 refine ⟨h.size,h.defers,λt v s=>h.slot t v ?_⟩
 obtain ⟨F,G⟩:=q
 simp only [acR] at s⊢
 split at s
 ·exact s
 ·rename_i e
  rw [FV]
  cases hl:xs.lookup t with
  |none=>exact s
  |some u=>
   exfalso
   obtain ⟨r,E,A⟩:=LZ (FW hl)
   have:=ace.1 C r E
   rw [A,adD] at this
   rcases this with z|z
   ·simp only [e] at z;cases z
   ·rw [s] at z;cases z
def Fr.oh {xs:List (Nat×aiN)} (h:Fr a n D (xs++σ)) (z:(xs.all λp=>(σ.lookup p.1).isNone)=true):Fr a n D σ:=by
 refine ⟨h.size,h.defers,λt v s=>h.slot t v ?_⟩
 rw [FV]
 cases hl:xs.lookup t with
 |none=>exact s
 |some u=>
  exfalso
  obtain ⟨r,A,e⟩:=LZ (FW hl)
  have:=ace.1 z r A
  rw [e,s] at this
  cases this
section
variable {p1 p2 p3 p4 p5 p6 p7 p8:Nat×aiN}
theorem aL (h:([p1].all λp=>p.1==q.1||(σ.lookup p.1).isNone)=true:=by kernel_rfl) (k:JJ W w n D (q::σ) fs X):JJ W w n D (q::p1::σ) fs X:=λa Z=>k a (Z.iY (xs:=[p1]) h)
def bU (h:([p1,p2].all λp=>p.1==q.1||(σ.lookup p.1).isNone)=true:=by kernel_rfl) (k:JJ W w n D (q::σ) fs X):JJ W w n D (q::p1::p2::σ) fs X:=λa Z=>k a (Z.iY (xs:=[p1,p2]) h)
def eP (h:([p1,p2,p3].all λp=>p.1==q.1||(σ.lookup p.1).isNone)=true:=by kernel_rfl) (k:JJ W w n D (q::σ) fs X):JJ W w n D (q::p1::p2::p3::σ) fs X:=λa Z=>k a (Z.iY (xs:=[p1,p2,p3]) h)
theorem fJ (h:([p1,p2,p3,p4].all λp=>p.1==q.1||(σ.lookup p.1).isNone)=true:=by kernel_rfl) (k:JJ W w n D (q::σ) fs X):JJ W w n D (q::p1::p2::p3::p4::σ) fs X:=λa Z=>k a (Z.iY (xs:=[p1,p2,p3,p4]) h)
def lq (h:([p1,p2,p3,p4,p5].all λp=>p.1==q.1||(σ.lookup p.1).isNone)=true:=by kernel_rfl) (k:JJ W w n D (q::σ) fs X):JJ W w n D (q::p1::p2::p3::p4::p5::σ) fs X:=λa Z=>k a (Z.iY (xs:=[p1,p2,p3,p4,p5]) h)
theorem aJ (h:([p1,p2,p3,p4,p5,p6].all λp=>p.1==q.1||(σ.lookup p.1).isNone)=true:=by kernel_rfl) (k:JJ W w n D (q::σ) fs X):JJ W w n D (q::p1::p2::p3::p4::p5::p6::σ) fs X:=λa Z=>k a (Z.iY (xs:=[p1,p2,p3,p4,p5,p6]) h)
def mJ (h:([p1].all λp=>(σ.lookup p.1).isNone)=true:=by kernel_rfl) (k:JJ W w n D σ fs X):JJ W w n D (p1::σ) fs X:=λa Z=>k a (Z.oh (xs:=[p1]) h)
def nE (h:([p1,p2].all λp=>(σ.lookup p.1).isNone)=true:=by kernel_rfl) (k:JJ W w n D σ fs X):JJ W w n D (p1::p2::σ) fs X:=λa Z=>k a (Z.oh (xs:=[p1,p2]) h)
def oo (h:([p1,p2,p3].all λp=>(σ.lookup p.1).isNone)=true:=by kernel_rfl) (k:JJ W w n D σ fs X):JJ W w n D (p1::p2::p3::σ) fs X:=λa Z=>k a (Z.oh (xs:=[p1,p2,p3]) h)
def vF (h:([p1,p2,p3,p4].all λp=>(σ.lookup p.1).isNone)=true:=by kernel_rfl) (k:JJ W w n D σ fs X):JJ W w n D (p1::p2::p3::p4::σ) fs X:=λa Z=>k a (Z.oh (xs:=[p1,p2,p3,p4]) h)
def qC (h:([p1,p2,p3,p4,p5].all λp=>(σ.lookup p.1).isNone)=true:=by kernel_rfl) (k:JJ W w n D σ fs X):JJ W w n D (p1::p2::p3::p4::p5::σ) fs X:=λa Z=>k a (Z.oh (xs:=[p1,p2,p3,p4,p5]) h)
def iZ (h:([p1,p2,p3,p4,p5,p6].all λp=>(σ.lookup p.1).isNone)=true:=by kernel_rfl) (k:JJ W w n D σ fs X):JJ W w n D (p1::p2::p3::p4::p5::p6::σ) fs X:=λa Z=>k a (Z.oh (xs:=[p1,p2,p3,p4,p5,p6]) h)
end
theorem Mem.sel (h:Mem W w fs) (m:tO fs fs'):Mem W w fs':=⟨h.below,λf e=>h.holds f (m.sub.subset e),h.apart.sublist m.sub⟩
def JM (m:tO fs fs') (k:JJ W w n D σ fs' X):JJ W w n D σ fs X:=λa Z e=>k a Z (e.sel m)
def gV (ops:Array aiS) (σ:List (Nat×aiN)) (n i:Nat):Option (Nat×Op):=match ops[i]? with
 |some o=>match eB ops σ o,o.dst with
  |some true,some d=>if d<n then some (d,o.op) else none
  |_,_=>none
 |none=>none
def Gc (h:gV ops σ n i=some (d,op)):∃o,ops[i]?=some o/\eB ops σ o=some true/\o.dst=some d/\d<n/\o.op=op:=by
 unfold gV at h
 split at h
 ·rename_i o r
  split at h
  ·rename_i C s u
   split at h
   ·rename_i e
    injection h with h
    injection h with z A
    subst z;subst A
    exact ⟨o,r,s,u,e,rfl⟩
   ·cases h
  ·cases h
 ·cases h
def aai (h:gV ops σ n i=some (d,op)) (hy:∀o:aiS,o.op=op->Yl P (λe=>Mem W e fs) σ o v) (k:JJ W w n D ((d,v)::σ) fs (qi P ops Q (i+1))):JJ W w n D σ fs (qi P ops Q i):=by
 obtain ⟨o,u,z,A,r,C⟩:=Gc h
 exact λ_ Z s=>LY (S:=λe=>Mem W e fs) Z s u z A r (hy o C) λa Z=>k a Z s
def aak (h:gV ops σ n i=some (d,op)) (k:∀(o:aiS) a,o.op=op->o.dst=some d->d<n->Fr a n D σ->Mem W w fs->o.wp P a w (qi P ops Q (i+1)) Q):JJ W w n D σ fs (qi P ops Q i):=by
 obtain ⟨o,r,s,u,e,z⟩:=Gc h
 exact λa Z A=>FU Z r s (k o a z u e Z A)
theorem Jp (m:Nat) (h:ru P ops n m i σ=some σ':=by exact rfl) (k:JJ W w n D σ' fs (qi P ops Q (i+m))):JJ W w n D σ fs (qi P ops Q i):=
 λ_ Z r=>PG m i Z h rfl λs e=>k s e r
def Jv (m:Nat) (new:List (Nat×aiN)) (h:(ru P ops n m i σ).map (λs=>(thin s σ new,new.map λp=>s.lookup p.1))=some (true,new.map λp=>some p.2):=by kernel_rfl) (k:JJ W w n D (new++σ) fs (qi P ops Q (i+m))):JJ W w n D σ fs (qi P ops Q i):=
 λ_ Z r=>fp Z m i new (λu e=>k u e r) h
def Jf (off:Nat) {s f g b:Nat} {x:aiR} (h:gV ops σ n i=some (d,.fieldAddr s x f):=by exact rfl) (e:look σ x=some (.pointer (some ⟨g,b,none⟩)):=by exact rfl) (r:Ei P s f=some off:=by kernel_rfl) (k:JJ W w n D ((d,.pointer (some ⟨g,b+off,none⟩))::σ) fs (qi P ops Q (i+1))):JJ W w n D σ fs (qi P ops Q i):=
 aai h (λo u=>Yl.pure (by rw [u];simp only [sj,e,r];rw [acI])) k
def Jc {off:Nat} (O:At fs (.blk g C tb)) (h:gV ops σ n i=some (d,.load t x):=by exact rfl) (e:look σ x=some (.pointer (some ⟨g,off,none⟩)):=by exact rfl) (r:nth C.toList off=some v:=by exact rfl) (ht:gM P t=true:=by kernel_rfl) (k:JJ W w n D ((d,v)::σ) fs (qi P ops Q (i+1))):JJ W w n D σ fs (qi P ops Q i):=
 aai h (λo s=>Pd s e ht λ_ h=>let ⟨_,hi⟩:=O.get;h.cell hi (Mq r)) k
def Jg (off:Nat) {s f g b:Nat} {x:aiR} {t tb:aiP} {C:Array aiN} (O:At fs (.blk g C tb)) (h:gV ops σ n i=some (d,.fieldAddr s x f):=by exact rfl) (e:look σ x=some (.pointer (some ⟨g,b,none⟩)):=by exact rfl) (r:gV ops ((d,.pointer (some ⟨g,b+off,none⟩))::σ) n (i+1)=some (d2,.load t (.tmp d)):=by exact rfl) (u:nth C.toList (b+off)=some v:=by exact rfl)
 (hk:(gM P t&& (Ei P s f==some off&& (d2==d||(σ.lookup d).isNone)))=true:=by kernel_rfl) (k:JJ W w n D ((d2,v)::σ) fs (qi P ops Q (i+2))):JJ W w n D σ fs (qi P ops Q i):=by
 simp only [abG,beq_iff_eq] at hk
 refine Jf off h e hk.2.1 (Jc O r ?_ u hk.1 (aL (by simpa [Bool.beq_comm] using hk.2.2) k))
 simp [look]
def Jl (h:gV ops σ n i=some (d,.call {callee:= .builtin .len,args:= #[x],argTypes:= #[t]}):=by exact rfl) (e:look σ x=some (.slice A m c):=by exact rfl) (ht:nN P t=true:=by kernel_rfl) (k:JJ W w n D ((d,.int .i64 (m:Int))::σ) fs (qi P ops Q (i+1))):JJ W w n D σ fs (qi P ops Q i):=
 aai h (λo r=>Yl.len r e ht) k
def Jn {p:Addr} (h:gV ops σ n i=some (d,.nilCheck x):=by exact rfl) (e:look σ x=some (.pointer (some p)):=by exact rfl) (k:JJ W w n D ((d,.pointer (some p))::σ) fs (qi P ops Q (i+1))):JJ W w n D σ fs (qi P ops Q i):=
 aai h (λo r=>Yl.nilCheck r e) k
theorem Jx {e:Nat} {vs:Array aiN} (h:gV ops σ n i=some (d,.extract x e):=by exact rfl) (r:look σ x=some (.tuple vs):=by exact rfl) (s:nth vs.toList e=some v:=by exact rfl) (k:JJ W w n D ((d,v)::σ) fs (qi P ops Q (i+1))):JJ W w n D σ fs (qi P ops Q i):=
 aai h (λo u=>Yl.pure (by rw [u];simp only [sj,r];exact Mq s)) k
def Jy (u:ops[i]?=some o:=by exact rfl) (z:eB ops σ o=some true:=by exact rfl) (A:o.dst=some d:=by exact rfl) (e:d<n:=by decide) (h:Yl P (λr=>Mem W r fs) σ o v) (k:JJ W w n D ((d,v)::σ) fs (qi P ops Q (i+1))):JJ W w n D σ fs (qi P ops Q i):=
 λ_ Z s=>LY (S:=λr=>Mem W r fs) Z s u z A e h λa Z=>k a Z s
def eH (e:SI P t m) (O:At fs (.blk g C tb)) (h:gV ops σ n i=some (d,.load t x):=by exact rfl) (r:look σ x=some (.pointer (some ⟨g,0,none⟩)):=by exact rfl) (hm:C.size=m:=by exact rfl) (k:JJ W w n D ((d,.agg C)::σ) fs (qi P ops Q (i+1))):JJ W w n D σ fs (qi P ops Q i):=
 aai h (λo s=>let ⟨_,hi⟩:=O.get;Pe s r e hm λ_ h=>qj (h.blk hi)) k
def fD (e:Array aiN) {t:aiP} {ps:Array (Nat×aiR)} {vs:List (Nat×aiN)} (h:gV ops σ n i=some (d,.build t ps):=by exact rfl) (r:xM σ ps.toList=some vs:=by exact rfl) (hb:PY P t vs=some e:=by kernel_rfl) (k:JJ W w n D ((d,.agg e)::σ) fs (qi P ops Q (i+1))):JJ W w n D σ fs (qi P ops Q i):=
 aai h (λo s=>Yl.build s r hb) k
def iC (y sz:Nat) {t:aiP} {x ix:aiR} {g of m c:Nat} {kd:aiT} (h:gV ops σ n i=some (d,.indexAddr t x ix):=by exact rfl) (e:look σ x=some (.slice (some ⟨g,of,none⟩) m c):=by exact rfl) (hi:look σ ix=some (.int kd (y:Int)):=by exact rfl) (hy:y<m:=by omega) (r:BP P t=some sz:=by kernel_rfl) (k:JJ W w n D ((d,.pointer (some ⟨g,of+y*sz,none⟩))::σ) fs (qi P ops Q (i+1))):JJ W w n D σ fs (qi P ops Q i):=
 aai h (λo s=>Yl.ix g of y sz s e hi hy r) k
def nG (y sz:Nat) {t:aiP} {x ix:aiR} {g m c:Nat} {kd:aiT} (h:gV ops σ n i=some (d,.indexAddr t x ix):=by exact rfl) (e:look σ x=some (.slice (some ⟨g,0,none⟩) m c):=by exact rfl) (hi:look σ ix=some (.int kd (y:Int)):=by exact rfl) (hy:y<m:=by omega) (r:BP P t=some sz:=by kernel_rfl) (k:JJ W w n D ((d,.pointer (some ⟨g,y*sz,none⟩))::σ) fs (qi P ops Q (i+1))):JJ W w n D σ fs (qi P ops Q i):=
 aai h (λo s=>Yl.iO g y sz s e hi hy r) k
section
variable {α:Type} {f:α->List aiN} {l:List α} {g of m sz:Nat} {t:aiP} {x:aiR}
theorem Yl.oS {o:aiS} {C:α->Array aiN} (r:∀x,(C x).toList=f x) (s:∀x,abo (f x)=sz) (hr:Rd W W.heap.size sz (some ⟨g,of,none⟩) m (l.flatMap f)) (z:SI P t sz) {e:Nat} {u:α} (hk:e<abo l) (A:o.op= .load t x) (E:look σ x=some (.pointer (some ⟨g,of+e*sz,none⟩))):Yl P (λF=>Mem W F fs) σ o (.agg (C (l.getD e u))):=
 Pe A E z (by rw [<-acA,r,s]) λ_ h=>by rw [r];exact (h.old hr).vv s (getD_at u hk)
def aay {o:aiS} (s:∀x,abo (f x)=sz) (hr:Rd W W.heap.size sz (some ⟨g,of,none⟩) m (l.flatMap f)) {j e b:Nat} {r:α} (hk:e<abo l) (u:b=of+e*sz+j) (z:nth (f (l.getD e r)) j=some v) (A:o.op= .load t x) (C:look σ x=some (.pointer (some ⟨g,b,none⟩))) (ht:gM P t=true):Yl P (λE=>Mem W E fs) σ o v:=by
 subst u
 exact Pd A C ht λ_ h=>(h.old hr).partAt s (getD_at r hk) (by rw [<-Qe];exact z)
def qD (C:α->Array aiN) (r:∀x,(f x).length=sz) (hr:Rd W W.heap.size sz (some ⟨g,of,none⟩) m (l.flatMap f)) (s:SI P t sz) (e:Nat) (u:α) (z:∀x,(C x).toList=f x:=by exact λ_=>rfl) (h:gV ops σ n i=some (d,.load t x):=by exact rfl) (A:look σ x=some (.pointer (some ⟨g,of+e*sz,none⟩)):=by exact rfl) (hk:e<l.length:=by omega) (k:JJ W w n D ((d,.agg (C (l.getD e u)))::σ) fs (qi P ops Q (i+1))):JJ W w n D σ fs (qi P ops Q i):=
 aai h (λ_ E=>Yl.oS z r hr s hk E A) k
def Qf (r:∀x,(f x).length=sz) (hr:Rd W W.heap.size sz (some ⟨g,of,none⟩) m (l.flatMap f)) (j e:Nat) (s:α) (h:gV ops σ n i=some (d,.load t x):=by exact rfl) (u:look σ x=some (.pointer (some ⟨g,of+e*sz+j,none⟩)):=by exact rfl) (z:nth (f (l.getD e s)) j=some v:=by exact rfl) (hk:e<l.length:=by omega) (ht:gM P t=true:=by kernel_rfl) (k:JJ W w n D ((d,v)::σ) fs (qi P ops Q (i+1))):JJ W w n D σ fs (qi P ops Q i):=
 aai h (λ_ A=>aay r hr hk rfl z A u ht) k
def Et (r:∀x,(f x).length=sz) (hr:Rd W W.heap.size sz (some ⟨g,of,none⟩) m (l.flatMap f)) (e:Nat) (s:α) (h:gV ops σ n i=some (d,.load t x):=by exact rfl) (u:look σ x=some (.pointer (some ⟨g,of+e*sz,none⟩)):=by exact rfl) (z:nth (f (l.getD e s)) 0=some v:=by exact rfl) (hk:e<l.length:=by omega) (ht:gM P t=true:=by kernel_rfl) (k:JJ W w n D ((d,v)::σ) fs (qi P ops Q (i+1))):JJ W w n D σ fs (qi P ops Q i):=
 aai h (λ_ A=>aay r hr (j:=0) hk rfl z A u ht) k
end
theorem JC {e:aiM} (h:Mem W w fs->Mem e w fs') (k:JJ e w n D σ fs' X):JJ W w n D σ fs X:=λa Z r=>k a Z (h r)
def Jk (d:Nat) (u:aiN) (e:σ.lookup d=some v:=by exact rfl) (h:v=u) (k:JJ W w n D ((d,u)::σ) fs X):JJ W w n D σ fs X:=λa Z=>k a (Z.sp d u e h)
def Jo (u:aiN) (h:v=u) (k:JJ W w n D ((d,u)::σ) fs X):JJ W w n D ((d,v)::σ) fs X:=by subst h;exact k
section
variable {x y:aiR} {t t2:aiP} {k:aiT} {m p B:Nat}
def aaU {r:BinOp} {u:aiN} {L:aiN} (h:gV ops σ n i=some (d,.binOp r t x y t2)) (s:look σ x=some z) (hy:look σ y=some L) (A:Eh z=true) (hb:tJ r z L=some v) (e:v=u) (K:JJ W w n D ((d,u)::σ) fs (qi P ops Q (i+1))):JJ W w n D σ fs (qi P ops Q i):=by
 subst e
 exact aai h (λo C=>Yl.pure (by rw [C];simp only [sj,s,hy,A,if_true];exact hb)) K
def XU (k:acw) (a b:Int):tJ .add (.int k a) (.int k b)=some (.int k (k.wrap (a+b))):=by simp [tJ,Ef]
def Qg (k:acw) (a b:Int):tJ .sub (.int k a) (.int k b)=some (.int k (k.wrap (a-b))):=by simp [tJ,Ef]
def Ja (h:gV ops σ n i=some (d,.binOp .add t x y t2):=by exact rfl) (e:look σ x=some (.int k (m:Int)):=by exact rfl) (hy:look σ y=some (.int k (p:Int)):=by exact rfl) (r:ko k=some B:=by exact rfl) (hb:m+p<=B:=by omega) (K:JJ W w n D ((d,.int k ((m+p:Nat):Int))::σ) fs (qi P ops Q (i+1))):JJ W w n D σ fs (qi P ops Q i):=
 aaU h e hy rfl (XU _ _ _) (by rw [show ((m:Int)+(p:Int))=((m+p:Nat):Int) from rfl,Es r hb]) K
theorem dA (p:Nat) {z:Int} (h:gV ops σ n i=some (d,.binOp .add t x y t2):=by exact rfl) (e:look σ x=some (.int k (m:Int)):=by exact rfl) (hy:look σ y=some (.int k z):=by exact rfl) (hz:z=(p:Int):=by exact rfl) (r:ko k=some B:=by exact rfl) (hb:m+p<=B:=by omega) (K:JJ W w n D ((d,.int k ((m+p:Nat):Int))::σ) fs (qi P ops Q (i+1))):JJ W w n D σ fs (qi P ops Q i):=by
 subst hz;exact Ja h e hy r hb K
def Js (h:gV ops σ n i=some (d,.binOp .sub t x y t2):=by exact rfl) (e:look σ x=some (.int k (m:Int)):=by exact rfl) (hy:look σ y=some (.int k (p:Int)):=by exact rfl) (r:ko k=some B:=by exact rfl) (hb:p<=m/\m-p<=B:=by omega) (K:JJ W w n D ((d,.int k ((m-p:Nat):Int))::σ) fs (qi P ops Q (i+1))):JJ W w n D σ fs (qi P ops Q i):=
 aaU h e hy rfl (Qg _ _ _) (by rw [show ((m:Int)- (p:Int))=((m-p:Nat):Int) by omega,Es r hb.2]) K
def Al (p:Nat) {z:Int} (h:gV ops σ n i=some (d,.binOp .sub t x y t2):=by exact rfl) (e:look σ x=some (.int k (m:Int)):=by exact rfl) (hy:look σ y=some (.int k z):=by exact rfl) (hz:z=(p:Int):=by exact rfl) (r:ko k=some B:=by exact rfl) (hb:p<=m/\m-p<=B:=by omega) (K:JJ W w n D ((d,.int k ((m-p:Nat):Int))::σ) fs (qi P ops Q (i+1))):JJ W w n D σ fs (qi P ops Q i):=by
 subst hz;exact Js h e hy r hb K
def yO (P:aiO) (s t:aiP):Option acw:=match P.underlying s,P.underlying t with
 |some _,some (.int k)=>some k
 |_,_=>none
def Jw (k:aiT) {e:aiT} (h:gV ops σ n i=some (d,.convert t t2 x):=by exact rfl) (r:look σ x=some (.int e (m:Int)):=by exact rfl) (hk:yO P t t2=some k:=by kernel_rfl) (s:ko k=some B:=by exact rfl) (hb:m<=B:=by omega) (K:JJ W w n D ((d,.int k (m:Int))::σ) fs (qi P ops Q (i+1))):JJ W w n D σ fs (qi P ops Q i):=by
 refine aai h (λo u=>Yl.pure (by
  rw [u]
  unfold yO at hk
  split at hk
  ·rename_i C E z A
   injection hk with hk
   subst hk
   simp only [sj,z,A,r,Es s hb]
  ·cases hk)) K
end
def Ji {p:Prop} {inst:Decidable p} (h1:p->JJ W w n D ((d,.bool true)::σ) fs X) (e:¬p->JJ W w n D ((d,.bool false)::σ) fs X):JJ W w n D ((d,.bool (@decide p inst))::σ) fs X:=by
 by_cases h:p
 ·rw [decide_eq_true h];exact h1 h
 ·rw [decide_eq_false h];exact e h
def nH {p:Prop} {inst:Decidable p} (h1:¬p->JJ W w n D ((d,.bool true)::σ) fs X) (e:p->JJ W w n D ((d,.bool false)::σ) fs X):JJ W w n D ((d,.bool (!@decide p inst))::σ) fs X:=by
 by_cases h:p
 ·rw [decide_eq_true h];exact e h
 ·rw [decide_eq_false h];exact h1 h
def Je {α:Type} {r:BEq α} [LawfulBEq α] {x y:α} (h1:x=y->JJ W w n D ((d,.bool true)::σ) fs X) (e:x≠y->JJ W w n D ((d,.bool false)::σ) fs X):JJ W w n D ((d,.bool (x==y))::σ) fs X:=by
 cases h:x==y
 ·exact e (ne_of_beq_false h)
 ·exact h1 (eq_of_beq h)
def Jh {α:Type} {r:BEq α} [LawfulBEq α] {x y:α} (h1:x≠y->JJ W w n D ((d,.bool true)::σ) fs X) (e:x=y->JJ W w n D ((d,.bool false)::σ) fs X):JJ W w n D ((d,.bool (x !=y))::σ) fs X:=by
 cases h:x !=y
 ·exact e (bne_eq_false_iff_eq.1 h)
 ·exact h1 (bne_iff_ne.1 h)
def Ju {b:Bool} (h1:b=true->JJ W w n D ((d,.bool true)::σ) fs X) (e:b=false->JJ W w n D ((d,.bool false)::σ) fs X):JJ W w n D ((d,.bool b)::σ) fs X:=by
 cases b
 ·exact e rfl
 ·exact h1 rfl
def Jr {id:Nat} {c:Code} (hi:ops.size=i:=by exact rfl) (h:∀a w,e .normal a w=Code.wp P (.seq (.region id o2 false) c) Q a w:=by exact λ_ _=>rfl) (k:JJ W w n D σ fs (qi P o2 (Exit.then (Code.wp P c Q) Q) 0)):JJ W w n D σ fs (qi P ops e i):=
 λa Z r=>yH hi (by rw [h];exact wp_seq (zu (k a Z r)))
theorem Jq (hi:ops.size=i:=by exact rfl) (k:JJ W w n D σ fs (Q .normal)):JJ W w n D σ fs (qi P ops Q i):=λa Z e=>yH hi (k a Z e)
def Jj {c:Code} (hi:ops.size=i:=by exact rfl) (h:∀a w,e .normal a w=Code.wp P c Q a w:=by exact λ_ _=>rfl) (k:JJ W w n D σ fs (Code.wp P c Q)):JJ W w n D σ fs (qi P ops e i):=λa Z r=>yH hi (by rw [h];exact k a Z r)
theorem JR {id:Nat} (k:JJ W w n D σ fs (qi P ops Q 0)):JJ W w n D σ fs (ac1 P (.region id ops false) Q):=λa Z e=>zu (k a Z e)
theorem JQ {c e:Code} (k:JJ W w n D σ fs (ac1 P c (Exit.then (ac1 P e Q) Q))):JJ W w n D σ fs (ac1 P (.seq c e) Q):=λa Z h=>wp_seq (k a Z h)
def JP {id:Nat} {c:Code} (k:JJ W w n D σ fs (qi P ops (Exit.then (ac1 P c Q) Q) 0)):JJ W w n D σ fs (ac1 P (.seq (.region id ops false) c) Q):=λa Z e=>wp_seq (zu (k a Z e))
theorem JG {Y:Act->aiM->Prop} {c:Code} (h:∀a w,Y a w=Code.wp P c Q a w:=by exact λ_ _=>rfl) (k:JJ W w n D σ fs (Code.wp P c Q)):JJ W w n D σ fs Y:=λa Z e=>by rw [h];exact k a Z e
def Eu {c:Code} (h:∀a w,e .normal a w=Code.wp P c Q a w:=by exact λ_ _=>rfl) (k:JJ W w n D σ fs (Code.wp P c Q)):JJ W w n D σ fs (ac1 P .skip e):=λa Z r=>wp_skip (by rw [h];exact k a Z r)
def JT {c:aiR} {x y:Code} (hc:look σ c=some (.bool true):=by exact rfl) (k:JJ W w n D σ fs (Code.wp P x Q)):JJ W w n D σ fs (ac1 P (.cond c x y) Q):=λa Z e=>q38 Z hc (k a Z e)
def JF {c:aiR} {x y:Code} (hc:look σ c=some (.bool false):=by exact rfl) (k:JJ W w n D σ fs (Code.wp P y Q)):JJ W w n D σ fs (ac1 P (.cond c x y) Q):=λa Z e=>PS Z hc (k a Z e)
def JB {id:Nat} {c:Code} (k:JJ W w n D σ fs (ac1 P c (Exit.inBlock id Q))):JJ W w n D σ fs (ac1 P (.block id c) Q):=λa Z e=>wp_block (k a Z e)
def JS (k:JJ W w n D σ fs (Q .normal)):JJ W w n D σ fs (ac1 P .skip Q):=λa Z e=>wp_skip (k a Z e)
def JX {id:Nat} (k:JJ W w n D σ fs (Q (.exit id))):JJ W w n D σ fs (ac1 P (.exit id) Q):=λa Z e=>wp_exit (k a Z e)
def JZ (k:JJ W w n D σ fs (Q .ret)):JJ W w n D σ fs (ac1 P .ret Q):=λa Z e=>wp_ret (k a Z e)
def aM {id:Nat} {c:Code} (m:Nat) (h:ru P ops n m 0 σ=some σ':=by exact rfl) (k:JJ W w n D σ' fs (qi P ops (Exit.then (Code.wp P c Q) Q) (0+m))):JJ W w n D σ fs (ac1 P (.seq (.region id ops false) c) Q):=JP (Jp m h k)
def dh {id:Nat} {c:Code} (m:Nat) (h:ru P ops n m 0 σ=some σ':=by exact rfl) (hi:ops.size=0+m:=by exact rfl) (k:JJ W w n D σ' fs (Code.wp P c Q)):JJ W w n D σ fs (ac1 P (.seq (.region id ops false) c) Q):=JP (Jp m h (Jj hi (λ_ _=>rfl) k))
def bE {id:Nat} (m:Nat) (h:ru P ops n m 0 σ=some σ':=by exact rfl) (hi:ops.size=0+m:=by exact rfl) (k:JJ W w n D σ' fs (Q .ret)):JJ W w n D σ fs (ac1 P (.seq (.region id ops false) .ret) Q):=dh m h hi (JZ k)
theorem bM {c:Code} (m:Nat) (h:ru P ops n m i σ=some σ':=by exact rfl) (hi:ops.size=i+m:=by exact rfl) (r:∀a w,e .normal a w=Code.wp P c Q a w:=by exact λ_ _=>rfl) (k:JJ W w n D σ' fs (Code.wp P c Q)):JJ W w n D σ fs (qi P ops e i):=Jp m h (Jj hi r k)
def aP (hi:ops.size=i:=by exact rfl) (h:∀a w,e .normal a w=Code.wp P .ret Q a w:=by exact λ_ _=>rfl) (k:JJ W w n D σ fs (Q .ret)):JJ W w n D σ fs (qi P ops e i):=Jj hi h (JZ k)
def bN {id:Nat} {c e:Code} (m:Nat) (h:ru P ops n m 0 σ=some σ':=by exact rfl) (k:JJ W w n D σ' fs (qi P ops (Exit.then (Code.wp P c (Exit.then (Code.wp P e Q) Q)) (Exit.then (Code.wp P e Q) Q)) (0+m))):JJ W w n D σ fs (ac1 P (.seq (.seq (.region id ops false) c) e) Q):=JQ (JP (Jp m h k))
def aQ {x c:Code} (hc:look σ s=some (.bool false):=by exact rfl) (h:∀a w,e .normal a w=Code.wp P c Q a w:=by exact λ_ _=>rfl) (k:JJ W w n D σ fs (Code.wp P c Q)):JJ W w n D σ fs (ac1 P (.cond s x .skip) e):=JF hc (Eu h k)
def eY {y c e:Code} {id:Nat} {r:aiV->Act->aiM->Prop} (hc:look σ s=some (.bool true):=by exact rfl) (h:∀a w,r .normal a w=Code.wp P (.seq (.block id c) e) Q a w:=by exact λ_ _=>rfl) (k:JJ W w n D σ fs (Code.wp P c (Exit.inBlock id (Exit.then (Code.wp P e Q) Q)))):JJ W w n D σ fs (ac1 P (.cond s .skip y) r):=JT hc (Eu h (JQ (JB k)))
theorem bg {id:Nat} {c:Code} (m:Nat) (hi:ops.size=i:=by exact rfl) (h:∀a w,e .normal a w=Code.wp P (.seq (.region id o2 false) c) Q a w:=by exact λ_ _=>rfl) (r:ru P o2 n m 0 σ=some σ':=by exact rfl) (k:JJ W w n D σ' fs (qi P o2 (Exit.then (Code.wp P c Q) Q) (0+m))):JJ W w n D σ fs (qi P ops e i):=Jr hi h (Jp m r k)
section
variable {fn:Func} {R:aiQ->aiM->Prop} {t1 t2 t3:Nat}
def aW (e:∀a w,bodyPost P fn R .ret a w->X a w:=by exact λ_ _ h=>h) (hr:fn.results= #[.tmp t1]:=by exact rfl) (h1:σ.lookup t1=some v1:=by exact rfl) (r:Mem W w fs->R (.returned v1) w):JJ W w n [] σ fs X:=λ_ Z s=>e _ _ (lV hr Z h1 (r s))
def tT (e:∀a w,bodyPost P fn R .ret a w->X a w:=by exact λ_ _ h=>h) (hr:fn.results= #[.tmp t1]:=by exact rfl) (h1:σ.lookup t1=some v1:=by exact rfl) (r:Mem W w fs->R (.returned v1) w:=by exact λM=>⟨rfl,M.below⟩):JJ W w n [] σ fs X:=λ_ Z s=>e _ _ (lV hr Z h1 (r s))
def bW (e:∀a w,bodyPost P fn R .ret a w->X a w:=by exact λ_ _ h=>h) (hr:fn.results= #[.tmp t1,.tmp t2]:=by exact rfl) (h1:σ.lookup t1=some v1:=by exact rfl) (r:σ.lookup t2=some v2:=by exact rfl) (s:Mem W w fs->R (.returned (.tuple #[v1,v2])) w):JJ W w n [] σ fs X:=λ_ Z u=>e _ _ (qA hr Z h1 r (s u))
end
def JA (z:Array aiN) {e:aiP} (h:gV ops σ n i=some (d,.alloc e):=by exact rfl) (hz:xL P e=some z:=by kernel_rfl) (k:∀r g,JJ W r n D ((d,.pointer (some ⟨g,0,none⟩))::σ) (.blk g z e::fs) (qi P ops Q (i+1))):JJ W w n D σ fs (qi P ops Q i):=
 aak h λ_ _ A C s Z u=>PN Z u A hz C s λa r g Z u=>k r g a Z u
def JE {e:aiP} (h:gV ops σ n i=some (d,.box e x):=by exact rfl) (z:look σ x=some (.agg C):=by exact rfl) (k:∀r g,JJ W r n D ((d,.pointer (some ⟨g,0,none⟩))::σ) (.blk g C e::fs) (qi P ops Q (i+1))):JJ W w n D σ fs (qi P ops Q i):=
 aak h λ_ _ A E s Z u=>Ac Z u A z rfl E s λa r g Z u=>k r g a Z u
def tV {e:aiP} (h:gV ops σ n i=some (d,.box e x):=by exact rfl) (z:look σ x=some v:=by exact rfl) (hc:v.cells= #[v]:=by exact rfl) (k:∀r g,JJ W r n D ((d,.pointer (some ⟨g,0,none⟩))::σ) (.blk g #[v] e::fs) (qi P ops Q (i+1))):JJ W w n D σ fs (qi P ops Q i):=
 aak h λ_ _ A C s Z u=>Ac Z u A z hc C s λa r g Z u=>k r g a Z u
def JW {off:Nat} {l m:List aiN} {v0:aiN} (O:lW (.blk g l.toArray tb) (.blk g m.toArray tb) fs fs') (U:lW v0 v l m) (s:ops[i]?=some o:=by exact rfl) (e:o.op= .store t x y:=by exact rfl) (u:eB ops σ o=some true:=by exact rfl) (z:o.dst=none:=by exact rfl) (A:look σ x=some (.pointer (some ⟨g,off,none⟩)):=by exact rfl) (hy:look σ y=some v:=by exact rfl) (hs:(P.info? t).map (·.size)=some 1:=by kernel_rfl) (C:v.oneCell'=true:=by exact rfl)
 (E:m=l.set off v:=by exact rfl) (F:Nat.blt off l.length=true:=by exact rfl) (k:∀h,JJ W h n D σ fs' (qi P ops Q (i+1))):JJ W w n D σ fs (qi P ops Q i):=by
 obtain ⟨j,G,rfl⟩:=O.get
 refine λa Z r=>FU Z s u (rz Z r e z A hy hs C G (by simpa using F) λh r=>k h a Z ?_)
 subst E
 simpa using r
def JV {ds:Array aiN} (s:SI P t m) (O:lW (.blk g C tb) (.blk g ds tb) fs fs') (z:ops[i]?=some o:=by exact rfl) (e:o.op= .store t x y:=by exact rfl) (A:eB ops σ o=some true:=by exact rfl) (E:o.dst=none:=by exact rfl) (F:look σ x=some (.pointer (some ⟨g,0,none⟩)):=by exact rfl) (hy:look σ y=some (.agg ds):=by exact rfl)
 (hc:C.size=m:=by exact rfl) (hm:ds.size=m:=by exact rfl) (h1:∀u∈ds.toList,u.oneCell'=true:=by simp [Value.oneCell']) (k:∀h,JJ W h n D σ fs' (qi P ops Q (i+1))):JJ W w n D σ fs (qi P ops Q i):=by
 obtain ⟨j,G,rfl⟩:=O.get
 exact λa Z r=>FU Z z A (Xg Z r e E F hy s hc hm h1 G λh r=>k h a Z r)
theorem JI {xs:Array aiR} {ts:Array aiP} (A:gV ops σ n i=some (d,.call {callee:= .value (.func f),args:=xs,argTypes:=ts}):=by exact rfl) (C:looks σ xs.toList=some vs:=by exact rfl) (h:Mem W w fs->Calls P f vs.toArray w (λr e=>r= .returned v/\Below w.heap.size w e)) (E:callable P f=true:=by kernel_rfl)
 (k:∀e,Below w.heap.size w e->JJ W e n D ((d,v)::σ) fs (qi P ops Q (i+1))):JJ W w n D σ fs (qi P ops Q i):=
 aak A λ_ _ F G s Z u=>Ae Z F C E G s (h u) λ_ e ⟨H,z⟩=>⟨v,H,λa Z=>k e z a Z (u.call z)⟩
theorem JL {xs:Array aiR} {ts:Array aiP} (z:gV ops σ n i=some (d,.call {callee:= .value (.func f),args:=xs,argTypes:=ts}):=by exact rfl) (A:looks σ xs.toList=some vs:=by exact rfl) (h:Mem W w fs->Calls P f vs.toArray w R) (C:callable P f=true:=by kernel_rfl)
 (k:Mem W w fs->∀r e,R r e->∃v,r= .returned v/\∃fs',Mem W e fs'/\JJ W e n D ((d,v)::σ) fs' (qi P ops Q (i+1))):JJ W w n D σ fs (qi P ops Q i):=
 aak z λ_ _ E F s Z u=>Ae Z E A C F s (h u) λr e G=>let ⟨v,H,_,I,J⟩:=k u r e G;⟨v,H,λa Z=>J a Z I⟩
def JK {xs:Array aiR} {ts:Array aiP} {V:aiW->Nat->aiN} {e:aiP} {ys:List aiN} (C:gV ops σ n i=some (d,.call {callee:= .value (.func f),args:=xs,argTypes:=ts}):=by exact rfl) (E:looks σ xs.toList=some vs:=by exact rfl) (h:Mem W w fs->Calls P f vs.toArray w (λr s=>(∃A c,r= .returned (V A c)/\s.ownsRow w.heap.size e sz (.slice A m c) m ys/\m<=c)/\Below w.heap.size w s)) (F:callable P f=true:=by kernel_rfl)
 (k:∀A c s,m<=c->JJ W s n D ((d,V A c)::σ) (.row (.slice A m c) m ys e sz::fs) (qi P ops Q (i+1))):JJ W w n D σ fs (qi P ops Q i):=
 aak C λ_ _ G H u Z z=>Ae Z G E F H u (h z) λr s ⟨⟨A,c,I,J,K⟩,L⟩=>⟨_,I,λa Z=>k A c s K a Z (z.cZ L J)⟩
def JO {xs:Array aiR} {ts:Array aiP} (u:gV ops σ n i=some (d,.call {callee:= .value (.func f),args:=xs,argTypes:=ts}):=by exact rfl) (z:looks σ xs.toList=some vs:=by exact rfl) (h:Mem W w fs->Calls P f vs.toArray w (λr e=>r= .returned v/\Mem W e fs')) (A:callable P f=true:=by kernel_rfl)
 (k:∀e,JJ W e n D ((d,v)::σ) fs' (qi P ops Q (i+1))):JJ W w n D σ fs (qi P ops Q i):=
 aak u λ_ _ C E s Z F=>Ae Z C z A E s (h F) λr e ⟨G,H⟩=>⟨v,G,λa Z=>k e a Z H⟩
theorem JU {t len e:Nat} {vs:List (Nat×aiN)} {size bytes:Nat} (C:EI P t e z size bytes) (A:Array aiN) (h:gV ops σ n i=some (d,.buildSlice t len ps):=by exact rfl) (E:decide (0<len/\len*size<=16777216)=true:=by decide) (F:xM σ ps.toList=some vs:=by exact rfl)
 (G:Instr.fill (λi=>some (i*size,size)) (L8 z.cells (len*size)) vs=some A:=by kernel_rfl) (k:∀r g,JJ W r n D ((d,.slice (some ⟨g,0,none⟩) len len)::σ) (.blk g A e::fs) (qi P ops Q (i+1))):JJ W w n D σ fs (qi P ops Q i):=
 aak h λ_ _ H I s Z u=>Xi Z u H C E F G I s λa r g Z u=>k r g a Z u
theorem JD {e:aiP} {size bytes C:Nat} {F:aiW->Nat->List aiX} (news:List aiN) (j:Nat) (O:∀E r,lW (.row v C xs e size) (.row (.slice E (C+m) r) (C+m) (xs++news) e size) fs (F E r)) (K:EI P t e z size bytes)
 (L:gV ops σ n i=some (d,.call {callee:= .builtin .append,args:= #[s,x],argTypes:= #[t,t]}):=by exact rfl) (hs:look σ s=some v:=by exact rfl) (M:look σ x=some (.slice A m c):=by exact rfl) (S:fs[j]?=some (.row v C xs e size):=by exact rfl) (T:(λE r=>fs.set j (.row (.slice E (C+m) r) (C+m) (xs++news) e size))=F:=by kernel_rfl)
 (hr:Mem W w fs->Rd w B size A m news) (h1:∀u∈news,u.oneCell'=true) (hb:(C+m)*bytes<=140737488355328:=by omega) (h63:C+m<=9223372036854775807:=by omega)
 (k:∀G E r,C+m<=r->JJ W G n D ((d,.slice E (C+m) r)::σ) (F E r) (qi P ops Q (i+1))):JJ W w n D σ fs (qi P ops Q i):=
 aak L λ_ _ U V H Z J=>rO Z J U K hs M S (hr J) h1 hb h63 V H λa G E r Z I hc=>k G E r hc a Z (by have h:=congrFun (congrFun T E) r;rw [<-h];exact I)
def JH {p:Prop} (h:p) (k:p->JJ W w n D σ fs X):JJ W w n D σ fs X:=k h
section
variable {f N:Nat} {fn:Func} {c:Code} {R:aiQ->aiM->Prop} {u1 u2 u3 u4 u5 u6 u7 u8:aiN}
def JN0 (e:P.funcs[f]?=some fn) (N:Nat) (h:fn.ntmps=N:=by exact rfl) (hb:fn.body=some c:=by exact rfl) (r:decide (0<=N)=true:=by kernel_rfl) (k:JJ w w N [] [] [] (Code.wp P c (bodyPost P fn R))):Calls P f #[] w R:=
 yI (vs:=[]) e hb h r rfl λa Z=>k a Z (Mem.start w)
def fE (e:P.funcs[f]?=some fn) (N:Nat) (h:fn.ntmps=N:=by exact rfl) (hb:fn.body=some c:=by exact rfl) (r:decide (1<=N)=true:=by kernel_rfl) (k:JJ w w N [] [(0,u1)] [] (Code.wp P c (bodyPost P fn R))):Calls P f #[u1] w R:=
 yI (vs:=[u1]) e hb h r rfl λa Z=>k a Z (Mem.start w)
def iP (e:P.funcs[f]?=some fn) (N:Nat) (h:fn.ntmps=N:=by exact rfl) (hb:fn.body=some c:=by exact rfl) (r:decide (2<=N)=true:=by kernel_rfl) (k:JJ w w N [] [(0,u1),(1,u2)] [] (Code.wp P c (bodyPost P fn R))):Calls P f #[u1,u2] w R:=
 yI (vs:=[u1,u2]) e hb h r rfl λa Z=>k a Z (Mem.start w)
def uL (e:P.funcs[f]?=some fn) (N:Nat) (h:fn.ntmps=N:=by exact rfl) (hb:fn.body=some c:=by exact rfl) (r:decide (3<=N)=true:=by kernel_rfl) (k:JJ w w N [] [(0,u1),(1,u2),(2,u3)] [] (Code.wp P c (bodyPost P fn R))):Calls P f #[u1,u2,u3] w R:=
 yI (vs:=[u1,u2,u3]) e hb h r rfl λa Z=>k a Z (Mem.start w)
end
end
section
variable {P:aiO} {ops o2:Array aiS} {Q:aiV->Act->aiM->Prop} {a:Act} {W w:aiM} {n d d2 fuel:Nat} {D:List aiU} {σ σ':List (Nat×aiN)} {o o':aiS} {op:Op} {v v1 v2 v3:aiN} {X:Act->aiM->Prop} {fs gs fs':List aiX} {md:Region.Mode} {listed:Array Bool} {ex:List Nat} {S:aiM->Prop}
def VV (W w:aiM) (n:Nat) (D:List aiU) (σ:List (Nat×aiN)) (fs gs:List aiX) (X:Act->aiM->Prop):Prop:=∀a,Fr a n D σ->Mem W w fs->Mem W w gs->X a w
def Vb (Z:Fr a n D σ) (b:Mem W w fs) (c:Mem W w gs) (h:VV W w n D σ fs gs X):X a w:=h a Z b c
def jN (l:Array Bool) (b:List Nat):Array Bool:=b.foldl (λl i=>l.setIfInBounds i true) l
def Vs (m:tO fs gs) (ex:List Nat) {id c:Nat} (j:ops.size=c:=by exact rfl) (hm:P.follows .mixedOrders=true:=by kernel_rfl) (k:∀q,VV W q n D σ fs gs (ql P .any ops Q (λb=>Mem W b gs) ex c (Array.replicate ops.size false))):JJ W w n D σ fs (ac1 P (.region id ops true) Q):=
 λa Z e=>Xd hm (λb=>Mem W b gs) ex (by have h:=k w.drew a Z e.drew (e.drew.sel m);subst j;exact h)
def Vd (hr:Region.ready md ops listed=[]:=by kernel_rfl) (k:JJ W w n D σ fs (Q .normal)):VV W w n D σ fs gs (ql P md ops Q S ex fuel listed):=λa Z b _=>qe hr (k a Z b)
def Ew (P:aiO) (ops:Array aiS) (n:Nat):List Nat->List (Nat×aiN)->Option (List (Nat×aiN))
 |[],σ=>some σ
 |i::b,σ=>match Ab P ops n i σ with
  |some σ'=>Ew P ops n b σ'
  |none=>none
def qE (md:ad3) (ops:Array aiS) (ex:List Nat):List Nat->Array Bool->Bool
 |[],_=>true
 |i::b,l=>pJ md ops ex l i&&qE md ops ex b (l.setIfInBounds i true)
def Qh:∀(b:List Nat) {l:Array Bool} {σ σ':List (Nat×aiN)},Ew P ops n b σ=some σ'->qE md ops ex b l=true->qc5 P md ops n ex b l σ=some (jN l b,σ')
 |[],_,_,_,h,_=>by injection h with h;subst h;rfl
 | i :: b, l, σ, σ', h, c => by
  unfold Ew at h
  unfold qE at c
  rw [abG] at c
  split at h
  ·rename_i s hs
   unfold qc5
   rw [if_pos c.1,hs]
   exact Qh b h c.2
  ·cases h
def Vp (b:List Nat) (h:Ew P ops n b σ=some σ':=by exact rfl) (hk:qE md ops ex b listed=true:=by kernel_rfl) (j:∀c (a:Act) d v w,Q (.panic c) (a.put d v) w->Q (.panic c) a w:=by intro _ _ d _ _ h;cases d<;>exact h)
 (k:VV W w n D σ' fs gs (ql P md ops Q S ex fuel (jN listed b))) (q:∀w,Mem W w gs->S w:=by exact λ_ h=>h):VV W w n D σ fs gs (ql P md ops Q S ex (fuel+abo b) listed):=
 λa Z r e=>L6 j b Z (λ_=>q _ e) (Qh b h hk) λa Z=>k a Z r e
def Vq (b:List Nat) (new:List (Nat×aiN)) (h:(Ew P ops n b σ).map (λs=>(thin s σ new,new.map λp=>s.lookup p.1))=some (true,new.map λp=>some p.2):=by kernel_rfl) (hk:qE md ops ex b listed=true:=by kernel_rfl) (r:∀c (a:Act) d v w,Q (.panic c) (a.put d v) w->Q (.panic c) a w:=by intro _ _ d _ _ h;cases d<;>exact h)
 (k:VV W w n D (new++σ) fs gs (ql P md ops Q (λe=>Mem W e gs) ex fuel (jN listed b))):VV W w n D σ fs gs (ql P md ops Q (λe=>Mem W e gs) ex (fuel+abo b) listed):=by
 cases hs:Ew P ops n b σ with
 |none=>rw [hs] at h;cases h
 |some s=>
  rw [hs] at h
  injection h with h
  injection h with u z
  have j:=Qh b hs hk
  obtain ⟨full,A⟩:=PL b j
  exact λa Z C q=>L6 r b Z (λ_=>q) j λa Z=>k a (Z.thin A u z) C q
section
variable {i:Nat}
def aao (h:gV ops σ n i=some (d,op)) (hk:sw md ops ex listed i=true) (r:∀c (a:Act) v w,Q (.panic c) (a.put (some d) v) w->Q (.panic c) a w) (hy:∀o:aiS,o.op=op->Yl P (λb=>Mem W b gs) σ o v)
 (k:VV W w n D ((d,v)::σ) fs gs (ql P md ops Q (λb=>Mem W b gs) ex fuel (listed.setIfInBounds i true))):VV W w n D σ fs gs (ql P md ops Q (λb=>Mem W b gs) ex (fuel+1) listed):=by
 obtain ⟨o,s,u,j,e,z⟩:=Gc h
 exact λa Z A q=>Ej Z q s u j e hk (λc a w=>by rw [j];exact r c a v w) (hy o z) λa Z=>k a Z A q
def aar (h:gV ops σ n i=some (d,op)) (hk:pJ md ops ex listed i=true) (r:∀c (a:Act) v w,Q (.panic c) (a.put (some d) v) w->Q (.panic c) a w) (hy:∀o:aiS,o.op=op->∀s,Yl P s σ o v)
 (k:VV W w n D ((d,v)::σ) fs gs (ql P md ops Q (λb=>Mem W b gs) ex fuel (listed.setIfInBounds i true))):VV W w n D σ fs gs (ql P md ops Q (λb=>Mem W b gs) ex (fuel+1) listed):=by
 obtain ⟨o,u,z,j,e,A⟩:=Gc h
 exact λa Z C q=>pK Z (λ_=>q) u z j e hk (λc a w=>by rw [j];exact r c a v w) (hy o A) λa Z=>k a Z C q
def aaB (h:gV ops σ n i=some (d,op)) (hr:acF md ops listed=[i]) (k:∀(o:aiS) a,o.op=op->o.dst=some d->d<n->Fr a n D σ->Mem W w fs->o.wp P a w (λj e=>(eD ex (listed.setIfInBounds i true)=false->Mem W e gs)/\ql P md ops Q (λb=>Mem W b gs) ex fuel (listed.setIfInBounds i true) j e) Q):VV W w n D σ fs gs (ql P md ops Q (λb=>Mem W b gs) ex (fuel+1) listed):=by
 obtain ⟨o,q,r,s,c,u⟩:=Gc h
 exact λa Z z _=>zf [i] hr rfl (all_cons (qu Z q r (k o a u s c Z z)) all_nil)
end
def Vf (i off:Nat) {s f g b:Nat} {x:aiR} (h:gV ops σ n i=some (d,.fieldAddr s x f):=by exact rfl) (q:look σ x=some (.pointer (some ⟨g,b,none⟩)):=by exact rfl) (e:(Ei P s f==some off&&pJ md ops ex listed i)=true:=by kernel_rfl) (r:∀c (a:Act) v w,Q (.panic c) (a.put (some d) v) w->Q (.panic c) a w:=by exact λ_ _ _ _ h=>h)
 (k:VV W w n D ((d,.pointer (some ⟨g,b+off,none⟩))::σ) fs gs (ql P md ops Q (λj=>Mem W j gs) ex fuel (listed.setIfInBounds i true))):VV W w n D σ fs gs (ql P md ops Q (λj=>Mem W j gs) ex (fuel+1) listed):=by
 rw [abG,beq_iff_eq] at e
 exact aar h e.2 r (λo u _=>Yl.pure (by rw [u];simp only [sj,q,e.1];rw [acI])) k
def mK (i:Nat) {t tb:aiP} {x:aiR} {g m:Nat} {C:Array aiN} (j:SI P t m) (O:At gs (.blk g C tb)) (h:gV ops σ n i=some (d,.load t x):=by exact rfl) (q:look σ x=some (.pointer (some ⟨g,0,none⟩)):=by exact rfl) (hm:C.size=m:=by exact rfl) (b:sw md ops ex listed i=true:=by kernel_rfl) (r:∀c (a:Act) v w,Q (.panic c) (a.put (some d) v) w->Q (.panic c) a w:=by exact λ_ _ _ _ h=>h) (k:VV W w n D ((d,.agg C)::σ) fs gs (ql P md ops Q (λe=>Mem W e gs) ex fuel (listed.setIfInBounds i true))):VV W w n D σ fs gs (ql P md ops Q (λe=>Mem W e gs) ex (fuel+1) listed):=
 aao h b r (λo s=>let ⟨_,hi⟩:=O.get;Pe s q j hm λ_ h=>qj (h.blk hi)) k
def oq (i y sz:Nat) {t:aiP} {x ix:aiR} {g of m c:Nat} {kd:aiT} (h:gV ops σ n i=some (d,.indexAddr t x ix):=by exact rfl) (j:look σ x=some (.slice (some ⟨g,of,none⟩) m c):=by exact rfl) (hi:look σ ix=some (.int kd (y:Int)):=by exact rfl) (hy:y<m:=by omega) (q:BP P t=some sz:=by kernel_rfl) (b:sw md ops ex listed i=true:=by kernel_rfl) (r:∀c (a:Act) v w,Q (.panic c) (a.put (some d) v) w->Q (.panic c) a w:=by exact λ_ _ _ _ h=>h) (k:VV W w n D ((d,.pointer (some ⟨g,of+y*sz,none⟩))::σ) fs gs (ql P md ops Q (λe=>Mem W e gs) ex fuel (listed.setIfInBounds i true))):VV W w n D σ fs gs (ql P md ops Q (λe=>Mem W e gs) ex (fuel+1) listed):=
 aao h b r (λo s=>Yl.ix g of y sz s j hi hy q) k
section
variable {α:Type} {f:α->List aiN} {l:List α} {g of m sz:Nat} {t:aiP} {x:aiR}
def Ey (i:Nat) (C:α->Array aiN) (q:∀x,(f x).length=sz) (hr:Rd W W.heap.size sz (some ⟨g,of,none⟩) m (l.flatMap f)) (r:SI P t sz) (b:Nat) (s:α) (u:∀x,(C x).toList=f x:=by exact λ_=>rfl) (h:gV ops σ n i=some (d,.load t x):=by exact rfl) (z:look σ x=some (.pointer (some ⟨g,of+b*sz,none⟩)):=by exact rfl) (hk:b<l.length:=by omega) (e:sw md ops ex listed i=true:=by kernel_rfl) (A:∀c (a:Act) v w,Q (.panic c) (a.put (some d) v) w->Q (.panic c) a w:=by exact λ_ _ _ _ h=>h) (k:VV W w n D ((d,.agg (C (l.getD b s)))::σ) fs gs (ql P md ops Q (λj=>Mem W j gs) ex fuel (listed.setIfInBounds i true))):VV W w n D σ fs gs (ql P md ops Q (λj=>Mem W j gs) ex (fuel+1) listed):=
 aao h e A (λ_ E=>Yl.oS u q hr r hk E z) k
def Gd (i:Nat) (r:∀x,(f x).length=sz) (hr:Rd W W.heap.size sz (some ⟨g,of,none⟩) m (l.flatMap f)) (j b:Nat) (s:α) (h:gV ops σ n i=some (d,.load t x):=by exact rfl) (u:look σ x=some (.pointer (some ⟨g,of+b*sz+j,none⟩)):=by exact rfl) (z:nth (f (l.getD b s)) j=some v:=by exact rfl) (hk:b<l.length:=by omega) (ht:gM P t=true:=by kernel_rfl) (e:sw md ops ex listed i=true:=by kernel_rfl) (A:∀c (a:Act) v w,Q (.panic c) (a.put (some d) v) w->Q (.panic c) a w:=by exact λ_ _ _ _ h=>h) (k:VV W w n D ((d,v)::σ) fs gs (ql P md ops Q (λq=>Mem W q gs) ex fuel (listed.setIfInBounds i true))):VV W w n D σ fs gs (ql P md ops Q (λq=>Mem W q gs) ex (fuel+1) listed):=
 aao h e A (λ_ C=>aay r hr hk rfl z C u ht) k
def XV (i:Nat) (r:∀x,(f x).length=sz) (hr:Rd W W.heap.size sz (some ⟨g,of,none⟩) m (l.flatMap f)) (b:Nat) (s:α) (h:gV ops σ n i=some (d,.load t x):=by exact rfl) (u:look σ x=some (.pointer (some ⟨g,of+b*sz,none⟩)):=by exact rfl) (z:nth (f (l.getD b s)) 0=some v:=by exact rfl) (hk:b<l.length:=by omega) (ht:gM P t=true:=by kernel_rfl) (e:sw md ops ex listed i=true:=by kernel_rfl) (A:∀c (a:Act) v w,Q (.panic c) (a.put (some d) v) w->Q (.panic c) a w:=by exact λ_ _ _ _ h=>h) (k:VV W w n D ((d,v)::σ) fs gs (ql P md ops Q (λq=>Mem W q gs) ex fuel (listed.setIfInBounds i true))):VV W w n D σ fs gs (ql P md ops Q (λq=>Mem W q gs) ex (fuel+1) listed):=
 aao h e A (λ_ C=>aay r hr (j:=0) hk rfl z C u ht) k
end
def Vc (i:Nat) {g off:Nat} {x:aiR} {t tb:aiP} {C:Array aiN} (O:At gs (.blk g C tb)) (h:gV ops σ n i=some (d,.load t x):=by exact rfl) (e:look σ x=some (.pointer (some ⟨g,off,none⟩)):=by exact rfl) (j:nth C.toList off=some v:=by exact rfl) (ht:(gM P t&&sw md ops ex listed i)=true:=by kernel_rfl) (q:∀c (a:Act) v w,Q (.panic c) (a.put (some d) v) w->Q (.panic c) a w:=by exact λ_ _ _ _ h=>h)
 (k:VV W w n D ((d,v)::σ) fs gs (ql P md ops Q (λb=>Mem W b gs) ex fuel (listed.setIfInBounds i true))):VV W w n D σ fs gs (ql P md ops Q (λb=>Mem W b gs) ex (fuel+1) listed):=by
 rw [abG] at ht
 exact aao h ht.2 q (λo r=>Pd r e ht.1 λ_ h=>let ⟨_,hi⟩:=O.get;h.cell hi (Mq j)) k
def Vl (i:Nat) {x:aiR} {t:aiP} {A:aiW} {m c:Nat} (h:gV ops σ n i=some (d,.call {callee:= .builtin .len,args:= #[x],argTypes:= #[t]}):=by exact rfl) (e:look σ x=some (.slice A m c):=by exact rfl) (ht:(nN P t&&pJ md ops ex listed i)=true:=by kernel_rfl) (j:∀c (a:Act) v w,Q (.panic c) (a.put (some d) v) w->Q (.panic c) a w:=by exact λ_ _ _ _ h=>h)
 (k:VV W w n D ((d,.int .i64 (m:Int))::σ) fs gs (ql P md ops Q (λb=>Mem W b gs) ex fuel (listed.setIfInBounds i true))):VV W w n D σ fs gs (ql P md ops Q (λb=>Mem W b gs) ex (fuel+1) listed):=by
 rw [abG] at ht
 exact aar h ht.2 j (λo q _=>Yl.len q e ht.1) k
def Vn (i:Nat) {x:aiR} {p:Addr} (h:gV ops σ n i=some (d,.nilCheck x):=by exact rfl) (e:look σ x=some (.pointer (some p)):=by exact rfl) (ht:pJ md ops ex listed i=true:=by kernel_rfl) (j:∀c (a:Act) v w,Q (.panic c) (a.put (some d) v) w->Q (.panic c) a w:=by exact λ_ _ _ _ h=>h)
 (k:VV W w n D ((d,.pointer (some p))::σ) fs gs (ql P md ops Q (λb=>Mem W b gs) ex fuel (listed.setIfInBounds i true))):VV W w n D σ fs gs (ql P md ops Q (λb=>Mem W b gs) ex (fuel+1) listed):=
 aar h ht j (λo q _=>Yl.nilCheck q e) k
def Vx (i:Nat) {x:aiR} {e:Nat} {vs:Array aiN} (h:gV ops σ n i=some (d,.extract x e):=by exact rfl) (j:look σ x=some (.tuple vs):=by exact rfl) (q:nth vs.toList e=some v:=by exact rfl) (ht:pJ md ops ex listed i=true:=by kernel_rfl) (r:∀c (a:Act) v w,Q (.panic c) (a.put (some d) v) w->Q (.panic c) a w:=by exact λ_ _ _ _ h=>h)
 (k:VV W w n D ((d,v)::σ) fs gs (ql P md ops Q (λb=>Mem W b gs) ex fuel (listed.setIfInBounds i true))):VV W w n D σ fs gs (ql P md ops Q (λb=>Mem W b gs) ex (fuel+1) listed):=
 aar h ht r (λo s _=>Yl.pure (by rw [s];simp only [sj,j];exact Mq q)) k
def Vy (i:Nat) (q:ops[i]?=some o:=by exact rfl) (r:eB ops σ o=some true:=by exact rfl) (s:o.dst=some d:=by exact rfl) (e:d<n:=by decide) (h:Yl P (λb=>Mem W b gs) σ o v) (ht:sw md ops ex listed i=true:=by kernel_rfl) (u:∀c (a:Act) w,Q (.panic c) (a.put o.dst v) w->Q (.panic c) a w:=by exact λ_ _ _ h=>h)
 (k:VV W w n D ((d,v)::σ) fs gs (ql P md ops Q (λb=>Mem W b gs) ex fuel (listed.setIfInBounds i true))):VV W w n D σ fs gs (ql P md ops Q (λb=>Mem W b gs) ex (fuel+1) listed):=
 λa Z z j=>Ej Z j q r s e ht u h λa Z=>k a Z z j
def Vu (i:Nat) (q:ops[i]?=some o:=by exact rfl) (r:eB ops σ o=some true:=by exact rfl) (s:o.dst=some d:=by exact rfl) (b:d<n:=by decide) (h:∀u:aiM->Prop,Yl P u σ o v) (ht:pJ md ops ex listed i=true:=by kernel_rfl) (z:∀c (a:Act) w,Q (.panic c) (a.put o.dst v) w->Q (.panic c) a w:=by exact λ_ _ _ h=>h)
 (k:VV W w n D ((d,v)::σ) fs gs (ql P md ops Q (λe=>Mem W e gs) ex fuel (listed.setIfInBounds i true))):VV W w n D σ fs gs (ql P md ops Q (λe=>Mem W e gs) ex (fuel+1) listed):=
 λa Z A j=>pK Z (λ_=>j) q r s b ht z h λa Z=>k a Z A j
def Vo (u:aiN) (h:v=u) (k:VV W w n D ((d,u)::σ) fs gs X):VV W w n D ((d,v)::σ) fs gs X:=by subst h;exact k
def VH {p:Prop} (h:p) (k:p->VV W w n D σ fs gs X):VV W w n D σ fs gs X:=k h
section
variable {x y:aiR} {t t2:aiP} {k:aiT} {m p B:Nat}
def aaJ (i:Nat) {j:BinOp} {u:aiN} {z L:aiN} (h:gV ops σ n i=some (d,.binOp j t x y t2)) (q:look σ x=some z) (hy:look σ y=some L) (ht:pJ md ops ex listed i=true) (r:∀c (a:Act) v w,Q (.panic c) (a.put (some d) v) w->Q (.panic c) a w) (s:Eh z=true) (hb:tJ j z L=some v) (e:v=u)
 (K:VV W w n D ((d,u)::σ) fs gs (ql P md ops Q (λb=>Mem W b gs) ex fuel (listed.setIfInBounds i true))):VV W w n D σ fs gs (ql P md ops Q (λb=>Mem W b gs) ex (fuel+1) listed):=by
 subst e
 exact aar h ht r (λo A _=>Yl.pure (by rw [A];simp only [sj,q,hy,s,if_true];exact hb)) K
def Va (i:Nat) (h:gV ops σ n i=some (d,.binOp .add t x y t2):=by exact rfl) (e:look σ x=some (.int k (m:Int)):=by exact rfl) (hy:look σ y=some (.int k (p:Int)):=by exact rfl) (j:ko k=some B:=by exact rfl) (hb:m+p<=B:=by omega) (ht:pJ md ops ex listed i=true:=by kernel_rfl) (q:∀c (a:Act) v w,Q (.panic c) (a.put (some d) v) w->Q (.panic c) a w:=by exact λ_ _ _ _ h=>h)
 (K:VV W w n D ((d,.int k ((m+p:Nat):Int))::σ) fs gs (ql P md ops Q (λb=>Mem W b gs) ex fuel (listed.setIfInBounds i true))):VV W w n D σ fs gs (ql P md ops Q (λb=>Mem W b gs) ex (fuel+1) listed):=
 aaJ i h e hy ht q rfl (XU _ _ _) (by rw [show ((m:Int)+(p:Int))=((m+p:Nat):Int) from rfl,Es j hb]) K
def xV (i p:Nat) {z:Int} (h:gV ops σ n i=some (d,.binOp .add t x y t2):=by exact rfl) (e:look σ x=some (.int k (m:Int)):=by exact rfl) (hy:look σ y=some (.int k z):=by exact rfl) (hz:z=(p:Int):=by exact rfl) (j:ko k=some B:=by exact rfl) (hb:m+p<=B:=by omega) (ht:pJ md ops ex listed i=true:=by kernel_rfl) (q:∀c (a:Act) v w,Q (.panic c) (a.put (some d) v) w->Q (.panic c) a w:=by exact λ_ _ _ _ h=>h)
 (K:VV W w n D ((d,.int k ((m+p:Nat):Int))::σ) fs gs (ql P md ops Q (λb=>Mem W b gs) ex fuel (listed.setIfInBounds i true))):VV W w n D σ fs gs (ql P md ops Q (λb=>Mem W b gs) ex (fuel+1) listed):=by
 subst hz;exact Va i h e hy j hb ht q K
def Ez (i p:Nat) {z:Int} (h:gV ops σ n i=some (d,.binOp .sub t x y t2):=by exact rfl) (e:look σ x=some (.int k (m:Int)):=by exact rfl) (hy:look σ y=some (.int k z):=by exact rfl) (hz:z=(p:Int):=by exact rfl) (j:ko k=some B:=by exact rfl) (hb:p<=m/\m-p<=B:=by omega) (ht:pJ md ops ex listed i=true:=by kernel_rfl) (q:∀c (a:Act) v w,Q (.panic c) (a.put (some d) v) w->Q (.panic c) a w:=by exact λ_ _ _ _ h=>h)
 (K:VV W w n D ((d,.int k ((m-p:Nat):Int))::σ) fs gs (ql P md ops Q (λb=>Mem W b gs) ex fuel (listed.setIfInBounds i true))):VV W w n D σ fs gs (ql P md ops Q (λb=>Mem W b gs) ex (fuel+1) listed):=by
 subst hz
 exact aaJ i h e hy ht q rfl (Qg _ _ _) (by rw [show ((m:Int)- (p:Int))=((m-p:Nat):Int) by omega,Es j hb.2]) K
def Vw (i:Nat) (k:aiT) {e:aiT} (h:gV ops σ n i=some (d,.convert t t2 x):=by exact rfl) (j:look σ x=some (.int e (m:Int)):=by exact rfl) (hk:(yO P t t2==some k&&pJ md ops ex listed i)=true:=by kernel_rfl) (q:ko k=some B:=by exact rfl) (hb:m<=B:=by omega) (r:∀c (a:Act) v w,Q (.panic c) (a.put (some d) v) w->Q (.panic c) a w:=by exact λ_ _ _ _ h=>h)
 (K:VV W w n D ((d,.int k (m:Int))::σ) fs gs (ql P md ops Q (λb=>Mem W b gs) ex fuel (listed.setIfInBounds i true))):VV W w n D σ fs gs (ql P md ops Q (λb=>Mem W b gs) ex (fuel+1) listed):=by
 rw [abG,beq_iff_eq] at hk
 obtain ⟨hk,ht⟩:=hk
 refine aar h ht r (λo s _=>Yl.pure (by
  rw [s]
  unfold yO at hk
  split at hk
  ·rename_i A C u z
   injection hk with hk
   subst hk
   simp only [sj,u,z,j,Es q hb]
  ·cases hk)) K
end
def VA (i:Nat) (m:tO fs gs) (r:Array aiN) {e:aiP} (h:gV ops σ n i=some (d,.alloc e):=by exact rfl) (hz:xL P e=some r:=by kernel_rfl) (hr:Region.ready md ops listed=[i]:=by kernel_rfl)
 (k:∀c g,VV W c n D ((d,.pointer (some ⟨g,0,none⟩))::σ) (.blk g r e::fs) gs (ql P md ops Q (λj=>Mem W j gs) ex fuel (listed.setIfInBounds i true))):VV W w n D σ fs gs (ql P md ops Q (λj=>Mem W j gs) ex (fuel+1) listed):=
 aaB h hr λ_ _ s u q Z b=>PN Z b s hz u q λa c g Z b=>⟨λ_=>b.sel (.f m),k c g a Z b (b.sel (.f m))⟩
def VI (i:Nat) (m:tO fs gs) {f:FuncId} {xs:Array aiR} {ts:Array aiP} {vs:List aiN} (s:gV ops σ n i=some (d,.call {callee:= .value (.func f),args:=xs,argTypes:=ts}):=by exact rfl) (u:looks σ xs.toList=some vs:=by exact rfl) (h:Mem W w fs->Calls P f vs.toArray w (λr b=>r= .returned v/\Below w.heap.size w b)) (z:callable P f=true:=by kernel_rfl) (hr:Region.ready md ops listed=[i]:=by kernel_rfl)
 (k:∀b,Below w.heap.size w b->VV W b n D ((d,v)::σ) fs gs (ql P md ops Q (λj=>Mem W j gs) ex fuel (listed.setIfInBounds i true))):VV W w n D σ fs gs (ql P md ops Q (λj=>Mem W j gs) ex (fuel+1) listed):=
 aaB s hr λ_ _ A C q Z c=>Ae Z A u z C q (h c) λ_ b ⟨E,e⟩=>⟨v,E,λa Z=>⟨λ_=>(c.call e).sel m,k b e a Z (c.call e) ((c.call e).sel m)⟩⟩
def VK (i:Nat) (m:tO fs gs) {f:FuncId} {xs:Array aiR} {ts:Array aiP} {vs:List aiN} {V:aiW->Nat->aiN} {l sz:Nat} {e:aiP} {ys:List aiN} (C:gV ops σ n i=some (d,.call {callee:= .value (.func f),args:=xs,argTypes:=ts}):=by exact rfl) (E:looks σ xs.toList=some vs:=by exact rfl) (h:Mem W w fs->Calls P f vs.toArray w (λr b=>(∃A c,r= .returned (V A c)/\b.ownsRow w.heap.size e sz (.slice A l c) l ys/\l<=c)/\Below w.heap.size w b)) (F:callable P f=true:=by kernel_rfl) (hr:Region.ready md ops listed=[i]:=by kernel_rfl)
 (k:∀A c b,l<=c->VV W b n D ((d,V A c)::σ) (.row (.slice A l c) l ys e sz::fs) gs (ql P md ops Q (λq=>Mem W q gs) ex fuel (listed.setIfInBounds i true))):VV W w n D σ fs gs (ql P md ops Q (λq=>Mem W q gs) ex (fuel+1) listed):=
 aaB C hr λ_ _ G H s Z j=>Ae Z G E F H s (h j) λr b ⟨⟨A,c,I,u,J⟩,z⟩=>⟨_,I,λa Z=>⟨λ_=>(j.cZ z u).sel (.f m),k A c b J a Z (j.cZ z u) ((j.cZ z u).sel (.f m))⟩⟩
end
structure CQ (x:Sm) (w:aiM) (r:aiQ) (w':aiM):Prop where
 ret:r= .returned (.agg x.ev.cells)
 below:Below w.heap.size w w'
def zi6 (x:Sm):∀v∈x.cells.toList,v.oneCell'=true:=by intro v a;simp [Sm.cells] at a;rcases a with rfl|rfl|rfl|rfl|rfl|rfl|rfl|rfl|rfl|rfl|rfl<;>rfl
def zi7 (t:Nat):abT .i64 (if (1:Int)>(t:Int) then 1 else (t:Int))= .int .i64 ((max t 1:Nat):Int):=by congr 1;split<;>omega
def Az (hc:c<64):2^c<18446744073709551616:=by
 have:(2:Nat)^c<2^64:=Nat.pow_lt_pow_right om hc
 omega
def zna {m c:Nat} (hm:m<18446744073709551616) (hc:c<64):abT .u64 (IntKind.u64.wrap (ab0 IntKind.u64.bits (m:Int)|||ab0 IntKind.u64.bits ((2^c:Nat):Int)).toNat)= .int .u64 ((m|||2^c:Nat):Int):=Xu (m:=m) (n:=2^c) hm (Az hc)
def zct {S:aiM->Prop} {σ:List (Nat×aiN)} {b:acw} (a:o.op= .binOp .shl t x y u) (d:look σ x=some (.int .u64 1)) (hy:look σ y=some (.int b (c:Int))) (hc:c<64):Yl abp S σ o (.int .u64 ((2^c:Nat):Int)):=by
 have h:=aaC (P:=abp) (S:=S) (σ:=σ) (m:=1) (n:=c) a d hy (by show c<=64;omega) (by show 1*2^c<=18446744073709551615;have:=Az hc;omega)
 rwa [ahv] at h
abbrev aiD:Array aiN:=#[vI 0,vI 0,vB 0,vB 0,vI 0,vI 0,vI 0,vI 0,vI 0,vQ 0,vI 0]
def q5t (x:Sm) (h:x.Ok) (w:aiM):Calls abp 159 #[.agg x.cells] w (CQ x w):=by
 refine (fE Tryz.func159 110) ?_
 refine (JP∘JE) λY g1=>(JA aiD) λw2 g2=>(Jq) ?_
 obtain ⟨h1,h2,h3,h4,h5,h6,h7,h8,h9,M,s⟩:=h
 refine (JG∘JP∘Jg 2 O1∘Jw .i64∘Jp 1∘Jo (vI (1+x.seq:Nat)) (by exact zc om om)∘Jg 3 O1∘Jw .i64∘Jg 1 O1∘Jp 1∘Jo (vB (x.cpu%64:Nat)) (by exact zi .u8 _ 64)∘Jg 0 O1∘Jp 1∘Jo (vB (x.kind%10:Nat)) (by exact zi .u8 _ 10)∘Jp 1∘Jo (vB (1+(x.kind%10):Nat)) (by exact Xp om om)∘fD #[vI (1+x.seq:Nat),vI x.time,vB (x.cpu%64:Nat),vB (1+(x.kind%10):Nat),vI 0,vI 0,vI 0,vI 0,vI 0,vQ 0,vI 0]∘JA aiD) λw3 g3=>(JV ⟨kr,kr⟩ aO) λt=>(aJ∘Jj) λa Z b=>?_
 refine wp_seq ?_
 refine Jb Z b ((Vs .n []) λN=>(Vf 0 4∘Vf 5 7∘Vf 10 9∘Vc 1 O2∘Vw 2 .i64∘Vp [3]∘Vo (vI (x.task%65535:Nat)) (by exact zi .i64 _ 65535)∘Vp [4]∘Vo (vI (1+(x.task%65535):Nat)) (by exact zc om om)∘Vp [15]∘Vc 6 O2∘Vw 7 .i64∘Vp [8]∘Vo (vI (x.weight%65536:Nat)) (by exact zi .i64 _ 65536)∘Vp [9]∘Vo (vI (1+(x.weight%65536):Nat)) (by exact zc om om)∘Vp [16]∘Vc 11 O2∘Vw 12 .i64∘Vp [13]∘Vo (vI (x.got%65535:Nat)) (by exact zi .i64 _ 65535)∘Vp [14]∘Vo (vI (1+(x.got%65535):Nat)) (by exact zc om om)∘Vp [17]∘Vd∘fJ∘JQ∘JP∘Jg 3 O0∘Jj∘JB∘aM 2∘aL∘Jj) (Je (λg=>?_) λg=>?_))
 ·
  refine (JT∘Vs (.f .n) [19]) λO=>(Vp [0]∘Vf 1 5∘Vp [5]∘Vf 6 10∘Vf 8 2∘Vc 2 O1∘Vw 3 .i64∘Vp [4]∘Vo (vI (x.group%256:Nat)) (by exact zi .i64 _ 256)∘Vc 7 O1) λa Z b d=>?_
  refine s_on Z 9 rfl ?_
  refine Yl.wp (S:=λu=>Mem w u _) (v:=vB (x.cpu%64:Nat)) (Pd rfl rfl kr (λ_ h=>h.cell (i:=0) rfl rfl)) Z b rfl de λa Z=>?_
  refine av d (λd=>?_)
  refine Vb Z b d ((Vf 12 4∘Vy 10 (v:=vQ (2^ (x.cpu%64):Nat)) (h:=by exact zct rfl rfl rfl (ad1 _ de))∘Vp [11]∘Vo (vQ (x.mask|||2^ (x.cpu%64):Nat)) (by exact zna s (ad1 _ de))) λa Z b d=>?_)
  refine s_on Z 13 rfl (eO Z b 0 λy b=>?_)
  refine av (b.pk [1,2]) (λd=>?_)
  refine Vb Z b d ((Vf 14 5) λa Z b d=>?_)
  refine s_on Z 15 rfl (eO Z b 0 λz b=>?_)
  refine av (b.pk [1,2]) (λd=>?_)
  refine Vb Z b d ((Vf 16 7) λa Z b d=>?_)
  refine s_on Z 17 rfl (eO Z b 0 λA b=>?_)
  refine av (b.pk [1,2]) (λd=>?_)
  refine Vb Z b d ((Vf 18 9) λa Z b d=>?_)
  refine s_on Z 19 rfl (eO Z b 0 λB b=>?_)
  refine dU kr ?_
  refine qe kr ?_
  refine Jb Z b ((JG∘JP∘Jy (v:= .agg #[vI (1+x.seq:Nat),vI x.time,vB (x.cpu%64:Nat),vB (1+(x.kind%10):Nat),vI (1+(x.task%65535):Nat),vI (x.group%256:Nat),vI 0,vI (1+(x.weight%65536):Nat),vI 0,vQ (x.mask|||2^ (x.cpu%64):Nat),vI 0]) (h:=by exact Pe rfl rfl ⟨kr,kr⟩ rfl (λ_ h=>qj (h.blk (i:=0) rfl)))∘JV ⟨kr,kr⟩ gu) λc=>(iZ∘aP) ?_)
  have e:x.kind%10=0:=by omega
  intro a Z b
  exact iV rfl Z (.cellS (i:=1) Z b rfl rfl ⟨kr,kr⟩ rfl) (⟨by simp [Sm.ev,Ev.cells,e],b.below⟩)
 refine (JF∘aM 2∘aL∘Jj) (Je (λj=>?_) λj=>?_)
 ·
  refine (JT∘JR∘Jp 1∘Jf 4∘JW aO qB) λJ=>(nE∘Jr∘eH ⟨kr,kr⟩ O0∘JV ⟨kr,kr⟩ gu) λc=>(mJ∘aP) ?_
  have e:x.kind%10=1:=by omega
  intro a Z b
  exact iV rfl Z (.cellS (i:=1) Z b rfl rfl ⟨kr,kr⟩ rfl) (⟨by simp [Sm.ev,Ev.cells,e],b.below⟩)
 refine (JF∘aM 2∘aL∘Jj) (Je (λk=>?_) λk=>?_)
 ·
  refine (JT∘JR∘Jg 8 O2∘Jw .i64∘Jy (v:=vI (if (1:Int)>(x.ticks:Int) then 1 else (x.ticks:Int))) (h:=by exact Yl.max rfl rfl rfl)∘Jo (vI (max x.ticks 1:Nat)) (by exact zi7 _)∘Jp 2∘Jo (vI (x.got%65535:Nat)) (by exact zc om om)∘Jf 8∘JW aO Gb) λC=>(Jf 10) λa Z b=>?_
  refine fo Z 9 rfl rfl (eO Z b 0 λD b=>?_)
  refine Jb Z b ((iZ∘Jr∘Jy (v:= .agg #[vI (1+x.seq:Nat),vI x.time,vB (x.cpu%64:Nat),vB (1+(x.kind%10):Nat),vI 0,vI 0,vI 0,vI 0,vI (max x.ticks 1:Nat),vQ 0,vI (x.got%65535:Nat)]) (h:=by exact Pe rfl rfl ⟨kr,kr⟩ rfl (λ_ h=>qj (h.blk (i:=0) rfl)))∘JV ⟨kr,kr⟩ gu) λc=>(nE∘aP) ?_)
  have e:x.kind%10=4:=by omega
  intro a Z b
  exact iV rfl Z (.cellS (i:=1) Z b rfl rfl ⟨kr,kr⟩ rfl) (⟨by simp [Sm.ev,Ev.cells,e],b.below⟩)
 refine (JF∘aM 2∘aL∘Jj) (Je (λl=>?_) λl=>?_)
 ·
  refine (JT∘JR∘Jp 2∘Jo (vI (x.got%65535:Nat)) (by exact zc om om)∘Jf 10) λa Z b=>?_
  refine fo Z 3 rfl rfl (eO Z b 0 λE b=>?_)
  refine Jb Z b ((oo∘Jr∘Jy (v:= .agg #[vI (1+x.seq:Nat),vI x.time,vB (x.cpu%64:Nat),vB (1+(x.kind%10):Nat),vI 0,vI 0,vI 0,vI 0,vI 0,vQ 0,vI (x.got%65535:Nat)]) (h:=by exact Pe rfl rfl ⟨kr,kr⟩ rfl (λ_ h=>qj (h.blk (i:=0) rfl)))∘JV ⟨kr,kr⟩ gu) λc=>(mJ∘aP) ?_)
  have e:x.kind%10=5:=by omega
  intro a Z b
  exact iV rfl Z (.cellS (i:=1) Z b rfl rfl ⟨kr,kr⟩ rfl) (⟨by simp [Sm.ev,Ev.cells,e],b.below⟩)
 refine (JF∘aM 2∘aL∘Jj) (Je (λm=>?_) λm=>?_)
 ·
  refine (JT∘JR∘Jp 2∘Jf 4∘JW aO qB) λF=>(Jf 7∘JW aO vE) λG=>(vF∘Jr∘eH ⟨kr,kr⟩ O0∘JV ⟨kr,kr⟩ gu) λc=>(mJ∘aP) ?_
  have e:x.kind%10=6:=by omega
  intro a Z b
  exact iV rfl Z (.cellS (i:=1) Z b rfl rfl ⟨kr,kr⟩ rfl) (⟨by simp [Sm.ev,Ev.cells,e],b.below⟩)
 refine (JF∘aM 2∘aL∘Jj) (Je (λo=>?_) λo=>?_)
 ·
  refine (JT∘JR∘Jg 5 O2∘Jw .i64∘Jp 1∘Jo (vI (x.group%255:Nat)) (by exact zi .i64 _ 255)∘Jp 1∘Jo (vI (1+(x.group%255):Nat)) (by exact zc om om)∘Jp 1∘Jf 5∘JW aO rC) λH=>(Jf 7∘JW aO vE) λI=>(iZ∘Jr∘eH ⟨kr,kr⟩ O0∘JV ⟨kr,kr⟩ gu) λc=>(nE∘aP) ?_
  have e:x.kind%10=7:=by omega
  intro a Z b
  exact iV rfl Z (.cellS (i:=1) Z b rfl rfl ⟨kr,kr⟩ rfl) (⟨by simp [Sm.ev,Ev.cells,e],b.below⟩)
 refine (JF∘aM 2∘aL∘Jj) (Je (λp=>?_) λp=>?_)
 ·
  refine (JT∘Vs (.f .n) [14]) λK=>(Vp [0]∘Vf 1 2∘Vf 5 6∘Vc 6 O1∘Vw 7 .i64∘Vp [8]∘Vo (vI (x.to%63:Nat)) (by exact zi .i64 _ 63)) λa Z b d=>?_
  refine s_on Z 2 rfl ?_
  refine Yl.wp (S:=λu=>Mem w u _) (v:=vB (x.cpu%64:Nat)) (Pd rfl rfl kr (λ_ h=>h.cell (i:=0) rfl rfl)) Z b rfl de λa Z=>?_
  refine av d (λd=>?_)
  refine Vb Z b d ((Vf 11 4∘Vw 3 .i64∘xV 4 1∘Va 9∘Vp [10]∘Vo (vI ((x.cpu%64+1+(x.to%63))%64:Nat)) (by exact zi .i64 _ 64)) λa Z b d=>?_)
  refine s_on Z 12 rfl (eO Z b 0 λq b=>?_)
  refine av (b.pk [1,2]) (λd=>?_)
  refine Vb Z b d ((Vf 13 6) λa Z b d=>?_)
  refine s_on Z 14 rfl (eO Z b 0 λr b=>?_)
  refine dU kr ?_
  refine qe kr ?_
  refine Jb Z b ((JG∘JP∘Jy (v:= .agg #[vI (1+x.seq:Nat),vI x.time,vB (x.cpu%64:Nat),vB (1+(x.kind%10):Nat),vI (1+(x.task%65535):Nat),vI 0,vI ((x.cpu%64+1+(x.to%63))%64:Nat),vI 0,vI 0,vQ 0,vI 0]) (h:=by exact Pe rfl rfl ⟨kr,kr⟩ rfl (λ_ h=>qj (h.blk (i:=0) rfl)))∘JV ⟨kr,kr⟩ gu) λc=>(iZ∘aP) ?_)
  have e:x.kind%10=8:=by omega
  intro a Z b
  exact iV rfl Z (.cellS (i:=1) Z b rfl rfl ⟨kr,kr⟩ rfl) (⟨by simp [Sm.ev,Ev.cells,e],b.below⟩)
 refine (JF∘JR∘Jp 1∘Jf 10) λa Z b=>?_
 refine fo Z 2 rfl rfl (eO Z b 0 λL b=>?_)
 refine Jb Z b ((nE∘Jr∘Jy (v:= .agg #[vI (1+x.seq:Nat),vI x.time,vB (x.cpu%64:Nat),vB (1+(x.kind%10):Nat),vI 0,vI 0,vI 0,vI 0,vI 0,vQ 0,vI (1+(x.got%65535):Nat)]) (h:=by exact Pe rfl rfl ⟨kr,kr⟩ rfl (λ_ h=>qj (h.blk (i:=0) rfl)))∘JV ⟨kr,kr⟩ gu) λc=>(mJ∘aP) ?_)
 have P:x.kind%10≠0:=om;have Q:x.kind%10≠1:=om;have R:x.kind%10≠4:=om;have T:x.kind%10≠5:=om;have U:x.kind%10≠6:=om;have V:x.kind%10≠7:=om;have W:x.kind%10≠8:=om;have X:(x.kind%10=2\/x.kind%10=3\/x.kind%10=9):=by omega
 intro a Z b
 exact iV rfl Z (.cellS (i:=1) Z b rfl rfl ⟨kr,kr⟩ rfl) (⟨by simp [Sm.ev,Ev.cells,P,Q,R,T,U,V,W,X],b.below⟩)
section
variable {P:aiO} {Q:aiV->Act->aiM->Prop} {a:Act} {W w w':aiM} {n d:Nat} {D:List aiU} {σ:List (Nat×aiN)} {o:aiS} {v:aiN} {K:Act->aiM->Prop} {fs:List aiX}
def run_copy_row (w:aiM) (p q r elem:aiP) (i:TypeInfo) (b off e h:Nat) (ad:Addr) (c f:Nat) (g:List aiN) (s:P.underlying p=some (.slice elem)) (hi:P.info? elem=some i) (t:abo g=agh c e*i.size)
  (k:∀j v,g[j]?=some v->w.cell? (ad.add j)=some v) (hc:w.there b off (abo g)) (h1:∀v∈g,v.oneCell'=true):
  (agJ #[p,q] r #[.slice (some ⟨b,off,none⟩) e h,.slice (some ad) c f]).run P w= .ok (goInt (agh c e)) (w.setCells b off g):=by
 have u:=run_firstCells_some (P:=P) w i.size (agh c e) ad c f g t k
 have l:=run_storeCells_cells (P:=P) b off g 0 w (by simpa using λj m=>(hc j m).1) (by simpa using λj m=>(hc j m).2) h1
 simp only [acK] at l
 simp [agJ,run_underlying s,afL,sizeOf,typeInfo,hi,u,l]
def M4 (Z:Fr a n D σ) (s:Mem W w fs) {x y:aiR} {t e:aiP} {z:aiN} {size bytes i g off h u sn sc m c:Nat} {ad:Addr} {xs:List aiN} (news:List aiN) (l:o.op= .call {callee:= .builtin .copy,args:= #[x,y],argTypes:= #[t,t]}) (A:EI P t e z size bytes)
  (E:look σ x=some (.slice (some ⟨g,off,none⟩) h u)) (hy:look σ y=some (.slice (some ad) sn sc)) (hi:fs[i]?=some (.row (.slice (some ⟨g,0,none⟩) m c) m xs e size)) (hk:news.length=Nat.min sn h*size) (b:∀j v,news[j]?=some v->w.cell? (ad.add j)=some v) (h1:∀v∈news,v.oneCell'=true) (B:off+news.length<=xs.length)
  (F:o.dst=some d) (p:d<n) (k:∀C w',Fr C n D ((d,.int .i64 (Nat.min sn h:Nat))::σ)->Mem W w' (fs.set i (.row (.slice (some ⟨g,0,none⟩) m c) m (putAt xs off news) e size))->K C w'):o.wp P a w K Q:=by
 obtain ⟨G,q,hz,r,H⟩:=info_parts A.hi
 have f:=run_copy_row (P:=P) w t t o.type e G g off h u ad sn sc news A.ht q (by rw [r];exact hk) b (Me s hi off _ B) h1
 unfold acS execOp
 simp only [l,resolve,invoke,builtin,abI,abS,abA,ac3,acB,adF,Z.eval E,Z.eval hy,f,acr,F]
 exact k _ _ (Z.put p _) (s.oM hi B)
def qpu (w:aiM) (t e i:aiP) (z:aiN) (ht:P.underlying t=some (.slice e)) (k:∀w,(zeroValue e).run P w= .ok z w) (b off n c:Nat) (l:0<n) (hc:w.there b off (ab2 z.cells n).toList.length) (h1:∀v∈(ab2 z.cells n).toList,v.oneCell'=true):
  (agE #[t] i #[.slice (some ⟨b,off,none⟩) n c]).run P w= .ok (.tuple #[]) (w.setCells b off (ab2 z.cells n).toList):=by
 have f:=run_storeCells_cells (P:=P) b off (ab2 z.cells n).toList 0 w (λj g=>by have h:=(hc j g).1;simpa only [acK] using h) (λj g=>by have h:=(hc j g).2;simpa only [acK] using h) h1
 simp only [acK] at f
 obtain ⟨m,rfl⟩:∃m,n=m+1:=⟨n-1,by omega⟩
 simp [agE,run_underlying ht,k,f]
def zje (Z:Fr a n D σ) (q:Mem W w fs) {x:aiR} {t e:aiP} {z:aiN} {size bytes i g off b r m c:Nat} {xs:List aiN} (j:o.op= .call {callee:= .builtin .clear,args:= #[x],argTypes:= #[t]}) (l:EI P t e z size bytes)
  (y:look σ x=some (.slice (some ⟨g,off,none⟩) b r)) (hi:fs[i]?=some (.row (.slice (some ⟨g,0,none⟩) m c) m xs e size)) (f:0<b) (h1:∀v∈(Builtin.zeroCells z.cells b).toList,v.oneCell'=true) (s:off+b*size<=xs.length)
  (A:o.dst=none) (k:∀w',Mem W w' (fs.set i (.row (.slice (some ⟨g,0,none⟩) m c) m (putAt xs off (Builtin.zeroCells z.cells b).toList) e size))->K a w'):o.wp P a w K Q:=by
 obtain ⟨E,p,hz,B,C⟩:=info_parts l.hi
 have u:(ab2 z.cells b).toList.length=b*size:=by rw [acA,size_zeroCells,l.hz]
 have h:=qpu (P:=P) w t e o.type z l.ht (λw=>by simp [zeroValue,typeInfo,p,hz]) g off b r f (Me q hi off _ (by rw [u];exact s)) h1
 unfold acS execOp
 simp only [j,resolve,invoke,builtin,abI,abS,abA,ac3,acB,adF,Z.eval y,h,acr,A]
 exact k _ (q.oM hi (by rw [u];exact s))
def qkr (w:aiM) (t tn B e:aiP) (i:TypeInfo) (z:aiN) (k kn:aiT) (ht:P.underlying t=some (.slice e)) (q:P.underlying tn=some (.int kn)) (hi:P.info? e=some i) (hz:i.zero=some z)
  (b:Addr) (c f:Nat) (g:List aiN) (r:abo g=c*i.size) (holds:∀j v,g[j]?=some v->w.cell? (b.add j)=some v) (n:Nat) (F:0<n) (hs:0<i.size) (G:f<c+n) (h63:((c+n:Nat):Int)<=9223372036854775807) (y:afY (c+n) f*i.bytes<=281474976710656) (C:n*i.bytes<=281474976710656):
  (ac9 #[t, tn] B #[.slice (some b) c f, .int k n]).run P w =
   .ok (.slice (some ⟨w.heap.size,0,none⟩) (c+n) (grownCap w (c+n) f e)) (w.drew.alloc (.cells (g.toArray++ab2 z.cells n++ab2 z.cells (grownCap w (c+n) f e- (c+n))) e)):=by
 have A:n≠0:=by omega
 have E:IntKind.i64.wrap (n:Int)=n:=by rw [IntKind.wrap_i64];omega
 have s:¬(c+n<=f):=by omega
 have h:¬(9223372036854775807<((c:Int)+(n:Int))):=by omega
 have l:¬(281474976710656<afY (c+n) f*i.bytes):=by omega
 have m:¬(281474976710656<(n:Int)*(i.bytes:Int)):=by
  rw [<-Int.natCast_mul]
  omega
 have p:¬((n:Int)<0):=by omega
 have u:¬(n*i.size=0):=ag3 A om
 have x:=run_firstCells_some (P:=P) w.drew i.size c b c f g r (by simpa using holds)
 simp [ac9,run_underlying ht,run_underlying q,sizeOf,typeInfo,zeroValue,hi,hz,asInt,asIntOf,E,A,s,p,u,h,l,m,Question.forced,x,newRow,grownCap]
theorem qni (Z:Fr a n D σ) (G:Mem W w fs) {s x:aiR} {t tn e:aiP} {z:aiN} {size bytes c cap m:Nat} {ad:Addr} {xs:List aiN} {kn k:aiT} (r:o.op= .call {callee:= .builtin .append,args:= #[s,x],argTypes:= #[t,tn]}) (f:EI P t e z size bytes) (u:P.underlying tn=some (.int kn))
  (hs:look σ s=some (.slice (some ad) c cap)) (H:look σ x=some (.int k (m:Int))) (b:xs.length=c*size/\∀j v,xs[j]?=some v->w.cell? (ad.add j)=some v) (hm:0<m) (C:cap<c+m) (hb:(c+m)*bytes<=140737488355328) (h63:c+m<=9223372036854775807)
  (I:o.dst=some d) (y:d<n) (J:∀E w' g A,Fr E n D ((d,.slice (some ⟨g,0,none⟩) (c+m) A)::σ)->Mem W w' (.row (.slice (some ⟨g,0,none⟩) (c+m) A) (c+m) (xs++(Builtin.zeroCells z.cells m).toList) e size::fs)->c+m<=A->K E w'):o.wp P a w K Q:=by
 obtain ⟨i,hi,hz,h,l⟩:=info_parts f.hi
 have L:=qkr (P:=P) w t tn o.type e i z k kn f.ht u hi hz ad c cap xs (by rw [h];exact b.1) b.2 m hm (by rw [h];exact f.hs) C om (by rw [l];exact growslice_fits C hb) (by rw [l];exact ada (acy _ (Nat.le_add_left _ _)) (ada hb de))
 have F:=grownCap_ge w (c+m) cap e
 have M:=grownCap_le_maxLen w (c+m) cap e (by unfold maxLen;omega)
 have B:(ab2 z.cells m).size=m*size:=by rw [size_zeroCells,f.hz]
 have p:abo (xs++(ab2 z.cells m).toList)=(c+m)*size:=by rw [abq,b.1,aeo];show c*size+(ab2 z.cells m).toList.length=_;rw [acA (xs:=ab2 z.cells m),B]
 have q:(w.drew.alloc (.cells (xs.toArray++ab2 z.cells m++ab2 z.cells (grownCap w (c+m) cap e- (c+m))) e)).ownsRow w.heap.size e size (.slice (some ⟨w.heap.size,0,none⟩) (c+m) (grownCap w (c+m) cap e)) (c+m) (xs++(ab2 z.cells m).toList):=by
  refine ⟨p,.inr ⟨w.heap.size,_,_,rfl,abu _,ad6 w.drew _,F,M,?_,?_⟩⟩
  ·simp only [afg,ade,size_zeroCells,f.hz,b.1,<-aeo]
   congr 1
   omega
  ·grind
 unfold acS execOp
 simp only [r,resolve,invoke,builtin,abI,abS,abA,ac3,acB,adF,Z.eval hs,Z.eval H,L]
 rw [acr,I]
 exact J _ _ w.heap.size _ (Z.put y _) (G.cZ ((ad2 _ _).drew.alloc (by simp) _) q) F
theorem Mem.oU (h:Mem W w fs) {i g m m' c size:Nat} {e:aiP} {xs:List aiN} (hi:fs[i]?=some (.row (.slice (some ⟨g,0,none⟩) m c) m xs e size)) (h1:m<=m') (r:m'<=c):∃s:List aiN,abo s=(m'-m)*size/\Mem W w (fs.set i (.row (.slice (some ⟨g,0,none⟩) m' c) m' (xs++s) e size)):=by
 have t:=h.own hi
 obtain ⟨B,u⟩:=t
 rcases u with ⟨x,_⟩|⟨y,cap,cur,b,j,k,z,l,f,ht⟩
 ·cases x
 ·injection b with b A p
  injection b with b
  injection b with b
  subst b;subst p
  have e1:m'*size=m*size+(m'-m)*size:=by rw [<-aeo];congr 1;omega
  have e2:m'*size<=abo cur.toList:=by rw [acA,f];exact acy _ r
  refine ⟨(cur.toList.drop (m*size)).take ((m'-m)*size),by rw [abx,abE];omega,?_⟩
  have e3:xs++(cur.toList.drop (m*size)).take ((m'-m)*size)=cur.toList.take (m'*size):=by rw [<-ht,e1,List.take_add]
  rw [e3]
  refine h.turn hi h.below (λ_ _ _=>rfl) ⟨by rw [abx];omega,.inr ⟨g,c,cur,rfl,j,k,r,l,f,rfl⟩⟩ (λy q=> .inl q)
theorem Mem.Hr (h:Mem W w fs) {i g m m' c size:Nat} {e:aiP} {xs ys:List aiN} (hi:fs[i]?=some (.row (.slice (some ⟨g,0,none⟩) m c) m xs e size)) (h1:m'<=m) (hy:xs.take (m'*size)=ys):Mem W w (fs.set i (.row (.slice (some ⟨g,0,none⟩) m' c) m' ys e size)):=by
 subst hy
 have b:=h.shrink hi h1 (λe=>by cases e)
 exact b
theorem qvo (Z:Fr a n D σ) (U:Mem W w fs) {s x:aiR} {t e:aiP} {z:aiN} {size bytes i b m c r g:Nat} {ad:Addr} {xs news:List aiN} (L:o.op= .call {callee:= .builtin .append,args:= #[s,x],argTypes:= #[t,t]}) (V:EI P t e z size bytes)
  (hs:look σ s=some (.slice (some ⟨g,0,none⟩) b r)) (Y:look σ x=some (.slice (some ad) m c)) (hi:fs[i]?=some (.row (.slice (some ⟨g,0,none⟩) b r) b xs e size)) (M:news.length=m*size) (f:∀j v,news[j]?=some v->w.cell? (ad.add j)=some v) (p:b+m<=r) (h1:∀u∈news,u.oneCell'=true)
  (hd:o.dst=some d) (N:d<n) (k:∀X w',Fr X n D ((d,.slice (some ⟨g,0,none⟩) (b+m) r)::σ)->Mem W w' (fs.set i (.row (.slice (some ⟨g,0,none⟩) (b+m) r) (b+m) (xs++news) e size))->K X w'):o.wp P a w K Q:=by
 obtain ⟨J,O,hz,l,hby⟩:=info_parts V.hi
 have B:=U.own hi
 obtain ⟨C,h2⟩:=B
 rcases h2 with ⟨h3,_⟩|⟨g',cap,cur,y,hbb,hgg,hnc,hcm,hcs,ht⟩
 ·cases h3
 ·injection y with y hv2 R
  injection y with y
  injection y with y
  subst y;subst R
  have S:abo news=m*J.size:=by rw [l];exact M
  obtain ⟨ys,E,F⟩:=U.oU hi (adC b m) p
  have G:abo xs=b*size:=C
  have A:=F.oM (off:=b*size) (vs:=news) (adf (abB.1 hi).1) (by rw [abq,E,G,M];rw [acJ];exact abu _)
  have H:=Me F (adf (abB.1 hi).1) (b*size) (abo news) (by rw [abq,E,G,M];rw [acJ];exact abu _)
  have hf:=run_firstCells_some (P:=P) w J.size m ad m c news S f
  have I:=run_storeCells_cells (P:=P) g (b*J.size) news 0 w (λj T=>by rw [l];have h:=(H j T).1;simpa only [acK] using h) (λj T=>by rw [l];have h:=(H j T).2;simpa only [acK] using h) h1
  simp only [acK] at I
  have q:(ac9 #[t,t] o.type #[.slice (some ⟨g,0,none⟩) b r,.slice (some ad) m c]).run P w= .ok (.slice (some ⟨g,0,none⟩) (b+m) r) (w.setCells g (b*J.size) news):=by
   simp [ac9,run_underlying V.ht,sizeOf,typeInfo,O,afL,p,hf,acI,I]
  rw [List.set_set] at A
  have e2:putAt (xs++ys) (b*size) news=xs++news:=by
   unfold putAt
   simp_all
  rw [e2] at A
  rw [l] at q
  unfold acS execOp
  simp only [L,resolve,invoke,builtin,abI,abS,abA,ac3,acB,adF,Z.eval hs,Z.eval Y,q,acr,hd]
  exact k _ _ (Z.put N _) A
theorem zc0 (Z:Fr a n D σ) (j:Mem W w fs) {f:FuncId} {xs:Array aiR} {ts:Array aiP} {vs:List aiN} (c:o.op= .call {callee:= .value (.func f),args:=xs,argTypes:=ts}) (h:looks σ xs.toList=some vs) (b:(callFunc f vs.toArray).run P w= .ok (.value v) w) (i:o.dst=some d) (e:d<n)
  (k:∀g,Fr g n D ((d,v)::σ)->K g w):o.wp P a w K Q:=by
 have e1:xs.map a.eval=vs.toArray:=by
  have:=Ad Z h
  grind
 unfold acS execOp
 simp only [c,resolve,ag9,adH,invoke,abI,abS,abA]
 have e3: #[]++adB a.eval xs++ #[]=vs.toArray:=by simp [e1]
 show afU P o a K Q (((callFunc f (#[]++adB a.eval xs++ #[])).run P w))
 rw [e3,b,acr,i]
 exact k _ (Z.put e _)
def qsr (q:Mem W w fs) {i j k g off L M m c:Nat} {C:Array aiN} {xs:List aiN} {t e r u:aiP} {size:Nat} {z:aiN} {bytes:Nat} (s:EI P t e z size bytes) (N:fs[i]?=some (.blk k C u)) (hi:fs[j]?=some (.row (.slice (some ⟨g,0,none⟩) m c) m xs e size)) (x:i≠j) (hm:0<c) (ln lc:Nat):
  (adZ #[t,t] #[r] #[.slice (some ⟨k,0,none⟩) ln lc,.slice (some ⟨g,off,none⟩) L M]).run P w= .ok (.bool false) w:=by
 obtain ⟨Z,y,hz,A,R⟩:=info_parts s.hi
 have B:=q.blk N
 obtain ⟨hl,S⟩:=q.own hi
 rcases S with ⟨T,_⟩|⟨g',cap,cur,E,U,F,V,X,G,ht⟩
 ·cases T
 ·injection E with b Y H
  injection b with b
  injection b with b
  subst b;subst H
  have I:k≠g:=by
   intro e
   subst e
   obtain ⟨f,h⟩:=abB.1 N
   obtain ⟨l,p⟩:=abB.1 hi
   rcases Nat.lt_or_gt_of_ne x with J|J
   ·have:=acC.1 q.apart i j f l J
    rw [h,p] at this
    exact this k rfl rfl
   ·have:=acC.1 q.apart j i l f J
    rw [h,p] at this
    exact this k rfl rfl
  have O:=s.hs
  exact Lib.run_overlaps_apart w t r e s.ht size (λw=>by simp [sizeOf,typeInfo,y,A]) ⟨k,0,none⟩ ⟨g,off,none⟩ ln lc L M I u e C.size cur.size (by simp [afX,B]) (by simp [afX,F]) (by rw [G];exact ag3 om om) (by simp [afM,B]) (by simp [afM,B])
end
def M5 {a b c:List aiN}:putAt (a++b) (abo a) c=a++c++b.drop (abo c):=by
 unfold putAt
 rw [adO,<-acN,afE]
def q1b {a b c:List aiN} {k:Nat}:putAt (a++b) (abo a+k) c=a++putAt b k c:=by
 unfold putAt
 rw [aft,abL (adC _ _),acJ,show abo a+k+abo c=abo a+(k+abo c) by omega,afu,acs (adC _ _),acZ,acJ]
 simp only [abv]
def fQ (x:Gr):List aiN:=[.int .i64 x.parent,.int .i64 x.weight]
def bX (x:Tk):List aiN:=[.int .i64 x.id,.int .i64 x.group,.int .i64 x.weight,.int .i64 x.cpu,.int .u64 (x.mask:Int),.bool x.ready,.int .u64 (x.v:Int),.int .u32 (x.r:Int)]
def jc (x:Sp):List aiN:=[.int .u64 (x.v:Int),.int .u32 (x.r:Int),.int .u64 (x.floor:Int)]
def Gr.cells (x:Gr):Array aiN:= #[.int .i64 x.parent,.int .i64 x.weight]
def Tk.cells (x:Tk):Array aiN:= #[.int .i64 x.id,.int .i64 x.group,.int .i64 x.weight,.int .i64 x.cpu,.int .u64 (x.mask:Int),.bool x.ready,.int .u64 (x.v:Int),.int .u32 (x.r:Int)]
def Sp.cells (x:Sp):Array aiN:= #[.int .u64 (x.v:Int),.int .u32 (x.r:Int),.int .u64 (x.floor:Int)]
def pR (x:Gr):abo (fQ x)=2:=rfl
def qm (x:Tk):abo (bX x)=8:=rfl
def yU (x:Sp):abo (jc x)=3:=rfl
def ZT (x:Gr):∀v∈x.cells.toList,v.oneCell'=true:=by simp [Gr.cells,abX]
def Ht (x:Tk):∀v∈x.cells.toList,v.oneCell'=true:=by simp [Tk.cells,abX]
def ZU (x:Sp):∀v∈x.cells.toList,v.oneCell'=true:=by simp [Sp.cells,abX]
structure Rw where
 A:aiW
 c:Nat
 l:List Sp
def Rw.zero:Rw:=⟨none,0,[]⟩
def aac (x:Rw):aiN:= .slice x.A (abo x.l) x.c
def Rw.own (x:Rw):Own:=⟨x.A,abo x.l,x.c,x.l.flatMap jc⟩
structure aF where
 au:Int
 aj:Nat
 gA:aiW
 gc:Nat
 gs:List Gr
 lA:aiW
 lc:Nat
 cl:List Int
 uA:aiW
 uc:Nat
 cu:List Int
 tA:aiW
 tc:Nat
 ts:List Tk
 sA:aiW
 sc:Nat
 rs:List Rw
def aF.ay (x:aF):bH:=⟨x.au,x.aj,x.gs,x.cl,x.cu,x.ts,x.rs.map Rw.l⟩
def aF.cells (x:aF):Array aiN:= #[.int .i64 x.au,.int .u64 (x.aj:Int),.slice x.gA (abo x.gs) x.gc,.slice x.lA (abo x.cl) x.lc,.slice x.uA (abo x.cu) x.uc,.slice x.tA (abo x.ts) x.tc,.slice x.sA (abo x.rs) x.sc]
def EL (x:aF):∀v∈x.cells.toList,v.oneCell'=true:=by simp [aF.cells,abX]
structure fA (w:aiM) (x:aF):Prop where
 g:Rd w w.heap.size 2 x.gA (abo x.gs) (x.gs.flatMap fQ)
 l:Rd w w.heap.size 1 x.lA (abo x.cl) (x.cl.map aZ)
 u:Rd w w.heap.size 1 x.uA (abo x.cu) (x.cu.map aZ)
 t:Rd w w.heap.size 8 x.tA (abo x.ts) (x.ts.flatMap bX)
 s:Rd w w.heap.size 1 x.sA (abo x.rs) (x.rs.map aac)
 r:∀y∈x.rs,Rd w w.heap.size 3 y.A (abo y.l) (y.l.flatMap jc)
structure gD (x:aF):Prop where
 g:abo x.gs<=x.gc
 l:abo x.cl<=x.lc
 u:abo x.cu<=x.uc
 t:abo x.ts<=x.tc
 s:abo x.rs<=x.sc
 r:∀y∈x.rs,abo y.l<=y.c
structure cK (x:aF):Prop where
 g:abo x.gs<=1000000
 l:abo x.cl<=1000000
 u:abo x.cu<=1000000
 t:abo x.ts<=1000000
 s:abo x.rs<=1000000
 r:∀y∈x.rs,abo y.l<=1000000
theorem fA.old {x:aF} (h:fA W x) (a:Mem W w fs):fA w x:=⟨a.old h.g,a.old h.l,a.old h.u,a.old h.t,a.old h.s,λy b=>a.old (h.r y b)⟩
theorem kC {x:aF} (h:g<abo x.rs):x.ay.sp.getD g []=(x.rs.getD g Rw.zero).l:=by
 show (x.rs.map Rw.l).getD g []=_
 rw [abt,abt,acM,abr h]
 rfl
theorem fA.row {x:aF} (h:fA w x) {g:Nat} (a:g<abo x.rs):Rd w w.heap.size 3 (x.rs.getD g Rw.zero).A (x.rs.getD g Rw.zero).l.length ((x.rs.getD g Rw.zero).l.flatMap jc):=h.r _ (qf Rw.zero a)
def kD:SI abp 198 2:=⟨by kernel_rfl,by kernel_rfl⟩
def fF:SI abp 232 8:=⟨by kernel_rfl,by kernel_rfl⟩
def lY:SI abp 200 3:=⟨by kernel_rfl,by kernel_rfl⟩
def yV:SI abp 44 3:=⟨by kernel_rfl,by kernel_rfl⟩
def eU:SI abp 48 7:=⟨by kernel_rfl,by kernel_rfl⟩
def qp:SI abp 333 3:=⟨by kernel_rfl,by kernel_rfl⟩
def zo:SI abp 50 8:=⟨by kernel_rfl,by kernel_rfl⟩
def jv:EI abp 42 198 (.agg Gr.zero.cells) 2 16:=⟨by kernel_rfl,by kernel_rfl,rfl,by omega⟩
def dK:EI abp 45 232 (.agg Tk.zero.cells) 8 64:=⟨by kernel_rfl,by kernel_rfl,rfl,by omega⟩
def lZ:EI abp 176 200 (.agg Sp.zero.cells) 3 24:=⟨by kernel_rfl,by kernel_rfl,rfl,by omega⟩
def oz:EI abp 46 176 (.slice none 0 0) 1 24:=⟨by kernel_rfl,by kernel_rfl,rfl,by omega⟩
section
variable {w w':aiM} {p q:Prop} [Decidable p] [Decidable q]
def AL (h:q↔p) (hb:Below w.heap.size w w'):Is w (.bool (decide p)) (.returned (.bool (decide q))) w':=⟨by rw [decide_eq_decide.2 h],hb⟩
def EM (h:p) (hb:Below w.heap.size w w'):Is w (.bool (decide p)) (.returned (.bool true)) w':=⟨by rw [decide_eq_true h],hb⟩
def eG (h:¬p) (hb:Below w.heap.size w w'):Is w (.bool (decide p)) (.returned (.bool false)) w':=⟨by rw [decide_eq_false h],hb⟩
def dw {a b:Bool} (h:a=b) (hb:Below w.heap.size w w'):Is w (.bool b) (.returned (.bool a)) w':=h▸ ⟨rfl,hb⟩
end
def Ry {l:List Gr} (h:¬(1<=abo l/\abo l<=256/\l.getD 0 Gr.zero=⟨0,1⟩)):dO l=false:=by unfold dO;rw [decide_eq_false h,adw]
def M9 {l:List Gr} (a:g<abo l) (h:qH l g=false):dO l=false:=by unfold dO;rw [AJ a h,adx]
def zc1 {l:List Gr} (h:1<=abo l/\abo l<=256/\l.getD 0 Gr.zero=⟨0,1⟩) (a:gJ (abo l) (qH l)):dO l=true:=by unfold dO;rw [decide_eq_true h,a.all];rfl
def zc2 (l:List Gr):qH l 0=true:=rfl
theorem Na {l:List Gr} (a:0<g) (h:¬(0<=(l.getD g Gr.zero).parent/\(l.getD g Gr.zero).parent<g/\(1<=(l.getD g Gr.zero).weight/\(l.getD g Gr.zero).weight<=65536)/\jh l g<=4)):qH l g=false:=by grind [qH,mo]
theorem zjf {l:List Gr} (h:0<=(l.getD g Gr.zero).parent/\(l.getD g Gr.zero).parent<g/\(1<=(l.getD g Gr.zero).weight/\(l.getD g Gr.zero).weight<=65536)/\jh l g<=4):qH l g=true:=by grind [qH,mo]
def q6a {l:List Gr} (b:gJ g (qH l)) (h:0<=(l.getD g Gr.zero).parent/\(l.getD g Gr.zero).parent<g):∀i,0<i->i<=g->fq l i:=λi c hi=>by
 rcases ab6 i g with a|a
 ·exact M6 (b i a) c
 ·obtain rfl:i=g:=by omega
  exact h
def yX {l:List Gr} (h:dO l=true) {g:Nat} (b:g<abo l):∀i,0<i->i<=g->fq l i:=λi a hi=>M6 ((qt h).2.2.2 i om) a
def ZX (x y:Gr):nO abp 4 198 (.agg x.cells) (.agg y.cells)=some (decide (x=y)):=by
 have h:nO abp 4 198 (.agg x.cells) (.agg y.cells)=some ((x.parent==y.parent)&& ((x.weight==y.weight)&&true)):=by kernel_rfl
 refine h.trans (congrArg some ?_)
 obtain ⟨a,b⟩:=x
 obtain ⟨c,d⟩:=y
 rw [ab3]
 simp only [abG,beq_iff_eq,decide_eq_true_eq,Gr.mk.injEq,and_true]
def zjg {m n:Nat} (h:1<=n):(((m/2^ (n-1)/2:Nat):Int) !=(0:Int))=decide (2^n<=m):=by
 have e:m/2^ (n-1)/2=m/2^n:=by rw [Nat.div_div_eq_div_mul,<-Nat.pow_succ,show (n-1).succ=n by omega]
 rw [e,ab3,bne_iff_ne,decide_eq_true_eq]
 have a:= @Nat.div_pos_iff m (2^n)
 have c:0<2^n:=ag2 n
 generalize m/2^n=q at*
 constructor
 ·intro b
  exact (a.1 om).2
 ·intro b
  have:=a.2 ⟨c,b⟩
  omega
section
variable {x:aF} {t:Tk}
def EN (h:¬(1<=t.id/\t.id<=65535/\0<=t.group/\t.group<abo x.rs/\0<=t.cpu/\t.cpu<x.au)):eF x.ay t=false:=by
 unfold eF
 rw [decide_eq_false (by rwa [show abo x.ay.sp=abo x.rs from abw ..]),adw]
theorem znf (h:¬(1<=t.weight/\t.weight<=65536)):eF x.ay t=false:=by grind [eF,mo]
def zng (h:2^x.au.toNat<=t.mask):eF x.ay t=false:=by
 unfold eF yg
 rw [show decide (2^x.ay.au.toNat<=t.mask)=true from decide_eq_true h]
 simp
def znh (h:¬t.mask/2^t.cpu.toNat%2=1):eF x.ay t=false:=by unfold eF;rw [decide_eq_false h];simp
def zni (h:1<=t.id/\t.id<=65535/\0<=t.group/\t.group<abo x.rs/\0<=t.cpu/\t.cpu<x.au) (a:1<=t.weight/\t.weight<=65536) (b:¬2^x.au.toNat<=t.mask) (c:t.mask/2^t.cpu.toNat%2=1):eF x.ay t=cB t.v t.r t.weight:=by
 unfold eF mo yg
 rw [decide_eq_true (by rwa [show abo x.ay.sp=abo x.rs from abw ..]),decide_eq_true a,show decide (2^x.ay.au.toNat<=t.mask)=false from decide_eq_false b,decide_eq_true c]
 simp
def Rz (h:¬(1<=x.au/\x.au<=64/\x.aj<=1099511627776)):gK x.ay=false:=by unfold gK;rw [show decide (1<=x.ay.au/\x.ay.au<=64/\x.ay.aj<=1099511627776)=false from decide_eq_false h];rfl
def zjh (h:1<=x.au/\x.au<=64/\x.aj<=1099511627776):gK x.ay=dO x.gs:=by unfold gK;rw [show decide (1<=x.ay.au/\x.ay.au<=64/\x.ay.aj<=1099511627776)=true from decide_eq_true h];rfl
def mM (h:gK x.ay=true):1<=x.au/\x.au<=64/\x.aj<=1099511627776/\dO x.gs=true:=by
 unfold gK at h
 rw [abG,decide_eq_true_eq] at h
 exact ⟨h.1.1,h.1.2.1,h.1.2.2,h.2⟩
end
def vY (w:aiM) (n:Nat) (p:Nat->Bool) (r:aiQ) (w':aiM):Prop:=(∃i:Int,r= .returned (.int .i64 i)/\decide (i>=0)= !iH n p)/\Below w.heap.size w w'
def q1c {k:Nat} {p:Nat->Bool} (hk:k<n) (h:p k=false) (hb:Below w.heap.size w w'):vY w n p (.returned (.int .i64 (k:Int))) w':=⟨⟨k,rfl,by rw [AJ hk h,decide_eq_true om];rfl⟩,hb⟩
def q1d {p:Nat->Bool} (a:gJ n p) (hb:Below w.heap.size w w'):vY w n p (.returned (.int .i64 (-1))) w':=⟨⟨-1,rfl,by rw [a.all];rfl⟩,hb⟩
def RA (w:aiM) (l:List Gr) (r:aiQ) (w':aiM):Prop:=(∃i e:Int,r= .returned (.tuple #[.int .i64 i,.int .i64 e])/\((e==0)=dO l))/\Below w.heap.size w w'
def CS {l:List Gr} {i e:Int} (h:dO l=false) (a:e≠0) (hb:Below w.heap.size w w'):RA w l (.returned (.tuple #[.int .i64 i,.int .i64 e])) w':=⟨⟨i,e,rfl,by rw [h];exact beq_false_of_ne a⟩,hb⟩
def qvp {l:List Gr} {i:Int} (h:dO l=true) (hb:Below w.heap.size w w'):RA w l (.returned (.tuple #[.int .i64 i,.int .i64 0])) w':=⟨⟨i,0,rfl,by rw [h];rfl⟩,hb⟩
section
variable {x:aF} {g c i:Nat}
theorem lJ:abo x.ay.sp=abo x.rs:=abw ..
theorem RB:M7 x.ay=decide ((abo x.cl:Int)=x.au/\(abo x.cu:Int)=x.au/\abo x.rs=abo x.gs):=by unfold M7;rw [lJ];rfl
def znj (h:gK x.ay=false):nQ x.ay=false:=by unfold nQ;rw [h];rfl
theorem RD (h:¬((abo x.cl:Int)=x.au/\(abo x.cu:Int)=x.au/\abo x.rs=abo x.gs)):nQ x.ay=false:=by grind [RB,nQ]
def Hu (h:iH (abo x.cl) (λc=>iQ (x.cl.getD c 0))=false):nQ x.ay=false:=by unfold nQ;rw [show iH (abo x.ay.cl) (λc=>iQ (x.ay.cl.getD c 0))=false from h];simp
theorem ZY (a:g<abo x.rs) (h:rowOk x.ay g=false):nQ x.ay=false:=by grind [AJ,nQ,lJ]
def Hw (hi:i<abo x.ts) (h:jr x.ay i=false):nQ x.ay=false:=by unfold nQ;rw [AJ (n:=abo x.ay.ts) hi h];simp
def znk (h1:gK x.ay=true) (a:(abo x.cl:Int)=x.au/\(abo x.cu:Int)=x.au/\abo x.rs=abo x.gs) (b:iH (abo x.cl) (λc=>iQ (x.cl.getD c 0))=true) (d:gJ (abo x.rs) (rowOk x.ay)) (e:gJ (abo x.ts) (jr x.ay)):nQ x.ay=true:=by
 unfold nQ
 rw [h1,RB,decide_eq_true a,show iH (abo x.ay.cl) (λc=>iQ (x.ay.cl.getD c 0))=true from b,lJ,d.all,show iH (abo x.ay.ts) (jr x.ay)=true from e.all]
 rfl
structure ShAt (x:aF):Prop where
 cfg:gK x.ay=true
 cl:(abo x.cl:Int)=x.au
 cu:(abo x.cu:Int)=x.au
 rs:abo x.rs=abo x.gs
 cls:∀c,c<abo x.cl->iQ (x.cl.getD c 0)=true
 row:∀g,g<abo x.rs->rowOk x.ay g=true
 tk:∀i,i<abo x.ts->jr x.ay i=true
def vZ (h:nQ x.ay=true):ShAt x:=by
 unfold nQ at h
 simp only [abG] at h
 obtain ⟨⟨d,a⟩,e,b,f⟩:=h
 rw [RB,decide_eq_true_eq] at a
 rw [lJ] at b
 exact ⟨d,a.1,a.2.1,a.2.2,λc hc=>vV e hc,λg j=>vV b j,λi hi=>vV f hi⟩
theorem Nb (a:g<abo x.rs):rowOk x.ay g=(decide (((x.rs.getD g Rw.zero).l.length:Int)=x.au)&&iH (x.rs.getD g Rw.zero).l.length λc=>eZ x.ay g ((x.rs.getD g Rw.zero).l.getD c Sp.zero)):=by
 unfold rowOk bH.spot
 rw [kC a]
 rfl
def zji (a:g<abo x.rs) (h:((x.rs.getD g Rw.zero).l.length:Int)≠x.au):rowOk x.ay g=false:=by rw [Nb a,decide_eq_false h];rfl
def zjj (a:g<abo x.rs) (hc:c<(x.rs.getD g Rw.zero).l.length) (h:eZ x.ay g ((x.rs.getD g Rw.zero).l.getD c Sp.zero)=false):rowOk x.ay g=false:=by rw [Nb a,AJ hc h,adx]
def Z0 (a:g<abo x.rs) (h:((x.rs.getD g Rw.zero).l.length:Int)=x.au) (b:gJ (x.rs.getD g Rw.zero).l.length (λc=>eZ x.ay g ((x.rs.getD g Rw.zero).l.getD c Sp.zero))):rowOk x.ay g=true:=by rw [Nb a,decide_eq_true h,b.all];rfl
theorem CU (a:g<abo x.rs) (h:rowOk x.ay g=true):((x.rs.getD g Rw.zero).l.length:Int)=x.au/\∀c,c<(x.rs.getD g Rw.zero).l.length->eZ x.ay g ((x.rs.getD g Rw.zero).l.getD c Sp.zero)=true:=by grind [vV,Nb]
variable {z:Sp}
def znl (h:cB z.v z.r (x.gs.getD g Gr.zero).weight=false):eZ x.ay g z=false:=by unfold eZ;rw [show cB z.v z.r (x.ay.gs.getD g Gr.zero).weight=false from h];rfl
def znm (a:g=0) (h:¬(z.v=0/\z.r=0)):eZ x.ay g z=false:=by unfold eZ;rw [decide_eq_false h,a];simp
def zjk (h:cB z.v z.r (x.gs.getD g Gr.zero).weight=true) (a:g≠0):eZ x.ay g z=true:=by unfold eZ;rw [show cB z.v z.r (x.ay.gs.getD g Gr.zero).weight=true from h];simp [a]
def zjl (h:cB z.v z.r (x.gs.getD g Gr.zero).weight=true) (a:g=0) (b:z.v=0):((z.r:Int) !=(0:Int))= !eZ x.ay g z:=by
 unfold eZ
 rw [show cB z.v z.r (x.ay.gs.getD g Gr.zero).weight=true from h,a,b]
 rw [ab3,bne_iff_ne]
 simp
def Z4 (a:i=0\/(x.ts.getD (i-1) Tk.zero).id<(x.ts.getD i Tk.zero).id):jr x.ay i=eF x.ay (x.ts.getD i Tk.zero):=by
 unfold jr
 rw [show (i==0||decide ((x.ay.ts.getD (i-1) Tk.zero).id<(x.ay.ts.getD i Tk.zero).id))=true from by rw [adD,beq_iff_eq,decide_eq_true_eq];exact a]
 rfl
def zc3 (a:0<i) (h:¬(x.ts.getD (i-1) Tk.zero).id<(x.ts.getD i Tk.zero).id):jr x.ay i=false:=by
 unfold jr
 rw [show decide ((x.ay.ts.getD (i-1) Tk.zero).id<(x.ay.ts.getD i Tk.zero).id)=false from decide_eq_false h,show (i==0)=false from by rw [beq_eq_false_iff_ne];omega]
 rfl
def EO (h:jr x.ay i=true):(i=0\/(x.ts.getD (i-1) Tk.zero).id<(x.ts.getD i Tk.zero).id)/\eF x.ay (x.ts.getD i Tk.zero)=true:=by
 unfold jr at h
 rw [abG,adD,beq_iff_eq,decide_eq_true_eq] at h
 exact h
end
theorem qI {l:List Gr} (h:dO l=true) {g:Nat} (a:g<abo l):1<=(l.getD g Gr.zero).weight/\(l.getD g Gr.zero).weight<=65536:=by grind [qH,qt,mo]
def j3 (a b:Int):Int:=if a<b then -1 else if b<a then 1 else 0
theorem Z8 {a b:Int}:decide (j3 a b<0)=decide (a<b):=by grind [j3]
theorem Z9 {a b:Int}:(j3 a b==0)=decide (a=b):=by grind [j3]
def zjm {a b:Int}:(j3 a b !=0)=decide (a≠b):=by
 rw [bne,Z9,decide_not]
def fK (l:List Tk):Prop:=∀i j,i<j->j<abo l->(l.getD i Tk.zero).id<(l.getD j Tk.zero).id
theorem q6h {x:aF} (h:ShAt x):fK x.ts:=by
 have step:∀i,i+1<abo x.ts->(x.ts.getD i Tk.zero).id<(x.ts.getD (i+1) Tk.zero).id:=λi hi=>by
  have:=(EO (h.tk (i+1) hi)).1
  grind
 intro i j a
 induction j with
 |zero=>omega
 |succ j b=>
  grind
theorem RF {l:List Tk} {id:Int} (hi:i<abo l) (h:(l.getD i Tk.zero).id=id) (b:∀k,k<i->(l.getD k Tk.zero).id≠id):gN l id=some i:=by
 unfold gN
 rw [afi]
 have e:∀k (a:k<abo l),l.getD k Tk.zero=l[k]:=λk a=>by rw [abt,abr a];rfl
 grind
theorem qsv {l:List Tk} {id:Int} (a:∀k,k<abo l->(l.getD k Tk.zero).id≠id):gN l id=none:=by grind [gN,List.findIdx?_eq_none_iff,abr,acp]
theorem RG {l:List Tk} {id:Int} (h:gN l id=some i):i<abo l/\(l.getD i Tk.zero).id=id:=by grind [gN,afi,abr]
def fidx (l:List Tk) (id:Int):Int:=match gN l id with
 |some i=>(i:Int)
 |none=> -1
def Nf (w:aiM) (l:List Tk) (id:Int) (r:aiQ) (a:aiM):Prop:=(∃(i:Nat) (b:Bool),r= .returned (.tuple #[.int .i64 (i:Int),.bool b])/\i<=abo l/\(if b=true then (i:Int) else -1)=fidx l id)/\Below w.heap.size w a
def q6i {l:List Tk} {id:Int} (hs:fK l) (hi:i<abo l) (h1:∀k,k<i->(l.getD k Tk.zero).id<id) (e:∀k,i<=k->k<abo l->id<=(l.getD k Tk.zero).id) (hb:Below w.heap.size w W):Nf w l id (.returned (.tuple #[.int .i64 (i:Int),.bool (decide ((l.getD i Tk.zero).id=id))])) W:=by
 refine ⟨⟨i,_,rfl,by omega,?_⟩,hb⟩
 unfold fidx
 by_cases h:(l.getD i Tk.zero).id=id
 ·rw [decide_eq_true h,if_pos rfl,RF hi h (λk a=>by have:=h1 k a;omega)]
 ·rw [decide_eq_false h,if_neg de,qsv (λk a=>?_)]
  rcases ab6 k i with b|b
  ·have:=h1 k b;omega
  ·have f:=e i (abu _) hi
   rcases ab6 i k with d|d
   ·have:=hs i k d a;omega
   ·obtain rfl:k=i:=by omega
    exact h
theorem search_end {l:List Tk} {id:Int} (h1:∀k,k<abo l->(l.getD k Tk.zero).id<id) (hb:Below w.heap.size w W):Nf w l id (.returned (.tuple #[.int .i64 (abo l:Int),.bool false])) W:=by
 refine ⟨⟨_,_,rfl,abu _,?_⟩,hb⟩
 grind [fidx,qsv]
def qyf {x:aF} (a:x.cu.getD c 0≠0) {i:Nat} (hi:gN x.ts (x.cu.getD c 0)=some i):fu x.ay c=((x.ts.getD i Tk.zero).ready&&decide ((x.ts.getD i Tk.zero).cpu=c)):=by
 unfold fu
 rw [show gN x.ay.ts (x.ay.cu.getD c 0)=some i from hi,show decide (x.ay.cu.getD c 0=0)=false from decide_eq_false a]
 rfl
def qod {x:aF} (a:x.cu.getD c 0≠0) (hi:gN x.ts (x.cu.getD c 0)=none):fu x.ay c=false:=by
 unfold fu
 rw [show gN x.ay.ts (x.ay.cu.getD c 0)=none from hi,show decide (x.ay.cu.getD c 0=0)=false from decide_eq_false a]
 rfl
def q1e {x:aF} (a:x.cu.getD c 0=0):fu x.ay c=true:=by
 unfold fu
 rw [show decide (x.ay.cu.getD c 0=0)=true from decide_eq_true a]
 rfl
theorem RH (l:List Tk) (id:Int):(fidx l id= -1/\gN l id=none)\/∃i:Nat,fidx l id=i/\gN l id=some i/\i<abo l/\(l.getD i Tk.zero).id=id:=by grind [fidx,gN,RG]
def Mb.nums (m:Mb):List Nat:=[m.v,m.k,m.id]
def Mb.cells (m:Mb):Array aiN:= #[.int .u64 (m.v:Int),.int .u64 (m.k:Int),.int .u64 (m.id:Int)]
def CV (x:Mb):∀v∈x.cells.toList,v.oneCell'=true:=by simp [Mb.cells,abX]
theorem zc4 {b:Mb} {k:Nat} (hk:k<3) (d:∀i,i<k->a.nums.getD i 0=b.nums.getD i 0) (e:a.nums.getD k 0≠b.nums.getD k 0):decide (j3 (a.nums.getD k 0:Int) (b.nums.getD k 0:Int)<0)=a.lt b:=by
 rw [Z8]
 obtain ⟨f,j,l⟩:=a
 obtain ⟨n,o,p⟩:=b
 unfold Mb.lt
 rw [decide_eq_decide]
 dsimp only
 rcases k with _|_|_|k
 ·simp [Mb.nums] at e⊢;omega
 ·grind [Mb.nums]
 ·have q:=d 0 om
  grind [Mb.nums]
 ·omega
theorem zc5 {b:Mb} (d:∀i,i<3->a.nums.getD i 0=b.nums.getD i 0):a.lt b=false:=by
 obtain ⟨e,f,j⟩:=a
 obtain ⟨k,l,n⟩:=b
 have o:=d 0 om
 have p:=d 1 om
 have q:=d 2 om
 grind [Mb.lt,Mb.nums]
def wm (w:aiM) (a b:Mb) (r:aiQ) (d:aiM):Prop:=(∃c:Int,r= .returned (.int .i64 c)/\decide (c<0)=a.lt b)/\Below w.heap.size w d
def q1f (b:Mb) (l:List Mb) (m:Mb):aN b (l++[m])=if m.lt (aN b l) then m else aN b l:=by unfold aN;rw [agy];rfl
def RI {α β:Type} {f:α->Option β} {l:List α} {k:Nat} (d:α) (hk:k<abo l):(l.take (k+1)).filterMap f=(l.take k).filterMap f++(f (l.getD k d)).toList:=by
 rw [takeSnoc' d hk,List.filterMap_append]
 congr 1
where
 takeSnoc' {α:Type} {l:List α} {k:Nat} (d:α) (hk:k<abo l):l.take (k+1)=l.take k++[l.getD k d]:=by
  rw [adM,abr hk,abt,abr hk]
  rfl
def zc6 {b:Mb} {k:Nat} (hk:k<3) (d:∀i,i<k->a.nums.getD i 0=b.nums.getD i 0) (e:a.nums.getD k 0≠b.nums.getD k 0) (hb:Below w.heap.size w W):wm w a b (.returned (.int .i64 (j3 (a.nums.getD k 0:Int) (b.nums.getD k 0:Int)))) W:=⟨⟨_,rfl,zc4 hk d e⟩,hb⟩
def zc7 {b:Mb} (d:∀i,i<3->a.nums.getD i 0=b.nums.getD i 0) (hb:Below w.heap.size w W):wm w a b (.returned (.int .i64 0)) W:=⟨⟨_,rfl,by rw [zc5 d];rfl⟩,hb⟩
theorem qvs {h:Nat} (h1:g+1<=h) (a:h<n):((aco n).drop (g+1)).getD (h- (g+1)) 0=h/\h- (g+1)<abo ((aco n).drop (g+1)):=by grind
theorem zc8 {β:Type} {f:Nat->Option β} {h:Nat} (h1:g+1<=h) (a:h<n):(((aco n).drop (g+1)).take (h+1- (g+1))).filterMap f=(((aco n).drop (g+1)).take (h- (g+1))).filterMap f++(f h).toList:=by
 obtain ⟨e,b⟩:=qvs h1 a
 have:=RI (f:=f) 0 b
 grind
def zjn {β:Type} {f:Nat->Option β} {n g:Nat}:(((aco n).drop (g+1)).take (n- (g+1))).filterMap f=((aco n).drop (g+1)).filterMap f:=by rw [abL (by simp)]
section
variable {x:aF} {g c h:Nat} {m:Nat->List Mb}
def q6j (a:(x.gs.getD h Gr.zero).parent≠g):lH x.ay c m g h=none:=if_neg (λb=>a b.1)
def q6k (hm:m h=[]):lH x.ay c m g h=none:=if_neg (λa=>a.2 hm)
def zc9 (hr:h<abo x.rs) (a:(x.gs.getD h Gr.zero).parent=g) (hm:m h≠[]):lH x.ay c m g h=some ⟨((x.rs.getD h Rw.zero).l.getD c Sp.zero).v,1,h⟩:=by
 unfold lH
 rw [if_pos ⟨a,hm⟩]
 unfold bH.spot
 rw [kC hr]
def HV (a:nQ x.ay=false):lu x.ay=false:=by unfold lu;rw [a];rfl
def HY (hc:c<abo x.cu) (h:fu x.ay c=false):lu x.ay=false:=by unfold lu;rw [AJ (n:=abo x.ay.cu) hc (by rw [h];rfl),adx]
def HZ (hc:c<abo x.cu) (a:g<abo x.rs) (h:kR x.ay g c=false):lu x.ay=false:=by
 unfold lu
 rw [AJ (n:=abo x.ay.cu) hc (by rw [AJ (n:=abo x.ay.sp) (p:=λg=>kR x.ay g c) (i:=g) (by rwa [lJ]) h,adx]),adx]
def H6 (a:nQ x.ay=true) (b:gJ (abo x.cu) λc=>fu x.ay c&&iH (abo x.rs) λg=>kR x.ay g c):lu x.ay=true:=by
 unfold lu
 rw [a,lJ,show iH (abo x.ay.cu) _=true from b.all]
 rfl
def zjo (h:aU x.ay g c=[]):kR x.ay g c=true:=decide_eq_true (.inl h)
theorem znn (h:aU x.ay g c≠[]):kR x.ay g c=decide ((aN bO (aU x.ay g c)).v<=(x.ay.spot g c).floor):=by grind [kR]
theorem RJ (hr:g<abo x.rs):x.ay.spot g c=(x.rs.getD g Rw.zero).l.getD c Sp.zero:=by unfold bH.spot;rw [kC hr]
end
section
variable {P:aiO} {S:aiM->Prop} {σ:List (Nat×aiN)} {o:aiS}
end
section
variable {P:aiO} {Q:aiV->Act->aiM->Prop} {W:aiM} {a:Act} {w:aiM} {n d:Nat} {D:List aiU} {σ:List (Nat×aiN)} {fs:List aiX} {o:aiS} {K:Act->aiM->Prop}
end
def zjq {l:List Gr} (h:∀i,0<i->i<=g->fq l i):jh l g<=g:=by
 induction g using afb with
 | _ g b =>
  rcases ach g with a|a
  ·subst a;exact abu _
  ·have c:=h g a (abu _)
   unfold fq at c
   have:=b (l.getD g Gr.zero).parent.toNat om (λi d e=>h i d om)
   rw [Ru h a]
   omega
def qsx (x:Int) (w:aiM):Calls abp 301 #[vI x] w (Is w (.bool (decide (1<=x/\x<=65536)))):=by
 refine (fE Tryz.func301 9) ?_
 refine (aM 1∘bg 3) (Ji (λa=>?_) λa=>?_)
 ·
  exact (Jp 4∘aJ∘aP∘aW) λb=>AL om b.below
 exact (Jp 4∘aJ∘aP∘aW) λb=>eG om b.below
def qkk (x:Int) (w:aiM):Calls abp 267 #[vI x] w (Is w (.bool (decide (1<=x/\x<=65536)))):=by
 refine (fE Tryz.func267 9) ?_
 refine (aM 1∘bg 3) (Ji (λa=>?_) λa=>?_)
 ·
  exact (Jp 4∘aJ∘aP∘aW) λb=>AL om b.below
 exact (Jp 4∘aJ∘aP∘aW) λb=>eG om b.below
def Nh (x:Int) (w:aiM):Calls abp 198 #[vI x] w (Is w (.bool (decide (1<=x/\x<=65536)))):=by
 refine (fE Tryz.func198 9) ?_
 refine (aM 1∘bg 3) (Ji (λa=>?_) λa=>?_)
 ·
  exact (Jp 4∘aJ∘aP∘aW) λb=>AL om b.below
 exact (Jp 4∘aJ∘aP∘aW) λb=>eG om b.below
abbrev ahU:=λa b=>(.blk a #[vI b] 3:aiX)
abbrev ahZ:=λa=>((0,.func (.yield a) #[] #[]):(Nat×aiN))
def zjr (W w:aiM) (d e h:Nat) (A:aiW) (c:Nat) (l:List Gr) (g:Nat) (Inv:Nat->List aiX->Prop) (o:List aiX) (hr:Rd W W.heap.size 2 A (abo l) (l.flatMap fQ)) (M:abo l<=1000000) (N:g<abo l) (B:∀i,0<i->i<=g->fq l i)
    (hy:ZW abp W h (jh l g+1) Inv) (p:Inv 0 o) (b:Mem W w (.blk d #[vI g] 3:: .blk e #[abl A l c] 42::o)):
    Calls abp 320 (.func (.yield h) #[] #[]:: [vP d 0,vP e 0]).toArray w (ZV W (Inv (jh l g+1))):=by
 refine nP Tryz.func320 [.func (.yield h) #[] #[],vP d 0,vP e 0] [ahZ h,(1,vP d 0),(2,vP e 0)] λa Z=>?_
 refine Jb Z b ((JB) λa Z b=>?_)
 refine qg (λC E G=>∃(x:Nat) (i:Nat) (F:List aiX),(Inv i F)/\(x<=g)/\(jh l x+i=jh l g)/\C=0+x/\Fr E 16 [] [ahZ h,(1,vP d 0),(2,vP e 0)]/\Mem W G (ahU d x::.blk e #[abl A l c] 42::F)) (m:=0+g) ⟨g,0,o,p,abu _,acK _,rfl,Z.sub kr,b.pt 2 [0,1]⟩ ?_
 clear Z b;rintro C a O ⟨x,i,F,H,q,P,rfl,Z,b⟩
 refine Jb Z b ((JQ) λa Z b=>?_)
 refine wp_seq ?_
 refine F7 (i:=2) ?_
 refine Jb Z b ((Jp 1∘Jc O0∘Jq) λa Z b=>?_)
 refine uJ Z (i:=2) (vs:=[vI x]) rfl rfl rfl rfl rfl rfl de (hy i F [ahU d x,.blk e #[abl A l c] 42] _ (x:Int) H om (aag (es:=F) b)) zp ?_
 clear Z b;rintro v r a ⟨s,b,t,f⟩ Z;injection t with t;subst t
 replace b:Mem W r (ahU d x::.blk e #[abl A l c] 42::s):=aag (es:=[ahU d x,.blk e #[abl A l c] 42]) b
 refine Jb Z b ((Jp 1∘Jc O0∘Jp 2∘aJ∘Jq) (Ji (λj=>?_) λj=>?_))
 ·
  have k:0<x:=by omega
  obtain ⟨I,J⟩:=B x k q
  obtain ⟨y,n⟩:∃y:Nat,(l.getD x Gr.zero).parent=(y:Int):=⟨(l.getD x Gr.zero).parent.toNat,by omega⟩
  have u:=Ru (l:=l) (g:=x) (λi K hi=>B i K om) k
  rw [n,abH] at u
  refine (JT∘Eu∘JB∘JR∘Jc O1∘Jc O0) ?_
  obtain ⟨gA,Q,rfl,_⟩:=hr.sat x
  refine (iC x 2∘Jf 0∘Et pR hr x Gr.zero∘Jo (vI y) (by rw [n])∘JW aO aO) λD=>(qC∘Jq) λa Z b=>?_
  exact ⟨_,om,y,i+1,s,f,by omega,by omega,rfl,Z.sub kr,b.pt 2 [0,1]⟩
 obtain rfl:x=0:=by omega
 have L:=q56 l
 refine (JF∘JX) ?_
 have z:i+1=jh l g+1:=by omega
 rw [z] at f
 intro a Z b
 exact iB rfl Z ⟨_,rfl,s,aan [.blk d #[vI 0] 3,.blk e #[abl A l c] 42] b,f⟩
def zno (A:aiW) (n c:Nat) (g:Int) (w:aiM):
    Calls abp 314 #[.slice A n c,vI g] w λr d=>∃a b,r= .returned (.func (.func 320) #[] #[vP a 0,vP b 0])/\Mem w d [ahU a g,.blk b #[.slice A n c] 42]:=by
 refine (iP Tryz.func314 6) ?_
 exact (JP∘tV) λj e=>(tV) λk f=>(Jp 1∘Jr∘Jy (h:=by exact Yl.makeFunc (fst:=[]) (caps:=[vP f 0,vP e 0]) rfl rfl rfl)∘Jp 1∘aL∘aP∘aW) λi=>by exact ⟨_,_,rfl,i.pk [0,1]⟩
abbrev ahN:=λa=>(.obj a (.deferred (some [])):aiX)
def q6n (A:aiW) (c:Nat) (l:List Gr) (g:Nat) (w:aiM) (hr:Rd w w.heap.size 2 A (abo l) (l.flatMap fQ)) (q:abo l<=1000000) (s:g<abo l) (n:∀i,0<i->i<=g->fq l i):
    Calls abp 302 #[abl A l c,vI g] w (Is w (vI (jh l g:Int))):=by
 have j:=zjq n
 refine Cc (vs:=[abl A l c,vI g]) Tryz.func302 rfl rfl kr (σ0:=[(0,abl A l c),(1,vI g)]) rfl ?_
 intro a Z
 have b:=Mem.start w
 refine Jb Z b ((aM 1∘Jr∘JA #[vI 0]) λt e=>(JW aO aO) λo=>(Jj∘bN 2∘JL (h:=by exact λb=>zno A (abo l) c (g:Int) _)) ?_)
 rintro b _ E ⟨u,y,rfl,hm⟩
 refine ⟨_,rfl,_,b.join hm,?_⟩
 refine (bU∘Jj∘JB) λa Z b=>?_
 refine Cb Z b (λF=>F=[ahU e (((jh l g+1):Int)-1)]) (λ_ _=>False) rfl kr ?_ ?_ (λ_ _ _ _ _ h=>h.elim)
 ·
  clear Z b;intro f B d z k b
  have C:ZW abp w f (jh l g+1) (λi F=>F=(.obj f (.loop (d .ready none)):: .obj B (.deferred (some [])):: [ahU e ((i:Int)-1)])):=by
   rintro i F fr G x rfl hi b
   replace b:Mem w _ (ahT f (d .ready none)::ahN B::ahU e ((i:Int)-1)::fr):=b
   refine qst (v1:=vI x) k b de λa Z=>?_
   refine wpIn_skip ?_
   refine ⟨(ahN B::ahU e ((i:Int)-1)::fr),b.pt (fs':=(ahT f (d .ready none)::ahN B::ahU e ((i:Int)-1)::fr)) 3 [0,1,2],λH b=>?_⟩
   refine wpIn_block ?_
   refine qk ?_
   refine Jb Z b ((Jc O2∘Jp 1∘Jo (vI (((i+1:Nat):Int)-1)) (by have D:=j;exact (nD ⟨by omega,by omega⟩).trans (congrArg (abT .i64) om))∘JW iG aO) λp=>(oo∘Jq) λa Z b=>?_)
   refine ⟨(ahN B::ahU e (((i+1:Nat):Int)-1)::fr),b.pt (fs':=(ahT f (d .busy none)::ahN B::ahU e (((i+1:Nat):Int)-1)::fr)) 3 [0,1,2],λt b=>?_⟩
   exact ⟨(ahT f (d .ready none)::ahN B::ahU e (((i+1:Nat):Int)-1)::[]),b,rfl,rfl⟩
  refine (zjr w z u y f A c l g _ _ hr q s n C rfl (b.pk [2,3,0,1,4])).mono ?_
  rintro r I ⟨v,rfl,J,m,rfl⟩
  exact ⟨v,rfl,.inl ⟨_,rfl,m⟩⟩
 clear Z b;rintro B a K _ rfl Z b
 refine Jb Z b ((JG∘JP∘Jc O1∘Jp 1∘aL∘aP) λa Z b=>?_)
 refine xS Z b (i:=0) rfl λa L Z b=>?_
 exact lV rfl Z rfl (⟨by congr 2;omega,b.below⟩)
def q1g (A:aiW) (c:Nat) (l:List Gr) (t:∀x∈l,x.Ok) (w:aiM) (hr:Rd w w.heap.size 2 A (abo l) (l.flatMap fQ)) (G:abo l<=1000000):
    Calls abp 261 #[abl A l c] w (RA w l):=by
 refine (fE Tryz.func261 58) ?_
 refine (dh 2∘JQ∘JB∘aM 1∘Jl∘Jp 2∘eP∘Jj) (Ji (λu=>?_) λu=>?_)
 ·
  exact (JT∘bE 2∘bW) λb=>CS (Ry om) de b.below
 refine (JF∘aM 1∘Jl∘Jp 2) (Je (λf=>?_) λf=>?_)
 ·
  exact (Jp 7∘aJ∘Jj∘JT∘bE 2∘bW) λb=>CS (Ry om) de b.below
 obtain ⟨gA,s,rfl,_⟩:=hr.sat 0
 refine (Jp 1∘Jy (v:=vP gA s) (h:=by exact Yl.indexAddr (ad:=⟨gA,s,none⟩) (y:=0) (sz:=2) rfl rfl rfl om kr)∘qD Gr.cells pR hr kD 0 Gr.zero∘fD #[vI 0,vI 1]∘Jy (v:= .bool (!(decide ((l.getD 0 Gr.zero)=⟨0,1⟩)))) (h:=by exact aau rfl rfl rfl (ZX (l.getD 0 Gr.zero) ⟨0,1⟩))∘Jp 2∘aJ∘Jj) (Ju (λe=>?_) λe=>?_)
 ·
  have z:=of_decide_eq_false ((acL _).mp e)
  exact (JT∘bE 2∘bW) λb=>CS (Ry (λh=>by rw [h.2.2] at e;simp at e)) de b.below
 have z:=of_decide_eq_true ((aec _).mp e)
 refine (aQ∘JQ∘dh 1∘JB) λa Z b=>?_
 refine qg (λF H I=>∃(g:Nat),(1<=g)/\(g<=abo l)/\(gJ g (qH l))/\F=abo l-g/\Fr H 58 [] [(4,vI g),(9,.bool false),(5,.bool false),(3,vI 0),(2,vI 0),(0,abl (some ⟨gA,s,none⟩) l c)]/\Mem w I []) (m:=abo l-1) ⟨1,abu _,by omega,gJ.zero.succ (zc2 l),rfl,Z.sub kr,b.pk []⟩ ?_
 clear Z b;rintro F a N ⟨g,J,K,B,rfl,Z,b⟩
 refine Jb Z b ((bN 2∘Jl∘Jp 1∘eP∘Jj) (Ji (λj=>?_) λj=>?_))
 ·
  have d:g<abo l:=by omega
  have k:=t _ (qf Gr.zero d)
  have C:=k.parent
  intro a Z b
  unfold aX at C
  have D:=k.weight
  unfold aX at D
  refine Jb Z b ((eY∘JB∘aM 2∘iC g 2∘Jf 0∘Et pR hr g Gr.zero∘Jp 2) (Ji (λn=>?_) λn=>?_))
  ·
   exact (Jv 9 [(26,.bool true)]∘aJ∘Jj∘JT∘bE 3∘bW) λb=>CS (M9 d (Na om om)) de b.below
  refine (Jp 2∘iC g 2∘Jf 0∘Et pR hr g Gr.zero∘Jp 4∘aJ∘Jj) (Ji (λo=>?_) λo=>?_)
  ·
   exact (JT∘bE 3∘bW) λb=>CS (M9 d (Na om om)) de b.below
  have E:=q6a B ⟨by omega,by omega⟩
  refine (JF∘aM 2∘iC g 2∘Jf 1∘Qf pR hr 1 g Gr.zero∘JL (h:=by exact λb=>qsx ((l.getD g Gr.zero).weight) _)) ?_
  rintro b _ L ⟨rfl,p⟩
  refine ⟨_,rfl,_,b.call p,?_⟩
  refine (Jp 2∘aJ∘Jj) (nH (λq=>?_) λq=>?_)
  ·
   exact (JT∘bE 3∘bW) λb=>CS (M9 d (Na om om)) de b.below
  refine (JF∘aM 2∘JI (h:=by exact λb=>q6n (some ⟨gA,s,none⟩) c l g _ (b.old hr) G om E)) λM p=>(Jp 2∘fJ∘Jj) (Ji (λr=>?_) λr=>?_)
  ·
   exact (JT∘bE 3∘bW) λb=>CS (M9 d (Na om om)) de b.below
  refine (aQ∘JR∘Jp 1∘dA 1∘Jp 1∘bU∘Jq) λa Z b=>?_
  exact ⟨_,om,g+1,by omega,by omega,B.succ (zjf ⟨by omega,by omega,by omega,by omega⟩),rfl,Z.sub kr,b.pk []⟩
 exact (JF∘JX∘JG∘bE 2∘bW) λb=>by exact qvp (zc1 ⟨by omega,by omega,by simpa using e⟩ (λi hi=>B i om)) b.below
def q1h (A:aiW) (c:Nat) (l:List Gr) (b:∀x∈l,x.Ok) (w:aiM) (hr:Rd w w.heap.size 2 A (abo l) (l.flatMap fQ)) (f:abo l<=1000000):
    Calls abp 191 #[abl A l c] w (Is w (.bool (dO l))):=by
 refine (fE Tryz.func191 12) ?_
 refine (aM 1∘bg 1∘JL (h:=by exact λa=>q1g A c l b _ (a.old hr) f)) ?_
 rintro a _ j ⟨⟨i,e,rfl,g⟩,d⟩
 refine ⟨_,rfl,_,a.call d,?_⟩
 exact (Jp 1∘Jx∘Jx∘Jp 2∘aJ∘bg 3∘eP∘aP∘aW) λa=>dw g a.below
def RN (v r:Nat) (b:Int) (g:v<18446744073709551616) (hr:r<4294967296) (i:0<=b/\b<4294967296) (w:aiM):
    Calls abp 218 #[.agg #[vQ v,vW r,vW b]] w (Is w (.bool (cB v r b))):=by
 obtain ⟨z,rfl⟩:∃z:Nat,b=(z:Int):=⟨b.toNat,by omega⟩
 refine (fE Tryz.func218 24) ?_
 refine (JP∘JE) λj g1=>(Jp 1∘Jr∘Jg 2 O0∘Jw .i64∘JL (h:=by exact λa=>qkk (z:Int) _)) ?_
 rintro a _ k ⟨rfl,e⟩
 refine ⟨_,rfl,_,a.call e,?_⟩
 refine (Jp 1) (Ji (λf=>?_) λf=>?_)
 ·
  refine (Jg 1 O0∘Jg 2 O0∘Jp 3) (Ji (λc=>?_) λc=>?_)
  ·
   refine (Jg 0 O0∘Jp 2) (Ji (λd=>?_) λd=>?_)
   ·
    exact (Jp 6∘aJ∘aP∘aW) λa=>EM om a.below
   exact (Jg 1 O0∘Jp 4∘aJ∘aP∘aW) λa=>AL om a.below
  exact (Jv 10 [(2,.bool false)]∘aJ∘aP∘aW) λa=>eG om a.below
 exact (Jv 17 [(2,.bool false)]∘fJ∘aP∘aW) λa=>eG om a.below
def zg (v r:Nat) (b:Int) (e:0<=b/\b<4294967296) (w:aiM):
    Calls abp 208 #[vQ v,vW r,vI b] w (Is w (.agg #[vQ v,vW r,vW b])):=by
 obtain ⟨z,rfl⟩:∃z:Nat,b=(z:Int):=⟨b.toNat,by omega⟩
 refine (uL Tryz.func208 12) ?_
 refine (JP∘JA #[vQ 0,vW 0,vW 0]) λf g=>(bg 3∘Jv 1 [(10,vW (IntKind.u32.wrap (z:Int)))]∘Jo (vW z) (by exact BX rfl om)∘fD #[vQ v,vW r,vW z]∘JV qp aO) λc=>(qC∘aP) λa Z d=>?_
 exact iV rfl Z (.cellS (i:=0) Z d rfl rfl qp rfl) (⟨rfl,d.below⟩)
def qyg (m n:Nat) (hm:m<18446744073709551616) (a:1<=n/\n<=64) (w:aiM):
    Calls abp 199 #[vQ m,vI n] w (Is w (.bool (decide (2^n<=m)))):=by
 refine (iP Tryz.func199 11) ?_
 exact (aM 1∘bg 2∘Al 1∘Jy (v:=vQ (m/2^ (n-1):Nat)) (h:=by exact aat (m:=m) (n:=(n-1)) rfl rfl rfl (by show _<=64;omega))∘Jp 1∘Jo (vQ ((m/2^ (n-1))/2:Nat)) (by exact uI .u64 (m/2^ (n-1)) (j:=1) (q:=2) rfl rfl)∘Jp 2∘aJ∘aP∘aW) λb=>dw (zjg a.1) b.below
abbrev aie:(Nat×aiN):=(4,.bool false)
def qik (x : aF) (t : Tk) (c : t.Ok) (I : 1 <= x.au /\ x.au <= 64) (J : abo x.rs <= 1000000) (w : aiM) :
    Calls abp 219 #[.agg x.cells,.agg t.cells] w (Is w (.bool (eF x.ay t))):=by
 obtain ⟨n,y⟩:∃n:Nat,x.au=(n:Int):=⟨x.au.toNat,by omega⟩
 have f:1<=n/\n<=64:=by omega
 have K:=c.v
 have L:=c.r
 have hi:=c.id
 have B:=c.group
 have hc:=c.cpu
 have C:=c.weight
 have hm:=c.mask
 unfold aX at hi B hc C
 refine (iP Tryz.func219 72) ?_
 refine (JP∘JE) λM N=>(JE) λO P=>(Jp 1∘Jr∘Jg 0 O0∘Jp 2) (Ji (λz=>?_) λz=>?_)
 ·
  refine (Jg 0 O0∘Jp 3) (Ji (λg=>?_) λg=>?_)
  ·
   refine (Jg 1 O0∘Jp 3) (Ji (λi=>?_) λi=>?_)
   ·
    refine (Jg 1 O0∘Jg 6 O1∘Jl∘Jp 3) (Ji (λl=>?_) λl=>?_)
    ·
     refine (Jg 3 O0∘Jp 3) (Ji (λo=>?_) λo=>?_)
     ·
      refine (Jg 3 O0∘Jf 0∘Jg 0 O1∘Jp 3) (Ji (λp=>?_) λp=>?_)
      ·
       obtain ⟨k,A⟩:∃k:Nat,t.cpu=(k:Int):=⟨t.cpu.toNat,by omega⟩
       refine (Jg 2 O0∘JL (h:=by exact λb=>Nh t.weight _)) ?_
       rintro b _ D ⟨rfl,e⟩
       refine ⟨_,rfl,_,b.call e,?_⟩
       refine (Jp 2) (Ji (λq=>?_) λq=>?_)
       ·
        refine (Jg 4 O0∘Jf 0∘Jf 0∘Jc O1∘Jo (vI n) (by rw [y])∘JI (h:=by exact λb=>qyg t.mask n c.mask f _)) λE e=>(Jp 3) (Ju (λd=>?_) λd=>?_)
        ·
         have s:=of_decide_eq_false ((acL _).mp d)
         have F:=afa t.mask (2^k)
         refine (Jg 4 O0∘Jf 3∘Jc O0∘Jo (vI k) (by rw [A])∘Jy (v:=vQ (t.mask/2^k:Nat)) (h:=by exact aat (m:=t.mask) (n:=k) rfl rfl rfl (by show _<=64;omega))∘Jp 1∘Jo (vQ ((t.mask/2^k)%2:Nat)) (by exact Mh (n:=1) (j:=1) rfl de om)∘Jp 3) (Je (λu=>?_) λu=>?_)
         ·
          refine (Jg 6 O0∘Jg 7 O0∘Jg 2 O0∘JI (h:=by exact λb=>zg t.v t.r t.weight om _)) λG e=>(JI (h:=by exact λb=>RN t.v t.r t.weight om om om _)) λH e=>(Jp 2∘aJ∘Jq) λa Z b=>?_
          replace Z:=Z.to [(4,.bool (cB t.v t.r t.weight))]
          exact Jb Z b ((JG∘JZ∘aW) λb=>dw (zni om om (by rw [y,abH];simpa using d) (by rw [A,abH];omega)).symm b.below)
         refine (Jv 10 [aie]∘aJ∘Jq) λa Z b=>?_
         replace Z:=Z.to [aie]
         exact Jb Z b ((JG∘JZ∘aW) λb=>dw (znh (by rw [A,abH];omega)).symm b.below)
        have s:=of_decide_eq_true ((aec _).mp d)
        exact (Jv 19 [aie]∘aJ∘aP∘aW) λb=>dw (zng (by rw [y,abH];simpa using d)).symm b.below
       exact (Jv 28 [aie]∘aJ∘aP∘aW) λb=>dw (znf om).symm b.below
      exact (Jv 33 [aie]∘aJ∘aP∘aW) λb=>dw (EN om).symm b.below
     exact (Jv 41 [aie]∘aJ∘aP∘aW) λb=>dw (EN om).symm b.below
    exact (Jv 46 [aie]∘aJ∘aP∘aW) λb=>dw (EN om).symm b.below
   exact (Jv 54 [aie]∘aJ∘aP∘aW) λb=>dw (EN om).symm b.below
  exact (Jv 59 [aie]∘aJ∘aP∘aW) λb=>dw (EN om).symm b.below
 exact (Jv 64 [aie]∘eP∘aP∘aW) λb=>dw (EN om).symm b.below
def qfy (x:aF) (b:x.ay.Ok) (i:cK x) (w:aiM) (j:fA w x):
    Calls abp 146 #[.agg #[vI x.au,vQ (x.aj:Int),abl x.gA x.gs x.gc]] w (Is w (.bool (gK x.ay))):=by
 have hc:=b.au
 have c:=b.aj
 replace hc:aX x.au:=hc
 replace c:x.aj<18446744073709551616:=c
 unfold aX at hc
 refine (fE Tryz.func146 21) ?_
 refine (JP∘JE) λm g1=>(Jp 1∘Jr∘Jg 0 O0∘Jp 2) (Ji (λf=>?_) λf=>?_)
 ·
  refine (Jg 0 O0∘Jp 3) (Ji (λd=>?_) λd=>?_)
  ·
   refine (Jg 1 O0∘Jp 3) (Ji (λe=>?_) λe=>?_)
   ·
    exact (Jg 2 O0∘JI (h:=by exact λa=>q1h x.gA x.gc x.gs b.gs _ (a.old j.g) i.g)) λk l=>(Jp 2∘aJ∘aP∘aW) λa=>dw (zjh om).symm a.below
   exact (Jp 5∘aJ∘aP∘aW) λa=>dw (Rz om).symm a.below
  exact (Jv 10 [(2,.bool false)]∘aJ∘aP∘aW) λa=>dw (Rz om).symm a.below
 exact (Jv 15 [(2,.bool false)]∘eP∘aP∘aW) λa=>dw (Rz om).symm a.below
def q6o (t:Int) (w:aiM):Calls abp 217 #[vI t] w (Is w (.bool (!iQ t))):=by
 refine (fE Tryz.func217 9) ?_
 refine (aM 1∘bg 3) (Ji (λa=>?_) λa=>?_)
 ·
  exact (Jp 4∘aJ∘aP∘aW) λb=>dw (by first|(unfold iQ;rw [decide_eq_false om];rfl)|(unfold iQ;rw [<-decide_not];exact decide_eq_decide.2 om)) b.below
 exact (Jp 4∘aJ∘aP∘aW) λb=>dw (by first|(unfold iQ;rw [decide_eq_false om];rfl)|(unfold iQ;rw [<-decide_not];exact decide_eq_decide.2 om)) b.below
abbrev ahY:=λa b c d e=>((a,vI b)::(c,vI d)::e:List (Nat×aiN))
def qvx (A:aiW) (c:Nat) (l:List Int) (w:aiM) (hr:Rd w w.heap.size 1 A (abo l) (l.map aZ)) (s:abo l<=1000000):
    Calls abp 270 #[abl A l c,.func (.func 217) #[] #[]] w (vY w (abo l) (λc=>iQ (l.getD c 0))):=by
 refine (iP Tryz.func270 19) ?_
 refine (dh 1∘bN 1∘Jl∘bM 1∘JB) λa Z b=>?_
 refine qg (λn p q=>∃(k:Nat),(k<=abo l)/\(gJ k (λc=>iQ (l.getD c 0)))/\n=abo l-k/\Fr p 19 [] (ahY 8 k 7 (abo l) [(4,vI 0),(0,abl A l c),(1,.func (.func 217) #[] #[])])/\Mem w q []) (m:=abo l-0) ⟨0,abz _,gJ.zero,rfl,Z.sub kr,b.pk []⟩ ?_
 clear Z b;rintro n a t ⟨k,u,o,rfl,Z,b⟩
 refine Jb Z b ((dh 1∘JQ) (Ji (λe=>?_) λe=>?_))
 ·
  have g:k<abo l:=by omega
  refine (eY∘aM 2∘aL∘bg 3) ?_
  obtain ⟨gA,v,rfl,_⟩:=hr.sat k
  refine (iC k 1∘Jy (h:=by exact aad hr k 0 om rfl rfl)) λa Z b=>?_
  refine fo Z 5 rfl rfl ?_
  refine zh Z (f:=217) (vs:=[vI (l.getD k 0)]) (fst:=[]) (caps:=[]) rfl rfl rfl kr rfl de (q6o (l.getD k 0) _) ?_
  rintro _ r ⟨rfl,j⟩
  refine ⟨_,rfl,?_⟩
  replace b:=b.call j
  clear Z;intro a Z
  refine Jb Z b ((lq∘Jj) (Ju (λd=>?_) λd=>?_))
  ·
   exact (JT∘aM 2∘aL∘aP∘aW) λb=>q1c g (by simpa using d) b.below
  refine (aQ∘JR∘dA 1∘Jp 1∘aL∘Jq) λa Z b=>?_
  exact ⟨_,om,k+1,by omega,o.succ (by simpa using d),rfl,Z.sub kr,b.pk []⟩
 exact (JF∘JX∘JG∘bE 1∘aW) λb=>q1d (λi hi=>o i om) b.below
def qnj (A:aiW) (c:Nat) (l:List Int) (w:aiM) (hr:Rd w w.heap.size 1 A (abo l) (l.map aZ)) (d:abo l<=1000000):
    Calls abp 216 #[abl A l c,.func (.func 217) #[] #[]] w (Is w (.bool (!iH (abo l) (λc=>iQ (l.getD c 0))))):=by
 refine (iP Tryz.func216 9) ?_
 refine (aM 1∘bg 2∘JL (h:=by exact λa=>qvx A c l _ (a.old hr) d)) ?_
 rintro a _ f ⟨⟨i,rfl,e⟩,b⟩
 refine ⟨_,rfl,_,a.call b,?_⟩
 exact (Jp 2∘fJ∘aP∘aW) λa=>dw e a.below
end Go.Proofs.YtekiimhdnigmcaaGreatDoor
