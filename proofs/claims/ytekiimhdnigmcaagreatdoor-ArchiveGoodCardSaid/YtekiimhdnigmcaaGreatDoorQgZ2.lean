/- Parts. -/
import Derived.Deep.DeepAppendWide
import Derived.Deep.Upon
import Derived.MapKept
import Derived.IntWalk
import Derived.Maps.RangeRun
import Derived.RangeFuncLeaves
import Derived.Recover
import Derived.Lib.AppendZeros
import Derived.ChangeKeysEq
import Derived.Laws.StructEq
import Derived.Laws.Slices
import Derived.Laws.IdiomCopy
import Derived.Lib.Overlaps
import Derived.Deep.AppendSrc
import Derived.Test.YtekiimhdnigmcaaGreatDoorQgZ1
set_option linter.all false
set_option maxRecDepth 100000
set_option maxHeartbeats 1000000
namespace Go.Proofs.YtekiimhdnigmcaaGreatDoor
open Go.RowKit
open Go renaming World→ajg,Value→ajh,Program→aji,TypeId→ajj,Ending→ajk,Operand→ajl,Oper→ajm,IntKind→ajn,Deferred→ajo,Exit→ajp
open List renaming length→abr
open _root_.Go.Proofs.Tryz renaming prog→abt
open _root_.List renaming length_append→abu,getElem?_eq_getElem→abv,getD_eq_getElem?_getD→abw,append_assoc→aby,length_map→abz,length_take→abA,length_drop→abE,getElem?_eq_some_iff→abF,replicate→abG,mem_of_getElem?→abK,length_set→abL,take_of_length_le→abM,append_nil→abN,flatMap_cons→abO,mem_of_mem_drop→abQ,map_append→abW,take_append_drop→ab1,mem_cons_of_mem→ab5,mem_map→ab7,all_eq_true→ace,mem_append→acg,mem_cons_self→aci,getElem_of_mem→acn,drop_of_length_le→acu,drop_eq_getElem_cons→acv,range→acw,eq_nil_of_length_eq_zero→acz,map_cons→acE,pairwise_iff_getElem→acF,perm_append_comm→acG,drop_drop→acH,getElem?_map→acQ,lookup_cons→acV,nil_append→acX,map_toArray→ac8,size_toArray→adj,getElem?_set_self→adk,take_add_one→adx,getElem?_take→adE,map_nil→adF,take_left→adP,getElem?_cons_succ→ad1,set_getElem_self→ad4,setIfInBounds_toArray→aen,set_cons_zero→aeS,getElem?_toArray→aeT,length_singleton→ae4,findIdx?_eq_some_iff_getElem→afl,take_append→afD,drop_append→afE,mem_filterMap→afJ,set_cons_succ→afK,drop_left→afP,foldl_append→afS,toArray_replicate→agm,mem_iff_getElem?→agt,pairwise_append→agy,ext_getElem?→agP,count_cons→ag8,map_take→ahr,map_drop→aht
open Nat renaming le_refl→abx,zero_le→abC,lt_or_ge→ab0,zero_add→ab9,eq_zero_or_pos→ach,mul_le_mul_right→acC,add_sub_cancel_left→acM,add_zero→acN,mul_one→ac5,min_eq_left→ac9,le_trans→adg,le_add_right→adC,mod_lt→adJ,succ_mul→adK,sub_self→ad5,add_mul→aez,sub_zero→ae3,add_comm→ae5,div_le_self→ae7,strongRecOn→ae8,add_assoc→afb,or_lt_two_pow→afx,xor_lt_two_pow→afT,zero_mul→agr,min→agA,lt_of_le_of_lt→agL,two_pow_pos→ahi,mul_ne_zero→ahk,one_mul→ahu
open Result renaming andThen_ok→abD
open Bool renaming and_eq_true→abH,eq_iff_iff→ab3,not_eq_true'→acP,false_and→adz,and_false→adA,or_eq_true→adD,not_eq_false'→aem,false_or→ahs
open Int renaming toNat_natCast→abI
open Sem renaming run_bind→abJ,run_pure→abR,run→afy
open Value renaming int→abT,oneCell'→abV
open BitVec renaming ofInt→abY
open Builtin renaming zeroCells→ab2,append_→adf,lenOf→afY,nextslicecap→agd,clear_→agS,copy_→agX
open Fence renaming wide→acf
open Oper renaming upon_value→acy,wp→acW,upon_skip→aeU,upon_enter→afQ,upon→af9,semAt_none→ag7
open Go renaming IntKind→acB
open _root_.Array renaming length_toList→acD,toArray_toList→acR,getD_eq_getD_getElem?→acU,getElem?_eq_some_iff→ac0,toList_map→adq,map→adB,getElem?_append→ad2,getElem_toList→aeg,getElem?_modify→aeX,size_append→aff,getElem?_eq_getElem→afX,toList_append→agx,range→ahy
open Region renaming ready→acJ,wanted→ac4,Mode→aec
open Addr renaming add_mid→acL
open Op renaming equalIn→acZ,equal→adl
open Code renaming wp→ac7,region→aek,cond→aga,wp_mono→ahz
open Option renaming bind_eq_some_iff→ado,map_eq_some_iff→adv,map_some→aeI,map_none→aeJ
open Go.IntKind renaming wrap→adr
open Instr renaming sliceAt→adH,buildSlice→adN,build→aev,sureAddr→aex,typeAssert→aeM,fill→ae2,lookup→afg,sliceBounds→afG,sliceBound→afR,storeAt→af5,slice→agM,mapUpdate→agV,enterLoop→agW,findNow→ahh
open Deferred renaming ofValue→adI
open Extern.SlicesOverlaps renaming overlaps→ad6
open Below renaming refl→aeb
open World renaming alloc_heap_new→aef,cell?→aep,frozen?→afZ,freeze→agb,shape?→agc
open MapKept renaming run_getObj_map→aeD
open Pure renaming pure→aeG
open _root_.Go.ByteArray renaming toList_eq→af7
open IntWalk renaming i64_in→agR
open Act renaming eval→ahq
open Min renaming min→ahF
open List.Sublist renaming refl→ahL
variable {e:ajp->Act->ajg->Prop} {C ys tmps:Array ajh} {t tb u:ajj} {g m N c i B n sz:Nat} {f:FuncId} {xs vs caps:List ajh} {R:ajk->ajg->Prop} {r1:ResultVar} {v2 z:ajh} {x y s:ajl} {w W w':ajg} {fs F:List ajr} {k:ajn} {A:ajq} {l:List Nat} {P:aji} {o:ajm} {ps:Array (Nat×ajl)} {a:Mb}
section
variable {P:aji} {Q:ajp->Act->ajg->Prop} {a:Act} {W w:ajg} {n d:Nat} {D:List ajo} {σ:List (Nat×ajh)} {o:ajm} {v:ajh} {K:Act->ajg->Prop} {fs:List ajr}
def yx (P:aji) (e:ajj):Option (Array ajh):=((P.info? e).bind (·.zero)).map Value.cells
def XL {b:ajh} {e:ajj} (hr:(execOp a.eval o).run P w= .ok (.value (.pointer (some ⟨w.heap.size,0,none⟩))) (w.alloc (.cells C e))) (Z:Fr a n D σ) (i:Mem W w fs) (j:o.dst=some d) (c:d<n)
  (k:∀f h g,Fr f n D ((d,.pointer (some ⟨g,0,none⟩))::σ)->Mem W h (.blk g C e::fs)->K f h):o.wp P a w K Q:=by
 have _:=b
 unfold acW
 rw [hr,acy,j]
 exact k _ _ _ (Z.put c _) (i.alloc C e)
def Qi (Z:Fr a n D σ) (p:Mem W w fs) {e:ajj} {C:Array ajh} (c:o.op= .alloc e) (hz:yx P e=some C) (q:o.dst=some d) (f:d<n)
  (k:∀l m g,Fr l n D ((d,.pointer (some ⟨g,0,none⟩))::σ)->Mem W m (.blk g C e::fs)->K l m):o.wp P a w K Q:=by
 refine XL (b:=undef) ?_ Z p q f k
 unfold yx at hz
 obtain ⟨z,h,rfl⟩:=adv.1 hz
 obtain ⟨i,hi,j⟩:=ado.1 h
 unfold execOp
 simp [c,Instr.alloc,zeroValue,typeInfo,hi,j,newVar,newRow,newObj]
 rfl
def AO (Z:Fr a n D σ) (j:Mem W w fs) {e:ajj} {x:ajl} (c:o.op= .box e x) (l:look σ x=some v) {C:Array ajh} (hc:v.cells=C) (m:o.dst=some d) (f:d<n)
  (k:∀h i g,Fr h n D ((d,.pointer (some ⟨g,0,none⟩))::σ)->Mem W i (.blk g C e::fs)->K h i):o.wp P a w K Q:=by
 subst hc
 refine XL (b:=undef) ?_ Z j m f k
 unfold execOp
 simp [c,Z.eval l,Instr.box,newVar,newRow,newObj]
 rfl
def XM {off:Nat} (hs:(P.info? t).map (·.size)=some 1) (c:v.oneCell'=true) {u:ajh} (hc:w.cell? ⟨g,off,none⟩=some u) (e:w.frozen? ⟨g,off,none⟩=false):
  (af5 t (.pointer (some ⟨g,off,none⟩)) v).run P w= .ok () (w.setCell ⟨g,off,none⟩ v):=by
 have ht:w.there g off 1:=λj f=>by
  obtain rfl:j=0:=by omega
  simp [hc,e]
 have b:v.cells= #[v]:=by cases v<;>first|rfl|cases c
 have:=run_storeVar_mid (P:=P) w g off t #[v] (by simpa using ht) (by simpa using hs) (by simp [c])
 have e2:storeVar t ⟨g,off,none⟩ v=storeVar t ⟨g,off,none⟩ (.agg #[v]):=by
  unfold storeVar
  rw [b]
  rfl
 simp only [af5,aex,abJ,abR,abD,e2,this]
 rfl
def rP (Z:Fr a n D σ) (b:Mem W w fs) {t:ajj} {x y:ajl} {i g off:Nat} {C:Array ajh} {tb:ajj} (c:o.op= .store t x y) (f:o.dst=none) (h:look σ x=some (.pointer (some ⟨g,off,none⟩))) (hy:look σ y=some v) (hs:(P.info? t).map (·.size)=some 1) (j:v.oneCell'=true)
  (hi:fs[i]?=some (.blk g C tb)) (l:off<C.size) (k:∀e,Mem W e (fs.set i (.blk g (C.setIfInBounds off v) tb))->K a e):o.wp P a w K Q:=by
 have m:=b.blk hi
 have hc:w.cell? ⟨g,off,none⟩=some C[off]:=b.cell hi (afX l)
 have p:w.frozen? ⟨g,off,none⟩=false:=by simp [afZ,m]
 unfold acW execOp
 simp only [c,Z.eval h,Z.eval hy,abJ,XM hs j hc p,abD,abR,aeU,f]
 exact k _ (b.set hi v)
def XO (Z:Fr a n D σ) (c:Mem W w fs) {t:ajj} {x y:ajl} {i g m:Nat} {C ds:Array ajh} {tb:ajj} (b:o.op= .store t x y) (f:o.dst=none) (h:look σ x=some (.pointer (some ⟨g,0,none⟩))) (hy:look σ y=some (.agg ds)) (j:SI P t m) (hc:C.size=m) (hm:ds.size=m) (h1:∀u∈ds.toList,u.oneCell'=true)
  (hi:fs[i]?=some (.blk g C tb)) (k:∀e,Mem W e (fs.set i (.blk g ds tb))->K a e):o.wp P a w K Q:=by
 have l:=c.blk hi
 have p:=run_storeVar_mid (P:=P) w g 0 t ds (by rw [hm];exact Xh l 0 m om) (by rw [hm];exact j.size) (by simpa using all_oneCell_toArray h1)
 unfold acW execOp
 simp only [b,Z.eval h,Z.eval hy,abJ,af5,aex,abR,p,abD,aeU,f]
 exact k _ (c.Cm hi om)
def callable (P:aji) (f:FuncId):Bool:=match P.funcs[f]? with
 | some fn => fn.name != "runtime.NumGoroutine" && fn.body.isSome
 |none=>false
def EL (h:callable P f=true) (args:Array ajh) (w:ajg):(callFunc f args).run P w= .ok (.enter f args) w:=by
 unfold callable at h
 split at h
 ·rename_i fn b
  rw [abH,bne_iff_ne] at h
  have c:fn.body≠none:=by intro e;rw [e] at h;simp at h
  simp [callFunc,b,h.1,c,program,afy,abJ]
 ·cases h
def looks (σ:List (Nat×ajh)):List ajl->Option (List ajh)
 |[]=>some []
 |x::r=>match look σ x,looks σ r with
  |some v,some b=>some (v::b)
  |_,_=>none
def AP (Z:Fr a n D σ):∀{xs:List ajl} {b:List ajh},looks σ xs=some b->xs.map a.eval=b
 |[],b,h=>by cases h;rfl
 | x :: r, b, h => by
  unfold looks at h
  split at h
  ·rename_i v f c e
   injection h with h
   subst h
   rw [acE,Z.eval c,AP Z e]
  ·cases h
def AQ (Z:Fr a n D σ) {f:FuncId} {xs:Array ajl} {ts:Array ajj} {vs:List ajh} {R:ajk->ajg->Prop} (c:o.op= .call {callee:= .value (.func f),args:=xs,argTypes:=ts}) (i:looks σ xs.toList=some vs) (j:callable P f=true) (l:o.dst=some d) (g:d<n)
  (m:Calls P f vs.toArray w R) (k:∀e b,R e b->∃v,e= .returned v/\∀h,Fr h n D ((d,v)::σ)->K h b):o.wp P a w K Q:=by
 have e1:xs.map a.eval=vs.toArray:=by
  have:=AP Z i
  rw [<-this,<-adq,acR]
 unfold acW execOp
 simp only [c,resolve,ahq,adI,invoke,abJ,abR,abD]
 have e2:xs.map (λx=>a.eval x)=vs.toArray:=e1
 have e3: #[]++adB a.eval xs++ #[]=vs.toArray:=by simp [e1]
 show af9 P o a K Q (((callFunc f (#[]++adB a.eval xs++ #[])).run P w))
 rw [e3,EL j,afQ]
 refine m.mono λe b p=>?_
 obtain ⟨v,rfl,q⟩:=k e b p
 show K (a.put o.dst v) b
 rw [l]
 exact q _ (Z.put g v)
def lT (Z:Fr a n D σ) (vs:List ajh) {f:FuncId} {xs:Array ajl} {ts:Array ajj} {R:ajk->ajg->Prop} (b:o.op= .call {callee:= .value (.func f),args:=xs,argTypes:=ts}) (i:o.dst=some d) (j:Calls P f vs.toArray w R)
  (k:∀e g,R e g->∃v,e= .returned v/\∀h,Fr h n D ((d,v)::σ)->K h g) (l:looks σ xs.toList=some vs:=by kernel_rfl) (m:callable P f=true:=by kernel_rfl) (c:d<n:=by decide):o.wp P a w K Q:=AQ Z b l m i c j k
def jB (Z:Fr a n D σ) (i:Mem W w fs) (vs:List ajh) (v:ajh) {f:FuncId} {xs:Array ajl} {ts:Array ajj} (c:o.op= .call {callee:= .value (.func f),args:=xs,argTypes:=ts}) (j:o.dst=some d)
  (l:Calls P f vs.toArray w (λr b=>r= .returned v/\Below w.heap.size w b)) (k:∀b,Below w.heap.size w b->Mem W b fs->∀g,Fr g n D ((d,v)::σ)->K g b) (m:looks σ xs.toList=some vs:=by kernel_rfl) (p:callable P f=true:=by kernel_rfl) (e:d<n:=by decide):o.wp P a w K Q:=
 AQ Z c m p j e l λ_ b ⟨q,h⟩=>⟨v,q,k b h (i.call h)⟩
def bV (Z:Fr a n D σ) (e:Mem W w fs) (i:Nat) {t:ajj} {x y:ajl} {g m:Nat} {C ds:Array ajh} {tb:ajj} (b:o.op= .store t x y) (f:o.dst=none) (h:look σ x=some (.pointer (some ⟨g,0,none⟩))) (hy:look σ y=some (.agg ds)) (hi:fs[i]?=some (.blk g C tb)) (j:SI P t m) (hc:C.size=m) (hm:ds.size=m) (h1:∀u∈ds.toList,u.oneCell'=true)
  (k:∀c,Mem W c (fs.set i (.blk g ds tb))->K a c):o.wp P a w K Q:=XO Z e b f h hy j hc hm h1 hi k
end
section
variable {P:aji} {Q:ajp->Act->ajg->Prop} {a:Act} {W w:ajg} {n d:Nat} {D:List ajo} {σ:List (Nat×ajh)} {o:ajm} {v:ajh} {K:Act->ajg->Prop} {fs:List ajr}
def zom {base:Nat} {e:ajj} {size:Nat} (h:w.ownsRow base e size v m xs) (hm:0<m):∃g c,v= .slice (some ⟨g,0,none⟩) m c/\m<=c:=by
 rcases h.2 with ⟨_,b⟩|⟨g,cap,cur,f,_,_,b,_⟩
 ·omega
 ·exact ⟨g,cap,f,b⟩
def Cq {base:Nat} {e:ajj} {size:Nat} (h:w.ownsRow base e size v m xs):∃A c,v= .slice A m c/\m<=c:=by
 rcases h.2 with ⟨b,f⟩|⟨g,cap,cur,b,_,_,f,_⟩
 ·subst f;exact ⟨_,_,b,abx _⟩
 ·exact ⟨_,cap,b,f⟩
def su (Z:Fr a n D σ) (h:Mem W w fs) {s x:ajl} {t e:ajj} {z:ajh} {size bytes i b m c B:Nat} {A:ajq} {xs news:List ajh} (j:o.op= .call {callee:= .builtin .append,args:= #[s,x],argTypes:= #[t,t]}) (F:EI P t e z size bytes)
  (hs:look σ s=some v) (G:look σ x=some (.slice A m c)) (hi:fs[i]?=some (.row v b xs e size)) (hr:Rd w B size A m news) (h1:∀u∈news,u.oneCell'=true) (hb:(b+m)*bytes<=140737488355328) (h63:b+m<=9223372036854775807)
  (H:o.dst=some d) (l:d<n) (k:∀y p q f,Fr y n D ((d,.slice q (b+m) f)::σ)->Mem W p (fs.set i (.row (.slice q (b+m) f) (b+m) (xs++news) e size))->b+m<=f->K y p):o.wp P a w K Q:=
 Xd j F (h.own hi) (Z.eval hs) hr (Z.eval G) h1 hb h63 h.size λq f p C I r=>by
  rw [H]
  refine k _ _ _ _ (Z.put l _) (h.append hi C I r) ?_
  rcases C.2 with ⟨E,J⟩|⟨g,cap,cur,E,_,_,J,_⟩
  ·omega
  ·injection E with _ _ L;omega
def yB (σ:List (Nat×ajh)):List (Nat×ajl)->Option (List (Nat×ajh))
 |[]=>some []
 |(i,x)::r=>match look σ x,yB σ r with
  |some v,some b=>some ((i,v)::b)
  |_,_=>none
def XP (Z:Fr a n D σ):∀{ps:List (Nat×ajl)} {b:List (Nat×ajh)},yB σ ps=some b->ps.map (λp=>(p.1,a.eval p.2))=b
 |[],b,h=>by cases h;rfl
 | (i, x) :: r, b, h => by
  unfold yB at h
  split at h
  ·rename_i v f c e
   injection h with h
   subst h
   rw [acE,Z.eval c,XP Z e]
  ·cases h
def Qj (Z:Fr a n D σ) {ps:Array (Nat×ajl)} {vs:List (Nat×ajh)} (h:yB σ ps.toList=some vs):ps.map (λp=>(p.1,a.eval p.2))=vs.toArray:=by
 rw [<-XP Z h,<-adq,acR]
def ML (z:Array ajh) (m:Nat):Array ajh:=(ahy m).map (z[· %z.size]!)
def XQ (Z:Fr a n D σ) (x:Mem W w fs) {t len e:Nat} {ps:Array (Nat×ajl)} {vs:List (Nat×ajh)} {z:ajh} {size bytes:Nat} {C:Array ajh} (f:o.op= .buildSlice t len ps) (h:EI P t e z size bytes) (q:decide (0<len/\len*size<=16777216)=true) (y:yB σ ps.toList=some vs)
  (r:ae2 (λi=>some (i*size,size)) (ML z.cells (len*size)) vs=some C) (A:o.dst=some d) (j:d<n)
  (k:∀s u g,Fr s n D ((d,.slice (some ⟨g,0,none⟩) len len)::σ)->Mem W u (.blk g C e::fs)->K s u):o.wp P a w K Q:=by
 obtain ⟨i,hi,hz,l,_⟩:=info_parts h.hi
 have b:=h.hs
 simp only [decide_eq_true_eq] at q
 have B:¬len*size=0:=by
  have:=Nat.mul_pos q.1 b
  omega
 have E:¬len*size>2^24:=by omega
 have c:(execOp a.eval o).run P w= .ok (.value (.slice (some ⟨w.heap.size,0,none⟩) len len)) (w.alloc (.cells C e)):=by
  unfold execOp
  have m:=Qj Z y
  unfold ML at r
  simp only [f]
  have e1:(adN t len (ps.map λp=>(p.1,a.eval p.2))).run P w= .ok (.slice (some ⟨w.heap.size,0,none⟩) len len) (w.alloc (.cells C e)):=by
   rw [m]
   unfold adN
   simp only [abJ,run_underlying h.ht,abD,sizeOf,typeInfo,program,afy,hi,abR,l,if_neg E,if_neg B,zeroValue,hz,r,newRow,newObj]
   rfl
  simp only [abJ,abR]
  show ((adN t len (ps.map λp=>(p.1,a.eval p.2))).run P w).andThen _=_
  rw [e1]
  rfl
 unfold acW
 rw [c,acy,A]
 exact k _ _ _ (Z.put j _) (x.alloc C e)
theorem Mem.MN (h:Mem W w fs) {i g m c:Nat} {e:ajj} {size:Nat} {xs:List ajh} (hi:fs[i]?=some (.row (.slice (some ⟨g,0,none⟩) m c) m xs e size)) (off:Nat) {ys:List ajh} (hy:∀j u,ys[j]?=some u->xs[off+j]?=some u):w.rangeAt g off ys:=λj u b=>by
 have f:=h.own hi
 have:=f.cells (g:=g) rfl (off+j) u (hy j u b)
 rw [acL,ab9] at this
 exact this
theorem Mem.zqy (h:Mem W w fs) {i g m c:Nat} {e:ajj} {size:Nat} {xs:List ajh} (hi:fs[i]?=some (.row (.slice (some ⟨g,0,none⟩) m c) m xs e size)):w.rangeAt g 0 xs:=h.MN hi 0 (λj u b=>by rw [ab9];exact b)
def MO (Z:Fr a n D σ) (m:Mem W w fs) {t e:Nat} {z:ajh} {size bytes:Nat} (c:o.op= .buildSlice t 0 #[]) (h:EI P t e z size bytes) (p:o.dst=some d) (f:d<n)
  (k:∀j l g,Fr j n D ((d,.slice (some ⟨g,0,none⟩) 0 0)::σ)->Mem W l (.row (.slice (some ⟨g,0,none⟩) 0 0) 0 [] e size::fs)->K j l):o.wp P a w K Q:=by
 obtain ⟨i,hi,hz,q,_⟩:=info_parts h.hi
 have b:(execOp a.eval o).run P w= .ok (.value (.slice (some ⟨w.heap.size,0,none⟩) 0 0)) (w.alloc (.cells #[] e)):=by
  unfold execOp
  simp only [c]
  have e1:(adN t 0 #[]).run P w= .ok (.slice (some ⟨w.heap.size,0,none⟩) 0 0) (w.alloc (.cells #[] e)):=by
   unfold adN
   simp only [abJ,run_underlying h.ht,abD,sizeOf,typeInfo,program,afy,hi,abR,newRow,newObj]
   simp [ae2,show ahy 0= #[] from rfl]
   rfl
  simp only [abJ,abR,ac8,adF]
  show ((adN t 0 #[]).run P w).andThen _=_
  rw [e1]
  rfl
 unfold acW
 rw [b,acy,p]
 refine k _ _ w.heap.size (Z.put f _) ?_
 have:=(m.alloc #[] e).fV (i:=0) (size:=size) (n:=0) rfl (by simp) om
 exact this
def AU:Nat->List ajh->List (Nat×ajh)
 |_,[]=>[]
 |i,v::r=>(i,v)::AU (i+1) r
def Gp:∀(b:List ajh) (i t:Nat) (v:ajh),(AU i b).lookup t=some v->i<=t/\b[t-i]?=some v
 |[],_,_,_,h=>by cases h
 | u :: r, i, t, v, h => by
  rw [AU,acV] at h
  split at h
  ·rename_i e
   rw [beq_iff_eq] at e
   subst e
   exact ⟨abx _,by simpa using h⟩
  ·obtain ⟨f,c⟩:=Gp r (i+1) t v h
   refine ⟨by omega,?_⟩
   rw [show t-i=(t- (i+1))+1 by omega,ad1]
   exact c
def yC {f:Nat} {fn:Func} {c:Code} (g:P.funcs[f]?=some fn) (hb:fn.body=some c) (h:fn.ntmps=N) (i:decide (abr vs<=N)=true) {σ0:List (Nat×ajh)} (j:AU 0 vs=σ0)
  (k:∀a,Fr a N [] σ0->c.wp P (bodyPost P fn R) a w):Calls P f vs.toArray w R:=by
 subst j
 rw [decide_eq_true_eq] at i
 refine calls_of_wp g hb (k _ ⟨by simp [h];omega,rfl,λt v l=>?_⟩)
 obtain ⟨_,b⟩:=Gp vs 0 t v l
 rw [ae3] at b
 have e:=(abF.1 b).1
 simp only [acU,ad2,adj,if_pos e]
 simp [b]
def vU (c:Array ajh):ResultVar->Sem ajh
 | .tmp t=>pure (c.getD t undef)
 | .cell b t=>do loadVar t (<-asAddr (c.getD b undef))
def mU (P:aji) (a:Act) (w:ajg) (r:ResultVar) (v:ajh):Prop:=(vU a.tmps r).run P w= .ok v w
def Cr (fn:Func) (b:Array ajh):results fn b=(do
 let c<-fn.results.mapM (vU b)
 pure (if h:c.size=1 then c[0] else .tuple c)):=by
 unfold results
 have:vU b=(λ| .tmp t=>pure (b.getD t undef)| .cell a t=>do loadVar t (<-asAddr (b.getD a undef))):=by
  funext r;cases r<;>rfl
 rw [this]
 rfl
theorem mU.tmp {t:Nat} (Z:Fr a n D σ) (h:σ.lookup t=some v):mU P a w (.tmp t) v:=by
 unfold mU vU
 simp only [Z.slot t v h]
 rfl
theorem mU.cellS {b:Nat} (Z:Fr a n D σ) (e:Mem W w fs) (h:σ.lookup b=some (.pointer (some ⟨g,0,none⟩))) (hi:fs[i]?=some (.blk g C tb)) (c:SI P t m) (hm:C.size=m):mU P a w (.cell b t) (.agg C):=by
 obtain ⟨f,j,k⟩:=c.desc
 have l:=run_loadVar_mid (P:=P) w g 0 t C.toList f (qj (e.blk hi)) j k (by rw [c.size,<-hm];simp)
 unfold mU vU
 simp only [Z.slot b _ h]
 simp [asAddr,l]
theorem mU.cell1 {b:Nat} (Z:Fr a n D σ) (c:Mem W w fs) (h:σ.lookup b=some (.pointer (some ⟨g,0,none⟩))) (hi:fs[i]?=some (.blk g C tb)) (ht:gP P t=true) (hc:C[0]?=some v):mU P a w (.cell b t) v:=by
 unfold mU vU
 simp only [Z.slot b _ h]
 simp [asAddr,loadVar,Gn ht,load,afy,c.cell hi hc]
section
variable {fn:Func} {R:ajk->ajg->Prop}
def jc {v1:ajh} (hr:fn.results= #[r1]) (Z:Fr a n [] σ) (h1:mU P a w r1 v1) (b:R (.returned v1) w):bodyPost P fn R .ret a w:=
 bodyPost_ret (v:=v1) (by
  unfold mU at h1
  rw [Cr,hr]
  generalize vU a.tmps=f at*
  simp [h1]) Z.defers b
def dS {b:ResultVar} {v1:ajh} (hr:fn.results= #[r1,b]) (Z:Fr a n [] σ) (h1:mU P a w r1 v1) (c:mU P a w b v2) (e:R (.returned (.tuple #[v1,v2])) w):bodyPost P fn R .ret a w:=
 bodyPost_ret (v:= .tuple #[v1,v2]) (by
  unfold mU at h1 c
  rw [Cr,hr]
  generalize vU a.tmps=f at*
  simp [h1,c]) Z.defers e
def iy {b c:ResultVar} {v1:ajh} (hr:fn.results= #[r1,b,c]) (Z:Fr a n [] σ) (h1:mU P a w r1 v1) (e:mU P a w b v2) (g:mU P a w c z) (h:R (.returned (.tuple #[v1,v2,z])) w):bodyPost P fn R .ret a w:=
 bodyPost_ret (v:= .tuple #[v1,v2,z]) (by
  unfold mU at h1 e g
  rw [Cr,hr]
  generalize vU a.tmps=f at*
  simp [h1,e,g]) Z.defers h
end
def q45 {c:ajl} {x y:Code} (Z:Fr a n D σ) (hc:look σ c=some (.bool true)) (h:x.wp P Q a w):(aga c x y).wp P Q a w:=wp_cond_true (Z.eval hc) h
def Qk {c:ajl} {x y:Code} (Z:Fr a n D σ) (hc:look σ c=some (.bool false)) (h:y.wp P Q a w):(aga c x y).wp P Q a w:=wp_cond_false (Z.eval hc) h
def qz {x y:Code} (R:Act->ajg->Prop) (h:x.wp P (Exit.then R Q) a w) (k:∀a w,R a w->y.wp P Q a w):(Code.seq x y).wp P Q a w:=
 wp_seq (ahz (λe a w b=>by cases e<;>first|exact k _ _ b|exact b) h)
def qg {c:Code} (J:Nat->Act->ajg->Prop) {m:Nat} (A:J m a w) (round:∀k a w,J k a w->c.wp P (Exit.then (λi j=>∃z,z<k/\J z i j) Q) a w):(Code.loop c).wp P Q a w:=by
 intro b r s
 have key:∀m a w,J m a w->∃e i j,Q e i j/\Arrives P (lone (b.at a (.code c:: .inLoop c::r)) s w) b r s e i j:=by
  intro m
  induction m using ae8 with
  | _ m B =>
   intro a w C
   obtain ⟨e,p,q,g,f⟩:=round m a w C b (.inLoop c::r) s
   cases e with
   |normal=>
    obtain ⟨E,t,u⟩:=g
    obtain ⟨e2,F,G,y,h⟩:=B E t p q u
    exact ⟨e2,F,G,y,.of_steps (Steps.trans f (.one step_inLoop)) h⟩
   |exit id=>exact ⟨_,p,q,g,.pass (x:= .inLoop c) rfl (λ_ _=> .inl (by simp)) f⟩
   |goto l=>exact ⟨_,p,q,g,.pass (x:= .inLoop c) rfl (λ_ _=> .inl (by simp)) f⟩
   |ret=>exact ⟨_,p,q,g,.pass (x:= .inLoop c) rfl (λ_ _=> .inl (by simp)) f⟩
   |panic H=>exact ⟨_,p,q,g,.pass (x:= .inLoop c) rfl (λ_ _=> .inl (by simp)) f⟩
   |outgrown=>exact ⟨_,p,q,g,.pass (x:= .inLoop c) rfl (λ_ _=> .inl (by simp)) f⟩
 obtain ⟨e,i,j,g,f⟩:=key m a w A
 exact ⟨e,i,j,g,.of_steps (.one step_loop) f⟩
end
def putAt (xs:List ajh) (off:Nat) (vs:List ajh):List ajh:=xs.take off++vs++xs.drop (off+abr vs)
theorem MP {off:Nat} (h:off+abr vs<=abr xs):abr (putAt xs off vs)=abr xs:=by grind [putAt]
theorem MQ {off:Nat} (h:off+abr vs<=abr xs) (j:Nat):(putAt xs off vs)[j]?=if off<=j/\j<off+abr vs then vs[j-off]? else xs[j]?:=by grind [putAt,aby,List.getElem?_append_left,List.getElem?_append_right,abA,ab0]
def qjm {cur:Array ajh} {e:ajj} (hb:w.heap[g]?=some (.cells cur e (0,0))) (off:Nat) (vs:List ajh) (f:off+abr vs<=cur.size):
  (w.setCells g off vs).heap[g]?=some (.cells (putAt cur.toList off vs).toArray e (0,0)):=by
 have c:cur=(cur.toList.take off++(cur.toList.drop off).take (abr vs)++cur.toList.drop (off+abr vs)).toArray:=by
  apply Array.toList_inj.1
  simp only [aby]
  rw [<-acH,ab1,ab1]
 have b:=qc3 g e vs w (cur.toList.take off) (cur.toList.drop (off+abr vs)) ((cur.toList.drop off).take (abr vs)) (by rw [<-c];exact hb) (by simp only [abA,abE,acD];omega)
 rw [abA,acD,ac9 om] at b
 exact b
section
variable {P:aji} {Q:ajp->Act->ajg->Prop} {a:Act} {W w:ajg} {n d:Nat} {D:List ajo} {σ:List (Nat×ajh)} {o:ajm} {v:ajh} {K:Act->ajg->Prop} {fs:List ajr}
theorem Mem.o9 (h:Mem W w fs) {i g m c:Nat} {e:ajj} {size:Nat} {xs:List ajh} (hi:fs[i]?=some (.row (.slice (some ⟨g,0,none⟩) m c) m xs e size)) {off:Nat} {vs:List ajh} (r:off+abr vs<=abr xs):
  Mem W (w.setCells g off vs) (fs.set i (.row (.slice (some ⟨g,0,none⟩) m c) m (putAt xs off vs) e size)):=by
 have B:=h.own hi
 obtain ⟨l,C⟩:=B
 rcases C with ⟨f,_⟩|⟨E,cap,cur,b,z,F,p,s,q,ht⟩
 ·cases f
 ·injection b with b G t
  injection b with b
  injection b with b
  subst b;subst t
  have A:m*size<=cur.size:=by rw [q];exact acC _ p
  refine h.turn hi (below_setCells h.below z off vs) (λk H u=>Mt _ _ _ _ _ (λe=>u (by rw [e];rfl))) ?_ (λE x=> .inl x)
  refine ⟨by rw [MP r];exact l,.inr ⟨g,c,_,rfl,z,qjm F off vs om,p,s,?_,?_⟩⟩
  ·rw [adj,MP (by simpa using (by omega:off+abr vs<=cur.size)),acD,q]
  ·show (putAt cur.toList off vs).take (m*size)=putAt xs off vs
   subst ht
   have y:off+abr vs<=abr cur.toList/\off+abr vs<=m*size:=by
    rw [abA,acD] at r
    rw [acD]
    omega
   apply agP
   intro j
   rw [MQ r,adE,adE,MQ y.1]
   by_cases f:off<=j/\j<off+abr vs
   ·rw [if_pos f,if_pos om,if_pos f]
   ·rw [if_neg f,if_neg f]
def MR (h:Mem W w fs) {i g m c:Nat} {e:ajj} {size:Nat} {xs:List ajh} (hi:fs[i]?=some (.row (.slice (some ⟨g,0,none⟩) m c) m xs e size)) (off k:Nat) (z:off+k<=abr xs):w.there g off k:=by
 have r:=h.own hi
 obtain ⟨p,s⟩:=r
 rcases s with ⟨t,_⟩|⟨A,cap,cur,b,B,u,f,x,j,ht⟩
 ·cases t
 ·injection b with b y l
  injection b with b
  injection b with b
  subst b;subst l
  have q:m*size<=cur.size:=by rw [j];exact acC _ f
  exact Xh u off k om
def zj (Z:Fr a n D σ) (f:Mem W w fs) {t:ajj} {x y:ajl} {i g off m c:Nat} {xs:List ajh} {e:ajj} {size:Nat} (b:o.op= .store t x y) (j:o.dst=none) (l:look σ x=some (.pointer (some ⟨g,off,none⟩))) (hy:look σ y=some v) (hs:(P.info? t).map (·.size)=some 1) (p:v.oneCell'=true)
  (hi:fs[i]?=some (.row (.slice (some ⟨g,0,none⟩) m c) m xs e size)) (q:off<abr xs) (k:∀h,Mem W h (fs.set i (.row (.slice (some ⟨g,0,none⟩) m c) m (putAt xs off [v]) e size))->K a h):o.wp P a w K Q:=by
 have ht:=MR f hi off 1 om 0 om
 rw [acN] at ht
 obtain ⟨u,r⟩:=Option.isSome_iff_exists.1 ht.1
 unfold acW execOp
 simp only [b,Z.eval l,Z.eval hy,abJ,XM hs p r ht.2,abD,abR,aeU,j]
 exact k _ (f.o9 hi (vs:=[v]) q)
def XR (Z:Fr a n D σ) (HM:Mem W w fs) {s x:ajl} {t e:ajj} {z:ajh} {size bytes f cap m c B B':Nat} {A E:ajq} {xs news:List ajh} (N:o.op= .call {callee:= .builtin .append,args:= #[s,x],argTypes:= #[t,t]}) (M:EI P t e z size bytes)
  (hs:look σ s=some (.slice A f cap)) (hx:look σ x=some (.slice E m c)) (l:Rd w B size A f xs) (hr:Rd w B' size E m news) (hm:0<m) (hg:cap<f+m) (r:A=none->f=0/\cap=0) (hb:(f+m)*bytes<=140737488355328) (h63:f+m<=9223372036854775807)
  (hd:o.dst=some d) (O:d<n) (k:∀a' F g p,Fr a' n D ((d,.slice (some ⟨g,0,none⟩) (f+m) p)::σ)->Mem W F (.row (.slice (some ⟨g,0,none⟩) (f+m) p) (f+m) (xs++news) e size::fs)->f+m<=p->K a' F):o.wp P a w K Q:=by
 obtain ⟨i,hi,hz,y,H⟩:=info_parts M.hi
 obtain ⟨R,S,_,h⟩:=hr.row hm
 subst S
 have q:abr (xs++news)=(f+m)*size:=by rw [abu,l.len,hr.len,aez]
 obtain ⟨p,F,I,T⟩:∃p F,(adf #[t,t] o.type #[.slice A f cap,.slice (some R) m c]).run P w= .ok (.slice (some ⟨w.heap.size,0,none⟩) (f+m) p) F/\
   (f+m<=p/\p<=maxLen/\F=w.drew.alloc (.cells (xs.toArray++news.toArray++ab2 z.cells (p- (f+m))) e)):=by
  cases A with
  |none=>
   obtain ⟨rfl,rfl⟩:=r rfl
   have U:xs=[]:=acz (by simpa using l.len)
   subst U
   have C:=run_append_nil (P:=P) w t o.type e i z M.ht hi hz R m c news (by rw [y];exact hr.len) h hm om (by rw [H];rw [ab9] at hb;omega)
   refine ⟨_,_,by rw [ab9];exact C,?_,?_,?_⟩
   ·rw [ab9];exact grownCap_ge w m 0 e
   ·exact grownCap_le_maxLen w m 0 e (by unfold maxLen;omega)
   ·simp
  | some b =>
   have holds:∀j u,xs[j]?=some u->w.cell? (b.add j)=some u:=by
    intro j u V
    rcases ach f with X|X
    ·have J:=l.len
     rw [X,agr] at J
     rw [acz J] at V
     simp at V
    ·obtain ⟨ad',G,_,Y⟩:=l.row X
     injection G with G
     subst G
     exact Y j u V
   have C:=run_append_grow (P:=P) w t o.type e i z M.ht hi hz b f cap xs (by rw [y];exact l.len) holds R m c news (by rw [y];exact hr.len) h hg om (by rw [H];exact growslice_fits hg hb)
   exact ⟨_,_,C,grownCap_ge w (f+m) cap e,grownCap_le_maxLen w (f+m) cap e (by unfold maxLen;omega),rfl⟩
 obtain ⟨G,Y,rfl⟩:=T
 have L:(w.drew.alloc (.cells (xs.toArray++news.toArray++ab2 z.cells (p- (f+m))) e)).ownsRow w.heap.size e size (.slice (some ⟨w.heap.size,0,none⟩) (f+m) p) (f+m) (xs++news):=by
  refine ⟨q,.inr ⟨w.heap.size,_,_,rfl,abx _,aef w.drew _,G,Y,?_,?_⟩⟩
  ·simp only [aff,adj,size_zeroCells,M.hz,l.len,hr.len,<-aez]
   congr 1
   omega
  ·simp only [agx,aby]
   rw [<-aby,<-q]
   exact adP
 unfold acW execOp
 simp only [N,resolve,invoke,builtin,abJ,abR,abD,ac8,acE,adF,Z.eval hs,Z.eval hx,I]
 rw [acy,hd]
 exact k _ _ w.heap.size p (Z.put O _) (HM.dh ((aeb _ _).drew.alloc (by simp) _) L) G
theorem Mem.dw (h:Mem W w fs) {i m:Nat} {e:ajj} {size:Nat} {xs ys:List ajh} (hi:fs[i]?=some (.row v m xs e size)) (b:xs=ys):Mem W w (fs.set i (.row v m ys e size)):=by grind [abF,ad4]
end
def Ql {α:Type} (f:α->List ajh) (sz:Nat) (b:∀x,abr (f x)=sz):∀(l:List α) (k:Nat) (x:α),k<abr l->putAt (l.flatMap f) (k*sz) (f x)=(l.set k x).flatMap f
 |[],k,x,h=>by simp at h
 |y::r,0,x,h=>by
  unfold putAt
  rw [agr,ab9,b,abO,aeS,abO,List.take_zero,acX,List.drop_append_of_le_length (by rw [b];exact abx _),acu (by rw [b];exact abx _),acX]
 | y :: r, k + 1, x, h => by
  have c:=Ql f sz b r k x (by simpa using h)
  unfold putAt at c⊢
  rw [abO,afK,abO,<-c,adK]
  have e1:(f y++r.flatMap f).take (k*sz+sz)=f y++(r.flatMap f).take (k*sz):=by
   rw [afD,abM (by rw [b];omega),b,Nat.add_sub_cancel]
  have e2:(f y++r.flatMap f).drop (k*sz+sz+abr (f x))=(r.flatMap f).drop (k*sz+abr (f x)):=by
   rw [afE,acu (by rw [b];omega),acX,b y]
   congr 1
   omega
  rw [e1,e2]
  simp only [aby]
def vV {α:Type} (f:α->List ajh) (sz:Nat) (b:∀x,abr (f x)=sz) (l:List α) (k:Nat) (y x:α) (hk:l[k]?=some y) (off:Nat) (p:off<sz) (v:ajh) (q:f x=(f y).set off v):putAt (l.flatMap f) (k*sz+off) [v]=(l.set k x).flatMap f:=by
 obtain ⟨g,r⟩:=abF.1 hk
 rw [<-Ql f sz b l k x g,q]
 have h:=rZ f sz b l
 have s:k*sz+sz<=abr l*sz:=by rw [<-adK];exact acC _ g
 have c:abr ((f y).set off v)=sz:=by rw [abL,b]
 apply agP
 intro j
 rw [MQ (by rw [ae4];omega),MQ (by rw [c];omega),c,ae4]
 by_cases i:k*sz<=j/\j<k*sz+sz
 ·rw [if_pos i]
  have e:=EB f sz b l k (j-k*sz) g om
  rw [r,show k*sz+(j-k*sz)=j by omega] at e
  by_cases m:k*sz+off<=j/\j<k*sz+off+1
  ·obtain rfl:j=k*sz+off:=by omega
   rw [if_pos m,ad5,show k*sz+off-k*sz=off by omega,adk (by rw [b];exact p)]
   rfl
  ·rw [if_neg m,e,List.getElem?_set_ne om]
 ·rw [if_neg i,if_neg om]
theorem Mem.qv (h:Mem W w fs) {α:Type} {f:α->List ajh} {sz:Nat} (p:∀x,abr (f x)=sz) {i g m c:Nat} {e:ajj} {l:List α} (hi:fs[i]?=some (.row (.slice (some ⟨g,0,none⟩) m c) m (l.flatMap f) e sz)) {k off:Nat} {x:α} {v:ajh} (hk:l[k]?=some x) (q:(f x)[off]?=some v):w.cell? ⟨g,k*sz+off,none⟩=some v:=by
 obtain ⟨r,s⟩:=abF.1 hk
 have t:off<sz:=by have:=(abF.1 q).1;rwa [p] at this
 have:=h.MN hi (k*sz+off) (ys:=[v]) (λj u b=>by
  cases j with
  |zero=>
   injection b with b
   subst b
   rw [acN,EB f sz p l k off r t,s]
   exact q
  |succ j=>cases b)
 exact this 0 v rfl
section
variable {P:aji} {Q:ajp->Act->ajg->Prop} {a:Act} {W w:ajg} {n d:Nat} {D:List ajo} {σ:List (Nat×ajh)} {o:ajm} {K:Act->ajg->Prop} {fs:List ajr}
def qme (w:ajg) (a:Addr) (n k:Nat) (h:k≠a.block):(w.freeze a n).heap[k]?=w.heap[k]?:=by
 unfold agb
 split
 ·rfl
 ·simp only [aeX]
  rw [if_neg om]
def below_freeze {W w:ajg} (h:Below B W w) {a:Addr} (b:B<=a.block) (n:Nat):Below B W (w.freeze a n):=by
 refine h.trans ⟨?_,?_,?_,?_,λk c=>qme _ _ _ _ om⟩<;>unfold agb<;>split<;>simp
def qwg {w:ajg} {g m:Nat} {e:ajj} (hb:w.heap[g]?=some (.cells C e (0,0))):(w.freeze ⟨g,m,none⟩ 1).heap[g]?=some (.cells C e (m,m+1)):=by
 unfold agb
 rw [if_neg de]
 simp [aeX,hb]
def zig (Z:Fr a n D σ) (b:Mem W w fs) (i:Nat) {t e:ajj} {x:ajl} {g m c:Nat} {C:Array ajh} {te:ajj} (f:o.op= .convert t t x) (v:look σ x=some (.slice (some ⟨g,0,none⟩) m c)) (hi:fs[i]?=some (.blk g C te)) (ht:P.underlying t=some (.slice e)) (y:P.underlying e=some (.int .u8)) (z:o.dst=some d) (h:d<n)
  (k:∀q r,Fr q n D ((d,.slice (some ⟨g,0,none⟩) m c)::σ)->Mem W r (fs.set i (.obj g (.cells C te (C.size,C.size+1))))->K q r):o.wp P a w K Q:=by
 have s:=b.blk hi
 have u:=b.holds _ (abK hi)
 have j:w.shape? g=some (te,C.size):=by unfold agc;rw [s]
 have A:(execOp a.eval o).run P w= .ok (.value (.slice (some ⟨g,0,none⟩) m c)) (w.freeze ⟨g,C.size,none⟩ 1):=by
  unfold execOp
  simp [f,Z.eval v,convert,run_underlying ht,run_underlying y,markStringish,j]
 unfold acW
 rw [A,acy,z]
 refine k _ _ (Z.put h _) (b.turn hi (below_freeze b.below u.1 1) (λk B l=>qme _ _ _ _ (λe=>l (by rw [e];rfl))) ⟨u.1,qwg s⟩ (λE p=> .inl p))
theorem Mem.wR (h:Mem W w fs) {i g:Nat} {C:Array ajh} {t:ajj} {q:Nat×Nat} {size n:Nat} (hi:fs[i]?=some (.obj g (.cells C t q))) (c:C.size=n*size):Rd w w.heap.size size (some ⟨g,0,none⟩) n C.toList:=
 have b:w.heap[g]?=some (.cells C t q):=(h.holds _ (abK hi)).2
 ⟨by simpa using c,λ_=>⟨_,rfl,AB b,λj u e=>by
  rw [acL,ab9]
  simp only [aep,b]
  simpa using e⟩⟩
end
section
variable {w:ajg} {B size n:Nat} {A:ajq} {xs:List ajh} {g o:Nat}
theorem Rd.XT (h:Rd w B size A n xs) (e:0<n) (hs:0<size):∃g o,A=some ⟨g,o,none⟩/\g<B:=by
 obtain ⟨f,rfl,i,hc⟩:=h.row e
 have j:=h.len
 have k:n*size>=1*1:=Nat.mul_le_mul e hs
 have b:=q4j (hc 0 _ (abv om))
 have c:f.spot=none:=by simpa [Addr.add] using b
 obtain ⟨g,o,sp⟩:=f
 cases c
 exact ⟨g,o,rfl,i⟩
theorem Rd.sat (h:Rd w B size A n xs) (k:Nat) (hk:k<n:=by omega) (hs:0<size:=by decide):∃g o,A=some ⟨g,o,none⟩/\g<B:=h.XT (agL (abC _) hk) hs
theorem Rd.range (h:Rd w B size (some ⟨g,o,none⟩) n xs):w.rangeAt g o xs:=λj u b=>by
 have f:=(abF.1 b).1
 rcases ach n with rfl|c
 ·have:=h.len;omega
 ·obtain ⟨i,e,k,hc⟩:=h.row c
  injection e with e
  subst e
  have:=hc j u b
  rwa [acL] at this
theorem Rd.Ct (h:Rd w B 1 (some ⟨g,o,none⟩) n xs) {k:Nat} {u:ajh} (b:xs[k]?=some u):w.cell? ⟨g,o+k*1,none⟩=some u:=by rw [ac5];exact h.range k u b
theorem Rd.vX {α:Type} {f:α->List ajh} (b:∀x,abr (f x)=size) {l:List α} (h:Rd w B size (some ⟨g,o,none⟩) n (l.flatMap f)) {k:Nat} {x:α} (hk:l[k]?=some x):w.rangeAt g (o+k*size) (f x):=λj u c=>by
 obtain ⟨i,m⟩:=abF.1 hk
 have p:j<size:=by have:=(abF.1 c).1;rwa [b] at this
 have e:=h.range (k*size+j) u ((EB f size b l k j i p).trans (by rw [m];exact c))
 rw [<-afb] at e
 exact e
theorem Rd.partAt {α:Type} {f:α->List ajh} (b:∀x,abr (f x)=size) {l:List α} (h:Rd w B size (some ⟨g,o,none⟩) n (l.flatMap f)) {k j:Nat} {x:α} {u:ajh} (hk:l[k]?=some x) (c:(f x)[j]?=some u):w.cell? ⟨g,o+k*size+j,none⟩=some u:=h.vX b hk j u c
end
section
variable {W w:ajg} {fs:List ajr}
theorem Mem.XU (h:Mem W w fs) {i g m c:Nat} {e:ajj} {xs:List ajh} (hi:fs[i]?=some (.row (.slice (some ⟨g,0,none⟩) m c) m xs e 1)) {k:Nat} {u:ajh} (b:xs[k]?=some u):w.cell? ⟨g,k*1,none⟩=some u:=by
 have f:=h.zqy hi k u b
 rwa [ab9,<-ac5 k] at f
def iZ {A:ajq} {n m c:Nat} (h:n=m):Value.slice A n c= .slice A m c:=by rw [h]
theorem Mem.bq (h:Mem W w fs) {i n m:Nat} {A:ajq} {c size:Nat} {e:ajj} {xs ys:List ajh} (hi:fs[i]?=some (.row (.slice A n c) n xs e size)) (b:n=m) (f:xs=ys):Mem W w (fs.set i (.row (.slice A m c) m ys e size)):=by grind [abF,ad4]
end
def vY {α:Type} {F:α->ajh} {l:List α} {k:Nat} {x:α} (h:l[k]?=some x):(l.map F)[k]?=some (F x):=by rw [acQ,h];rfl
section
variable {P:aji} {Q:ajp->Act->ajg->Prop} {a:Act} {W w:ajg} {n d:Nat} {D:List ajo} {σ:List (Nat×ajh)} {o:ajm} {K:Act->ajg->Prop} {fs:List ajr}
def zj2 (Z:Fr a n D σ) (E:Mem W w fs) {t e:Nat} {l c:ajl} {z:ajh} {size bytes m:Nat} {v x:ajn} (p:o.op= .makeSlice t l c) (y:EI P t e z size bytes) (F:look σ l=some (.int v 0)) (hc:look σ c=some (.int x (m:Int))) (hb:bytes*m<=281474976710656) (h63:m<=9223372036854775807) (G:o.dst=some d) (q:d<n)
  (k:∀C j g,Fr C n D ((d,.slice (some ⟨g,0,none⟩) 0 m)::σ)->Mem W j (.row (.slice (some ⟨g,0,none⟩) 0 m) 0 [] e size::fs)->K C j):o.wp P a w K Q:=by
 obtain ⟨i,hi,hz,r,s⟩:=info_parts y.hi
 obtain ⟨j,b,f,u⟩:=run_make_own (P:=P) w w.heap.size t e i z size y.ht hi hz r v x m (by rw [s];exact hb) h63 (abx _)
 have e1:(execOp a.eval o).run P w= .ok (.value (.slice (some ⟨w.heap.size,0,none⟩) 0 m)) j:=by
  unfold execOp
  simp only [p,Z.eval F,Z.eval hc,abJ]
  rw [b]
  rfl
 unfold acW
 rw [e1,acy,G]
 exact k _ _ _ (Z.put q _) (E.dh ((aeb _ _).grown u (abx _) (λ_ h=>by cases h)) f)
def yD (Z:Fr a n D σ) (E:Mem W w fs) {t e:Nat} {l c:ajl} {z:ajh} {size bytes m:Nat} {v x:ajn} (p:o.op= .makeSlice t l c) (y:EI P t e z size bytes) (F:look σ l=some (.int v (m:Int))) (hc:look σ c=some (.int x (m:Int))) (hb:bytes*m<=281474976710656) (h63:m<=9223372036854775807) (G:o.dst=some d) (q:d<n)
  (k:∀C j g,Fr C n D ((d,.slice (some ⟨g,0,none⟩) m m)::σ)->Mem W j (.row (.slice (some ⟨g,0,none⟩) m m) m (madeCells z.cells (m*size)).toList e size::fs)->K C j):o.wp P a w K Q:=by
 obtain ⟨i,hi,hz,r,s⟩:=info_parts y.hi
 obtain ⟨j,b,f,u⟩:=run_make_full (P:=P) w w.heap.size t e i z size y.ht hi hz r v x m (by rw [s];exact hb) h63 (abx _)
 have e1:(execOp a.eval o).run P w= .ok (.value (.slice (some ⟨w.heap.size,0,none⟩) m m)) j:=by
  unfold execOp
  simp only [p,Z.eval F,Z.eval hc,abJ]
  rw [b]
  rfl
 unfold acW
 rw [e1,acy,G]
 exact k _ _ _ (Z.put q _) (E.dh ((aeb _ _).grown u (abx _) (λ_ h=>by cases h)) f)
end
theorem Rd.pre {r:List Nat} (h:Rd w B 1 A m ((l++r).map B8)) (b:abr l=n) (hm:n<=m):Rd w B 1 A n (l.map B8):=by
 have c:=h.upto hm
 rwa [ac5,abW,List.take_append_of_le_length (by simp [b]),abM (by simp [b])] at c
theorem Mem.sub (h:Mem W w fs) {i g:Nat} {C:Array ajh} {t:ajj} (hi:fs[i]?=some (.blk g C t)) (off:Nat) {ds:Array ajh} (b:(C.toList.drop off).take ds.size=ds.toList):w.rangeAt g off ds.toList:=λj u a=>by
 have c:w.rangeAt g 0 C.toList:=qj (h.blk hi)
 have hc:C.toList[off+j]?=some u:=by
  rw [<-b,adE] at a
  split at a
  ·rwa [List.getElem?_drop] at a
  ·cases a
 have:=c (off+j) u hc
 rwa [ab9] at this
def Gq {α:Type} (F:α->ajh) (l:List α) (k:Nat) (x:α) (hk:k<abr l):putAt (l.map F) (k*1) [F x]=(l.set k x).map F:=by
 have b:∀l:List α,l.map F=l.flatMap λx=>[F x]:=λl=>by induction l with
  |nil=>rfl
  |cons a r c=>rw [acE,abO,c];rfl
 rw [b,b,<-Ql (λx=>[F x]) 1 (λ_=>rfl) l k x hk]
section
variable {P:aji} {S:ajg->Prop} {σ:List (Nat×ajh)} {o:ajm}
end
theorem Rd.Cu {k:Nat} (h:Rd w B 1 A n (l.map B8)) (hk:k<=n):Rd w B 1 A k ((l.take k).map B8):=by
 have a:=h.upto hk
 rwa [ac5,<-ahr] at a
def aZ (x:Int):ajh:= .int .i64 x
theorem Mem.Qm {fs':List ajr} (h:Mem W w fs) (n:Nat) (c:List Nat) (o:c.Nodup) (d:(c.all (· <n))=true) (p:Go.Proofs.YtekiimhdnigmcaaGreatDoor.picks fs c++fs.drop n=fs'):Mem W w fs':=by
 subst p
 refine ⟨h.below,λf a=>?_,agy.2 ⟨ME h.apart o,?_,?_⟩⟩
 ·rcases acg.1 a with a|a
  ·obtain ⟨j,_,e⟩:=afJ.1 a
   exact h.holds f (abK e)
  ·exact h.holds f (abQ a)
 ·exact h.apart.sublist (List.drop_sublist _ _)
 ·intro f a g q
  obtain ⟨j,e,k⟩:=afJ.1 a
  have r:j<n:=by simpa using ace.1 d j e
  obtain ⟨i,hi,b⟩:=acn q
  rw [List.getElem_drop] at b
  rw [abE] at hi
  obtain ⟨l,m⟩:=abF.1 k
  have:=acF.1 h.apart j (n+i) l om om
  rwa [m,b] at this
section
open Go.MapKept
section
variable {P:aji} {Q:ajp->Act->ajg->Prop} {a:Act} {W w:ajg} {n d:Nat} {D:List ajo} {σ:List (Nat×ajh)} {o:ajm} {K:Act->ajg->Prop} {fs:List ajr} {S:ajg->Prop}
theorem Mem.jI (h:Mem W w fs) {i g:Nat} {b:Obj} (hi:fs[i]?=some (.obj g b)):w.heap[g]?=some b:=(h.holds _ (abK hi)).2
theorem Mem.setObj (h:Mem W w fs) {i g:Nat} {q:Obj} (hi:fs[i]?=some (.obj g q)) (c:Obj):Mem W {w with heap:=w.heap.setIfInBounds g c} (fs.set i (.obj g c)):=by
 have f:=h.holds _ (abK hi)
 have j:=AB f.2
 have b:∀k,k≠g->(w.heap.setIfInBounds g c)[k]?=w.heap[k]?:=λk l=>Array.getElem?_setIfInBounds_ne (Ne.symm l)
 refine h.turn hi ⟨h.below.os,h.below.tape,h.below.output,by simpa using h.below.size,λk l=>?_⟩ (λk _ m=>b k (λe=>m (by rw [e];rfl))) ⟨f.1,?_⟩ (λr p=> .inl p)
 ·have:=f.1
  exact (b k om).trans (h.below.block k l)
 ·show (w.heap.setIfInBounds g c)[g]?=some c
  rw [Array.getElem?_setIfInBounds_self]
  simp [j]
def q46 (Z:Fr a n D σ) (h:Mem W w fs) {t:ajj} (b:o.op= .makeMap t none) (i:o.dst=some d) (c:d<n)
  (k:∀e f g,Fr e n D ((d,.map (some g))::σ)->Mem W f (.obj g (.map #[] 0)::fs)->K e f):o.wp P a w K Q:=by
 have e1:(execOp a.eval o).run P w= .ok (.value (.map (some w.heap.size))) (w.alloc (.map #[] 0)):=by
  unfold execOp
  simp only [b,abJ]
  rfl
 unfold acW
 rw [e1,acy,i]
 exact k _ _ _ (Z.put c _) (h.ny _)
def XV (Z:Fr a n D σ) (e:Mem W w fs) {t kt et:ajj} {kd:TypeDesc} {m x y:ajl} {i g clock:Nat} {es:Array MapEntry} {key val:ajh} (b:o.op= .mapUpdate t m x y\/o.op= .insert t m x y) (j:o.dst=none) (ht:P.underlying t=some (.map kt et)) (hk:P.underlying kt=some kd)
  (hm:look σ m=some (.map (some g))) (l:look σ x=some key) (hy:look σ y=some val) (hi:fs[i]?=some (.obj g (.map es clock))) (c:IsKey kd key) (p:Instr.findNow kd key es.toList 0=some none)
  (k:∀f,Mem W f (fs.set i (.obj g (.map (es.push {key,val,born:=clock}) (clock+1))))->K a f):o.wp P a w K Q:=by
 have h:=e.jI hi
 have e1:(agV t (.map (some g)) key val).run P w= .ok () {w with heap:=w.heap.setIfInBounds g (.map (es.push {key,val,born:=clock}) (clock+1))}:=by
  unfold agV
  simp only [abJ,run_underlying ht,abD,aeD h,run_checkKey hk c,run_findKey hk p,MapKept.run_setObj_map _ h]
 unfold acW execOp
 rcases b with b|b<;>simp only [b,Z.eval hm,Z.eval l,Z.eval hy,abJ,e1,abD,abR,aeU,j]
 ·exact k _ (e.setObj hi _)
 ·exact k _ (e.setObj hi _)
def aaQ {kt et:ajj} {kd:TypeDesc} {m:ajl} {clock j:Nat} {es:Array MapEntry} {key v:ajh} (c:o.op= .lookup t m x false) (ht:P.underlying t=some (.map kt et)) (hk:P.underlying kt=some kd) (hm:look σ m=some (.map (some g))) (e:look σ x=some key) (hb:∀w,S w->w.heap[g]?=some (.map es clock)) (b:IsKey kd key) (f:ahh kd key es.toList 0=some (some (j,v))):
  Yl P S σ o v:=λa n D Z w h=>by
 have e1:(afg t (.map (some g)) key false).run P w= .ok v w:=by
  unfold afg
  simp only [abJ,run_underlying ht,abD,aeD (hb w h),abR,run_checkKey hk b,run_findKey hk f]
  rfl
 unfold execOp
 simp only [c,Z.eval hm,Z.eval e,abJ,e1,abD,abR]
def abj {kt et:ajj} {kd:TypeDesc} {m:ajl} {clock:Nat} {es:Array MapEntry} {key:ajh} (c:o.op= .lookup t m x false) (ht:P.underlying t=some (.map kt et)) (hk:P.underlying kt=some kd) (hm:look σ m=some (.map (some g))) (f:look σ x=some key) (hb:∀w,S w->w.heap[g]?=some (.map es clock)) (b:IsKey kd key) (h:ahh kd key es.toList 0=some none) (hz:(P.info? et).bind (·.zero)=some z):
  Yl P S σ o z:=λa n D Z w i=>by
 obtain ⟨j,hi,e⟩:=ado.1 hz
 have e1:(afg t (.map (some g)) key false).run P w= .ok z w:=by
  unfold afg
  simp only [abJ,run_underlying ht,abD,aeD (hb w i),abR,run_checkKey hk b,run_findKey hk h,zeroValue,typeInfo,program,afy,hi,e]
  rfl
 unfold execOp
 simp only [c,Z.eval hm,Z.eval f,abJ,e1,abD,abR]
def Yl.makeFunc {fn:Fn} {xs ys:Array ajl} {fst:List ajh} (b:o.op= .makeFunc fn xs ys) (c:looks σ xs.toList=some fst) (hy:looks σ ys.toList=some caps):Yl P S σ o (.func fn fst.toArray caps.toArray):=λa n D Z w e=>by
 have e1:xs.map a.eval=fst.toArray:=by
  have:=AP Z c
  rw [<-this,<-adq,acR]
 have e2:ys.map a.eval=caps.toArray:=by
  have:=AP Z hy
  rw [<-this,<-adq,acR]
 unfold execOp
 simp only [b,Instr.makeFunc,abJ,abR,abD]
 show Result.ok (Next.value (.func fn (adB a.eval xs) (adB a.eval ys))) w=_
 rw [e1,e2]
def zl (Z:Fr a n D σ) {fo:ajl} {f:FuncId} {xs:Array ajl} {ts:Array ajj} {vs fst caps:List ajh} {R:ajk->ajg->Prop} (c:o.op= .call {callee:= .value fo,args:=xs,argTypes:=ts}) (g:look σ fo=some (.func (.func f) fst.toArray caps.toArray)) (j:looks σ xs.toList=some vs) (l:callable P f=true) (m:o.dst=some d) (h:d<n)
  (p:Calls P f (fst++vs++caps).toArray w R) (k:∀e b,R e b->∃v,e= .returned v/\∀i,Fr i n D ((d,v)::σ)->K i b):o.wp P a w K Q:=by
 have e1:xs.map a.eval=vs.toArray:=by
  have:=AP Z j
  rw [<-this,<-adq,acR]
 unfold acW execOp
 simp only [c,resolve,Z.eval g,adI,invoke,abJ,abR,abD]
 have e3:fst.toArray++adB a.eval xs++caps.toArray=(fst++vs++caps).toArray:=by simp [e1]
 show af9 P o a K Q (((callFunc f (fst.toArray++adB a.eval xs++caps.toArray)).run P w))
 rw [e3,EL l,afQ]
 refine p.mono λe b q=>?_
 obtain ⟨v,rfl,r⟩:=k e b q
 show K (a.put o.dst v) b
 rw [m]
 exact r _ (Z.put h v)
end
end
def kU:acB->Nat
 | .i8=>127| .i16=>32767| .i32=>2147483647| .i64=>9223372036854775807
 | .u8=>255| .u16=>65535| .u32=>4294967295| .u64=>18446744073709551615
theorem yE (k:acB) {m:Nat} (h:m<=kU k):adr k (m:Int)=(m:Int):=by
 cases k<;>simp only [kU] at h
 ·exact IntWalk.i8_in _ om
 ·exact IntWalk.i16_in _ om
 ·exact IntWalk.i32_in _ om
 ·exact agR _ om
 ·exact IntWalk.u8_in _ om
 ·exact IntWalk.u16_in _ om
 ·exact IntWalk.u32_in _ om
 ·exact IntWalk.u64_in _ om
def q7 {x:Int} (h:x=(m:Int)) (hb:m<=9223372036854775807):abT .i64 (Go.IntKind.i64.wrap x)= .int .i64 (m:Int):=by subst h;rw [yE .i64 hb]
def yF {x:Int} (h:x=(m:Int)) (hb:m<=18446744073709551615):abT .u64 (Go.IntKind.u64.wrap x)= .int .u64 (m:Int):=by subst h;rw [yE .u64 hb]
def Cv {x:Int} (h:x=(m:Int)) (hb:m<=4294967295):abT .u32 (Go.IntKind.u32.wrap x)= .int .u32 (m:Int):=by subst h;rw [yE .u32 hb]
def XY {x:Int} (h:x=(m:Int)) (hb:m<=255):abT .u8 (Go.IntKind.u8.wrap x)= .int .u8 (m:Int):=by subst h;rw [yE .u8 hb]
def EM (m:Nat):abT .u8 (Go.IntKind.u8.wrap (m:Int))= .int .u8 ((m%256:Nat):Int):=by
 rw [Go.IntKind.wrap_u8];simp
def XZ (m:Nat):abT .u32 (Go.IntKind.u32.wrap (m:Int))= .int .u32 ((m%4294967296:Nat):Int):=by
 rw [Go.IntKind.wrap_u32];simp
def zi (k:acB) (m n:Nat):abT k (Int.tmod (m:Int) (n:Int))= .int k ((m%n:Nat):Int):=by rw [Int.tmod_eq_emod_of_nonneg om];rfl
def X0 (k:acB) {m:Nat} (n:Nat) (h:m<=kU k):abT k (adr k (Int.tdiv (m:Int) (n:Int)))= .int k ((m/n:Nat):Int):=by
 rw [Int.tdiv_eq_ediv_of_nonneg om,show ((m:Int)/ (n:Int))=((m/n:Nat):Int) from rfl,yE k (adg (ae7 _ _) h)]
theorem vo (k:acB) (m:Nat) {j:Nat} {p:Int} {q:Nat} (a:p=(j:Int)) (b:2^ (min p.toNat k.bits)=q):abT k (Int.fdiv (m:Int) (2^ (min p.toNat k.bits)))= .int k ((m/q:Nat):Int):=by grind
theorem Qn (w:Nat) {m:Nat} (h:m<2^w):(abY w (m:Int)).toNat=m:=by grind
theorem zj3 (k:acB) {m n:Nat} (hm:m<2^k.bits) (a:n<2^k.bits) (hr:m&&&n<=kU k):abT k (adr k (abY k.bits (m:Int)&&&abY k.bits (n:Int)).toNat)= .int k ((m&&&n:Nat):Int):=by grind [Qn,yE]
theorem Qo (k:acB) {m n:Nat} (hm:m<2^k.bits) (a:n<2^k.bits) (hr:m|||n<=kU k):abT k (adr k (abY k.bits (m:Int)|||abY k.bits (n:Int)).toNat)= .int k ((m|||n:Nat):Int):=by grind [Qn,yE]
theorem X3 (k:acB) {m n:Nat} (hm:m<2^k.bits) (a:n<2^k.bits) (hr:m^^^n<=kU k):abT k (adr k (abY k.bits (m:Int)^^^abY k.bits (n:Int)).toNat)= .int k ((m^^^n:Nat):Int):=by grind [Qn,yE]
def X4 (k:acB) {m j n:Nat} (b:n=2^j-1) (c:2^j-1<=kU k) (hm:m<2^k.bits) (a:n<2^k.bits):abT k (adr k (abY k.bits (m:Int)&&&abY k.bits (n:Int)).toNat)= .int k ((m%2^j:Nat):Int):=by
 subst b
 have h:=Nat.and_two_pow_sub_one_eq_mod m j
 rw [zj3 k hm a (by rw [h];have:=adJ m (ahi j);omega),h]
def zon {m n:Nat} (hm:m<256) (a:n<256):abT .u8 (Go.IntKind.u8.wrap (abY Go.IntKind.u8.bits (m:Int)^^^abY Go.IntKind.u8.bits (n:Int)).toNat)= .int .u8 ((m^^^n:Nat):Int):=
 X3 .u8 (by show m<256;omega) (by show n<256;omega) (by have h:m^^^n<256:=afT (n:=8) (by simpa using hm) (by simpa using a);show _<=255;omega)
def X5 {m n:Nat} (hm:m<4294967296) (a:n<4294967296):abT .u32 (Go.IntKind.u32.wrap (abY Go.IntKind.u32.bits (m:Int)|||abY Go.IntKind.u32.bits (n:Int)).toNat)= .int .u32 ((m|||n:Nat):Int):=
 Qo .u32 (by show m<4294967296;omega) (by show n<4294967296;omega) (by have h:m|||n<4294967296:=afx (n:=32) (by simpa using hm) (by simpa using a);show _<=4294967295;omega)
def MS {m n:Nat} (hm:m<4294967296) (a:n<4294967296):abT .u32 (Go.IntKind.u32.wrap (abY Go.IntKind.u32.bits (m:Int)^^^abY Go.IntKind.u32.bits (n:Int)).toNat)= .int .u32 ((m^^^n:Nat):Int):=
 X3 .u32 (by show m<4294967296;omega) (by show n<4294967296;omega) (by have h:m^^^n<4294967296:=afT (n:=32) (by simpa using hm) (by simpa using a);show _<=4294967295;omega)
def Qp {j:Nat} (a:n=2^j-1) (b:n<4294967296) (hm:m<4294967296):abT .u32 (Go.IntKind.u32.wrap (abY Go.IntKind.u32.bits (m:Int)&&&abY Go.IntKind.u32.bits (n:Int)).toNat)= .int .u32 ((m%2^j:Nat):Int):=
 X4 .u32 a (by rw [<-a];show n<=4294967295;omega) (by show m<4294967296;omega) (by show n<4294967296;omega)
def X6 {m n:Nat} (hm:m<18446744073709551616) (a:n<18446744073709551616):abT .u64 (Go.IntKind.u64.wrap (abY Go.IntKind.u64.bits (m:Int)|||abY Go.IntKind.u64.bits (n:Int)).toNat)= .int .u64 ((m|||n:Nat):Int):=
 Qo .u64 (by show m<18446744073709551616;omega) (by show n<18446744073709551616;omega) (by have h:m|||n<18446744073709551616:=afx (n:=64) (by simpa using hm) (by simpa using a);show _<=18446744073709551615;omega)
def MU {j:Nat} (a:n=2^j-1) (b:n<18446744073709551616) (hm:m<18446744073709551616):abT .u64 (Go.IntKind.u64.wrap (abY Go.IntKind.u64.bits (m:Int)&&&abY Go.IntKind.u64.bits (n:Int)).toNat)= .int .u64 ((m%2^j:Nat):Int):=
 X4 .u64 a (by rw [<-a];show n<=18446744073709551615;omega) (by show m<18446744073709551616;omega) (by show n<18446744073709551616;omega)
def zoo {m n:Nat} (hm:m<9223372036854775808) (a:n<9223372036854775808):abT .i64 (Go.IntKind.i64.wrap (abY Go.IntKind.i64.bits (m:Int)|||abY Go.IntKind.i64.bits (n:Int)).toNat)= .int .i64 ((m|||n:Nat):Int):=
 Qo .i64 (by show m<18446744073709551616;omega) (by show n<18446744073709551616;omega) (by have h:m|||n<9223372036854775808:=afx (n:=63) (by simpa using hm) (by simpa using a);show _<=9223372036854775807;omega)
theorem getD_at {α:Type} {l:List α} {k:Nat} (d:α) (h:k<abr l):l[k]?=some (l.getD k d):=by
 rw [abw,abv h];rfl
theorem qf {α:Type} {l:List α} {k:Nat} (d:α) (h:k<abr l):l.getD k d∈l:=abK (getD_at d h)
def getD_lt (a:∀b∈l,b<m) {k:Nat} (h:k<abr l):l.getD k 0<m:=a _ (qf 0 h)
def ziu (P:aji) (t:ajj):Option Nat:=match P.underlying t with
 |some (.array n e)=>if gP P e=true/\(P.info? e).map (·.size)=some 1 then some n else none
 |_=>none
def Yl.zjr {S:ajg->Prop} {σ:List (Nat×ajh)} {ix:ajl} {y:Nat} {v:ajh} (c:o.op= .index t x ix) (h:look σ x=some (.agg C)) (hi:look σ ix=some (.int k (y:Int))) (b:ziu P t=some m) (hy:y<m) (j:C[y]?=some v):Yl P S σ o v:=λa n D Z w p=>by
 unfold ziu at b
 split at b
 ·rename_i q e l
  split at b
  ·rename_i d
   obtain ⟨d,f⟩:=d
   obtain ⟨i,g,f⟩:=adv.1 f
   injection b with b
   subst b
   unfold execOp
   simp [c,Z.eval h,Z.eval hi,Instr.index,asIntOf,run_underlying l,hy,sizeOf,typeInfo,g,f,part,Gn d,j]
  ·cases b
 ·cases b
section
open Go.MapKept
section
variable {P:aji} {Q:ajp->Act->ajg->Prop} {a:Act} {W w:ajg} {n d:Nat} {D:List ajo} {σ:List (Nat×ajh)} {o:ajm} {K:Act->ajg->Prop} {fs:List ajr} {S:ajg->Prop}
end
end
section
variable {W w w':ajg} {fs gs fs':List ajr}
theorem Mem.perm (h:Mem W w fs) (c:fs.Perm fs'):Mem W w fs':=
 ⟨h.below,λf d=>h.holds f (c.mem_iff.2 d),(c.pairwise_iff (λ{_ _} b=>b.symm)).1 h.apart⟩
theorem Mem.mJ (h:Mem W w fs) (hs:fs'.Sublist fs):Mem W w fs':=
 ⟨h.below,λf b=>h.holds f (hs.subset b),h.apart.sublist hs⟩
theorem ajr.holds.base {b:Nat} {f:ajr} (h:f.holds b w) (hb:c<=b):f.holds c w:=by
 cases f with
 |blk g d t=>exact ⟨adg hb h.1,h.2⟩
 |obj g o=>exact ⟨adg hb h.1,h.2⟩
 |row v n xs e size=>exact PX h hb
theorem Mem.join (h:Mem W w fs) (k:Mem w w' gs):Mem W w' (gs++fs):=by
 have e:=h.call k.below
 refine ⟨e.below,?_,?_⟩
 ·intro f hm
  rcases acg.1 hm with hm|hm
  ·exact (k.holds f hm).base h.size
  ·exact e.holds f hm
 ·refine agy.2 ⟨k.apart,h.apart,?_⟩
  intro f b g c x i d
  have j:=((k.holds f b).lt i).1
  have l:=((h.holds g c).lt d).2
  omega
theorem Mem.kE {e:ajj} {size:Nat} (h:Mem W w fs) (b:ajr.row (.slice A n c) n xs e size∈fs):Rd w w.heap.size size A n xs:=by
 obtain ⟨i,hi⟩:=agt.1 b
 exact h.rd hi
theorem Mem.dX {W w:ajg} {fs:List ajr} (h:Mem W w fs) {i g:Nat} {C ds:Array ajh} {t:ajj} (hi:fs[i]?=some (.blk g C t)) (b:C=ds):Mem W w (fs.set i (.blk g ds t)):=by grind [abF,ad4]
structure Own where
 A:ajq
 n:Nat
 c:Nat
 xs:List ajh
def abb (e:ajj) (size:Nat) (p:Own):ajr:= .row (.slice p.A p.n p.c) p.n p.xs e size
def jC (e:ajj) (size:Nat) (ps:List Own):List ajr:=ps.map (abb e size)
theorem Mem.zq2 {e:ajj} {size:Nat} {ps:List Own} (h:Mem W w (.row (.slice A n c) n xs e size::(fs++jC e size ps))):Mem W w (fs++jC e size (ps++[⟨A,n,c,xs⟩])):=by
 refine h.perm ?_
 unfold jC
 rw [abW,<-aby]
 exact (List.perm_append_singleton _ _).symm
theorem Mem.pq (h:Mem W w fs) (e:ajj) (size:Nat):Mem W w (fs++jC e size []):=by unfold jC;simpa using h
end
section
variable {P:aji} {ops:Array ajm} {Q:ajp->Act->ajg->Prop} {a:Act} {w:ajg}
end
section
variable {P:aji} {ops:Array ajm} {Q:ajp->Act->ajg->Prop} {a:Act} {W w:ajg} {l n N i d:Nat} {D:List ajo} {σ σ':List (Nat×ajh)} {K:Act->ajg->Prop} {fs:List ajr} {o:ajm}
def Qs (f:¬LetsOut Q):∀(e:List ajm),(∀o∈e,∀c,o.op≠ .defer c)->∀a w,wpList P ops Q e a w->wpListIn (Fence.wide.inRound l) 0 P ops Q e a w
 |[],_,_,_,h=>h
 | o :: e, b, a, w, h => by
  unfold wpList at h
  unfold wpListIn
  split at h
  ·rename_i g
   rw [if_pos g]
   exact XC (b o aci) f (λa w h=>Qs f e (λo j=>b o (ab5 _ j)) a w h) h
  ·rename_i g
   rw [if_neg g]
   exact ⟨λ_ _=>trivial,Qs f e (λo j=>b o (ab5 _ j)) _ _ h⟩
def qk {id:Nat} (h:qi P ops Q 0 a w) (b:MB ops=true:=by kernel_rfl) (c:¬LetsOut Q:=by intro ⟨_,_,h⟩;exact h):(aek id ops false).wpIn (Fence.wide.inRound l) 0 P Q a w:=
 wpIn_region_list (Qs c _ (λo e=>by
  obtain ⟨j,f⟩:=agt.1 e
  exact XB b (i:=j) (by simpa using f)) a w (by simpa [qi] using h))
def Ye {id:Nat} (e:Mem W w fs) (fs':List ajr) (m:Nat) (b f:List Nat) (h:Mem W w.drew fs->Mem W w.drew fs'->ql P .any ops Q (λg=>Mem W g fs') f ops.size (Array.replicate ops.size false) a w.drew)
  (hm:P.follows .mixedOrders=true:=by kernel_rfl) (j:b.Nodup:=by decide) (c:(b.all (· <m))=true:=by decide) (k:picks fs b++fs.drop m=fs':=by rfl) (p:MB ops=true:=by kernel_rfl) (q:¬LetsOut Q:=by intro ⟨_,_,h⟩;exact h):(aek id ops true).wpIn (Fence.wide.inRound l) 0 P Q a w:=
 wpIn_region_any hm (MC p q _ _ _ _ (MJ _ _ _ _ (h e.drew (e.drew.Qm m b j c k))))
def Cw {F:Fence} {c:ajl} {x y:Code} (Z:Fr a n D σ) (hc:look σ c=some (.bool true)) (h:x.wpIn F 0 P Q a w):(aga c x y).wpIn F 0 P Q a w:=wpIn_cond_true (Z.eval hc) h
def Cx {F:Fence} {c:ajl} {x y:Code} (Z:Fr a n D σ) (hc:look σ c=some (.bool false)) (h:y.wpIn F 0 P Q a w):(aga c x y).wpIn F 0 P Q a w:=wpIn_cond_false (Z.eval hc) h
def q5d {F:Fence} {x y:Code} (R:Act->ajg->Prop) (h:x.wpIn F 0 P (Exit.then R Q) a w) (k:∀a w,R a w->y.wpIn F 0 P Q a w):(Code.seq x y).wpIn F 0 P Q a w:=
 wpIn_seq (wpIn_mono h (λe a w b=>by cases e<;>first|exact k _ _ b|exact b))
def qc4 (fn:FuncId) (tmps:Array ajh) (ps:Array Tmp) (assign body:Code) (D:Nat) (st:LoopState) (b:Option Code):Loop:={state:=st,pending:=b,fn,tmps,params:=ps,assign,body,defers:=D}
abbrev ah5:=λa b=>(.obj a (.loop b):ajr)
def roundEnd (W:ajg) (l:Nat) (b:LoopState->Option Code->Loop) (R:ajk->ajg->Prop):ajp->Act->ajg->Prop
 | .normal,_,w=>∃F,Mem W w (ah5 l (b .busy none)::F)/\∀c,Mem W c (ah5 l (b .ready none)::F)->R (.returned (.bool true)) c
 | .ret,_,w=>∃F,Mem W w (ah5 l (b .busy none)::F)/\∀c,Mem W c (ah5 l (b .done (some .ret))::F)->R (.returned (.bool false)) c
 | .exit id,_,w=>∃F,Mem W w (ah5 l (b .busy none)::F)/\∀c,Mem W c (ah5 l (b .done (some (.exit id)))::F)->R (.returned (.bool false)) c
 |_,_,_=>False
def Yf {fn:FuncId} {ps:Array Tmp} {assign body:Code} {args:Array ajh} (u:Mem W w (.obj l (.loop (qc4 fn tmps ps assign body B .ready none))::F)) (hs:args.size=ps.size)
  (h : assign.wpIn (Fence.wide.inRound l) 0 P (Exit.then (λm q => ∃ j, Mem W q (.obj l (.loop (qc4 fn tmps ps assign body B .ready none)) :: j) /\ ∀ k, Mem W k (.obj l (.loop (qc4 fn tmps ps assign body B .busy none)) :: j) -> body.wpIn (Fence.wide.inRound l) 0 P (roundEnd W l (qc4 fn tmps ps assign body B) R) m k) (λ_ _ _ => False))
   {tmps:=(ps.zip args).foldl (λt (p,v)=>t.setIfInBounds p v) tmps,defers:=[]} w):YieldAt acf 0 P l args w R:=by
 have x:=u.jI (i:=0) rfl
 refine ⟨fn,_,assign,body,run_yield x hs,roundIn_of_wpIn trivial (wpIn_mono h ?_)⟩
 rintro e m q b
 cases e with
 | normal =>
  obtain ⟨j,r,y⟩:=b
  refine ⟨_,run_beginRound (r.jI (i:=0) rfl) rfl,?_⟩
  refine wpIn_mono (y _ (r.setObj (i:=0) rfl _)) ?_
  rintro e z k b
  cases e with
  |normal=>
   obtain ⟨s,f,g⟩:=b
   exact ⟨_,_,run_endRound none (f.jI (i:=0) rfl),g _ (f.setObj (i:=0) rfl _)⟩
  |ret=>
   obtain ⟨s,f,g⟩:=b
   exact ⟨_,_,run_endRound (some .ret) (f.jI (i:=0) rfl),g _ (f.setObj (i:=0) rfl _)⟩
  |exit id=>
   obtain ⟨s,f,g⟩:=b
   exact ⟨_,_,run_endRound (some (.exit id)) (f.jI (i:=0) rfl),g _ (f.setObj (i:=0) rfl _)⟩
  |goto t=>exact b.elim
  |panic c=>exact b.elim
  |outgrown=>exact b.elim
 |exit id=>exact b.elim
 |goto t=>exact b.elim
 |ret=>exact b.elim
 |panic c=>exact b.elim
 |outgrown=>exact b.elim
def Fr.Qt {p2:Nat} {v1 v2:ajh} (h:Fr {tmps:=tmps,defers:=[]} n D σ) (h1:c<n) (b:p2<n):Fr {tmps:=(#[c,p2].zip #[v1,v2]).foldl (λt (p,v)=>t.setIfInBounds p v) tmps,defers:=[]} n D ((p2,v2)::(c,v1)::σ):=by
 have e:=(h.put h1 v1).put b v2
 simpa [Act.put] using e
def EO {b:LoopState->Option Code->Loop} {assign body:Code} {v1:ajh} (f:∃fn e,b=qc4 fn e #[c,m] assign body B/\Fr {tmps:=e,defers:=[]} n [] σ) (k:Mem W w (.obj l (.loop (b .ready none))::F)) (h1:c<n) (p:m<n)
  (h:∀a,Fr a n [] ((m,v2)::(c,v1)::σ)->assign.wpIn (Fence.wide.inRound l) 0 P (Exit.then (λq r=>∃g,Mem W r (.obj l (.loop (b .ready none))::g)/\∀j,Mem W j (.obj l (.loop (b .busy none))::g)->body.wpIn (Fence.wide.inRound l) 0 P (roundEnd W l b R) q j) (λ_ _ _=>False)) a w):YieldAt acf 0 P l #[v1,v2] w R:=by
 obtain ⟨fn,e,rfl,Z⟩:=f
 exact Yf k rfl (h _ (Z.Qt h1 p))
def Qu {a:Act} {w:ajg} {K K':Act->ajg->Prop} (m:¬LetsOut Q) (b:∀a w,K a w->K' a w) (h:o.wp P a w K Q\/(o.asks P a w/\LetsOut Q)):o.wpIn acf 0 P a w K' Q:=by
 rcases h with h|h
 ·refine ⟨λ_ _=>trivial,?_⟩
  rw [show Fence.wide.round=none from rfl,ag7]
  unfold acW at h
  generalize (execOp a.eval o).run P w=r at h
  cases r with
  | ok x j =>
   cases x with
   |value v=>exact b _ _ h
   |skip=>exact b _ _ h
   |defer d=>exact b _ _ h
   |enter f args=>
    refine ⟨λh=>by simp [acf] at h,?_⟩
    show CallsIn acf 0 P f args j _
    refine (callsIn_wide.2 h).mono ?_
    intro e g k
    cases e with
    |returned v=>exact b _ _ k
    |panicked c=>exact k
    |outgrown=>exact k
   |row r args=>
    refine ⟨λh=>by simp [acf] at h,λc p _=>?_⟩
    obtain ⟨v,g,q,s⟩:=(h:Rows P r args j _) c p
    exact ⟨v,g,b _ _ q,stepsIn_wide.2 s⟩
   |_=>exact (h:False).elim
  |halt t j=>
   cases t with
   |panic v=>exact h
   |_=>exact (h:False).elim
 ·exact absurd h.2 m
def Qv (c:¬LetsOut Q):∀(b:List ajm) (a:Act) (w:ajg),wpList P ops Q b a w->wpListIn acf 0 P ops Q b a w
 |[],_,_,h=>h
 | o :: b, a, w, h => by
  unfold wpList at h
  unfold wpListIn
  split at h
  ·rename_i e
   rw [if_pos e]
   exact Qu c (λa w h=>Qv c b a w h) h
  ·rename_i e
   rw [if_neg e]
   exact ⟨λ_ _=>trivial,Qv c b _ _ h⟩
def Yg {pre:Array ajm} (p:¬LetsOut Q) (K:Act->ajg->Prop) (b:List ajm) (q:∀a w,K a w->wpListIn acf 0 P ops Q b a w):∀(k:List ajm),(∀o∈k,o.guard=none)->∀a w,wpList P pre (Exit.then K Q) k a w->wpListIn acf 0 P ops Q (k++b) a w
 |[],_,a,w,h=>q a w h
 | o :: k, s, a, w, h => by
  have t:∀x,ac4 o x=true:=λx=>by unfold ac4;rw [s o aci]
  unfold wpList at h
  rw [if_pos (t _)] at h
  show if ac4 o (yielded ops a.tmps)=true then _ else _
  rw [if_pos (t _)]
  have u:=Qu (Q:=Exit.then K Q) (K':=wpListIn acf 0 P ops Q (k++b)) (λ⟨a,w,h⟩=>p ⟨a,w,h⟩) (λa w h=>Yg p K b q k (λo z=>s o (ab5 _ z)) a w h) h
  refine ⟨u.1,?_⟩
  have g:=u.2
  generalize (o.semAt Fence.wide.round a.eval).run P w=r at g
  cases r with
  | ok x A =>
   cases x with
   |enter f args=>
    refine ⟨g.1,g.2.mono ?_⟩
    intro e m j
    cases e with
    |returned v=>exact j
    |panicked c=>exact j
    |outgrown=>exact j
   |round l f y assign body=>
    refine ⟨g.1,g.2.mono ?_⟩
    intro e m j
    cases e with
    |returned v=>exact j
    |panicked c=>exact j
    |outgrown=>exact j
   |_=>exact g
  |halt B A=>
   cases B with
   |panic v=>exact g
   |_=>exact g
def Gv {id i:Nat} (h:qi P (ops.toList.take i).toArray (Exit.then (λa w=>∃o,ops[i]?=some o/\o.guard=none/\o.wpIn Fence.wide 0 P a w (wpListIn Fence.wide 0 P ops Q (ops.toList.drop (i+1))) Q) Q) 0 a w) (c:((ops.toList.take i).all λo=>o.guard.isNone)=true:=by kernel_rfl) (e:¬LetsOut Q:=by intro ⟨_,_,h⟩;obtain ⟨_,h,_⟩:=h;cases h):(aek id ops false).wp P Q a w:=by
 refine wpIn_wide.1 (wpIn_region_list (n:=0) ?_)
 have f:wpList P (ops.toList.take i).toArray (Exit.then (λa w=>∃o,ops[i]?=some o/\o.guard=none/\o.wpIn acf 0 P a w (wpListIn acf 0 P ops Q (ops.toList.drop (i+1))) Q) Q) (ops.toList.take i) a w:=by simpa [qi] using h
 have g:=Yg (ops:=ops) e _ (ops.toList.drop i) (λa w ⟨o,b,j,h⟩=>by
  obtain ⟨k,m⟩:=ac0.1 b
  rw [acv (by simpa using k),aeg,m]
  unfold wpListIn
  rw [if_pos (by unfold ac4;rw [j])]
  exact h) (ops.toList.take i) (λo b=>by
  have:=ace.1 c o b
  simpa using this) a w f
 rwa [ab1] at g
def aao {r:ajr} {es:List ajr} (h:Mem W w (r::(es++F))):Mem W w (r::(F++es)):=h.perm (List.Perm.cons _ acG)
def aag {es:List ajr} (h:Mem W w (F++es)):Mem W w (es++F):=h.perm acG
def aam (es:List ajr) {F:List ajr} (h:Mem W w (es++F)):Mem W w F:=h.mJ (List.sublist_append_right es F)
def vv (Z:Fr a n D σ) {fo:ajl} {xs:Array ajl} {ts:Array ajj} {vs:List ajh} {R:ajk->ajg->Prop} (q:ops[i]?=some o) (r:o.guard=none) (c:o.op= .call {callee:= .value fo,args:=xs,argTypes:=ts}) (f:look σ fo=some (.func (.yield l) #[] #[])) (s:looks σ xs.toList=some vs) (t:o.dst=some d) (g:d<n)
  (hy:YieldAt Fence.wide 0 P l vs.toArray w R) (u:∀e b,R e b->∃v,e= .returned v) (k:∀v b j,R (.returned v) b->Fr j n D ((d,v)::σ)->qi P ops Q (i+1) j b) (x:¬LetsOut Q:=by intro ⟨_,_,h⟩;obtain ⟨_,h,_⟩:=h;cases h):
  ∃o,ops[i]?=some o/\o.guard=none/\o.wpIn acf 0 P a w (wpListIn acf 0 P ops Q (ops.toList.drop (i+1))) Q:=by
 refine ⟨o,q,r,λ_ _=>trivial,?_⟩
 have e1:xs.map a.eval=vs.toArray:=by
  have:=AP Z s
  rw [<-this,<-adq,acR]
 obtain ⟨fn,m,assign,body,y,z⟩:=hy
 rw [show Fence.wide.round=none from rfl,ag7]
 unfold execOp
 simp only [c,resolve,Z.eval f,adI,invoke,abJ,abR,abD]
 have e2:(#[]:Array ajh)++adB a.eval xs++ #[]=vs.toArray:=by simp [e1]
 show Oper.uponIn acf 0 P o a _ Q ((Instr.yield l (#[]++adB a.eval xs++ #[])).run P w)
 rw [e2,y]
 refine ⟨λh=>by simp [acf] at h,z.mono ?_⟩
 intro e b p
 obtain ⟨v,rfl⟩:=u e b p
 show wpListIn acf 0 P ops Q (ops.toList.drop (i+1)) (a.put o.dst v) b
 rw [t]
 exact Qv x _ _ _ (k v b _ p (Z.put g v))
def Cy {g:ajl} {ps:Array Tmp} {assign body:Code} (Z:Fr a n [] σ) (H:Mem W w fs) (J:List ajr->Prop) (X:Code->List ajr->Prop) (I:look σ g=some (.func (.func m) #[] caps.toArray)) (x:callable P m=true)
  (y : ∀ (l B : Nat) (b : LoopState -> Option Code -> Loop) (E : ajg), (∃ fn k, b = qc4 fn k ps assign body B /\ Fr { tmps := k, defers := [] } n [] σ) -> Mem W E (.obj l (.loop (b .ready none)) :: .obj B (.deferred (some [])) :: fs) ->
   Calls P m (.func (.yield l) #[] #[]::caps).toArray E λr j=>∃v,r= .returned v/\((∃F,J F/\Mem W j (.obj l (.loop (b .ready none)):: .obj B (.deferred (some []))::F))\/∃c F,X c F/\Mem W j (.obj l (.loop (b .done (some c))):: .obj B (.deferred (some []))::F)))
  (p:∀(B:Nat) (s:Act) (j:ajg) (F:List ajr),J F->Fr s n [{target:= .collected B,args:= #[]}] σ->Mem W j (.obj B (.deferred (some []))::F)->Q .normal s j)
  (q:∀(c:Code) (B:Nat) (s:Act) (j:ajg) (F:List ajr),X c F->Fr s n [{target:= .collected B,args:= #[]}] σ->Mem W j (.obj B (.deferred (some []))::F)->c.wp P Q s j):
  (Code.rangeFunc g ps assign body).wp P Q a w:=by
 refine (wpIn_wide (n:=0)).1 (wpIn_rangeFunc ?_)
 intro fn _
 show ∃l mark w₁ d w₁' f args w₂,(agW fn a.tmps ps assign body none).run P w= .ok (l,mark) w₁/\_
 have z:=(H.ny (.deferred (some []))).ny (.loop (qc4 fn a.tmps ps assign body w.heap.size .ready none))
 rw [World.size_alloc] at z
 have A:Fr {tmps:=a.tmps,defers:=[]} n [] σ:=⟨Z.size,rfl,Z.slot⟩
 have t:Fr {a with defers:={target:= .collected w.heap.size,args:= #[]}::a.defers} n [{target:= .collected w.heap.size,args:= #[]}] σ:=⟨Z.size,by show _::a.defers=_;rw [Z.defers],Z.slot⟩
 have G:(agW fn a.tmps ps assign body none).run P w= .ok (w.heap.size+1,[{target:= .collected w.heap.size,args:= #[]}]) ((w.alloc (.deferred (some []))).alloc (.loop (qc4 fn a.tmps ps assign body w.heap.size .ready none))):=run_enterLoop_outer _ _ _ _ _
 generalize (w.alloc (.deferred (some []))).alloc (.loop (qc4 fn a.tmps ps assign body w.heap.size .ready none))=W1 at z G
 refine ⟨w.heap.size+1,[{target:= .collected w.heap.size,args:= #[]}],W1,{target:= .fn (.func m) caps.toArray,args:= #[.func (.yield (w.heap.size+1)) #[] #[]]},W1,m,#[.func (.yield (w.heap.size+1)) #[] #[]]++caps.toArray,W1,G,?_,λ_ _=>trivial,?_,λh=>by simp [acf] at h,?_⟩
 ·simp only [resolve,Z.eval I]
  simp [go_sem]
 ·simp [invoke,go_sem,EL x]
 ·have e:(#[.func (.yield (w.heap.size+1)) #[] #[]]++caps.toArray:Array ajh)=(.func (.yield (w.heap.size+1)) #[] #[]::caps).toArray:=by simp
  rw [e]
  refine callsIn_wide.2 ((y _ _ _ _ ⟨fn,a.tmps,rfl,A⟩ z).mono ?_)
  rintro e j ⟨v,rfl,(⟨F,L,u⟩|⟨c,F,M,u⟩)⟩
  ·have C:=run_endLoop (P:=P) (u.jI (i:=0) rfl) (by simp [qc4])
   exact ⟨none,_,C,p _ _ _ F L t (u.setObj (i:=0) rfl _).tail⟩
  ·have C:=run_endLoop (P:=P) (u.jI (i:=0) rfl) (by simp [qc4])
   exact ⟨some c,_,C,wpIn_wide.2 (q c _ _ _ F M t (u.setObj (i:=0) rfl _).tail)⟩
def vZ (P:aji) (fn:Func) (R:ajk->ajg->Prop):ajp->Act->ajg->Prop
 | .normal,a,w| .ret,a,w=>LeavesInM acf 0 P fn a.tmps R a.defers .returning w
 |_,_,_=>False
def Cz {f N:Nat} {fn:Func} {c:Code} (j:P.funcs[f]?=some fn) (hb:fn.body=some c) (m:fn.ntmps=N) (p:decide (abr vs<=N)=true) {σ0:List (Nat×ajh)} (q:AU 0 vs=σ0)
  (k:∀a,Fr a N [] σ0->c.wp P (vZ P fn R) a w):Calls P f vs.toArray w R:=by
 subst q
 rw [decide_eq_true_eq] at p
 refine (callsIn_wide (n:=0)).1 (callsIn_of_wp_marks j hb trivial (wpIn_wide.2 (ahz (λe a w h=>by cases e<;>first|exact h|exact (h:False).elim) (k _ ⟨by simp [m];omega,rfl,λt v r=>?_⟩))) rfl)
 obtain ⟨_,b⟩:=Gp vs 0 t v r
 rw [ae3] at b
 have g:=(abF.1 b).1
 simp only [acU,ad2,adj,if_pos g]
 simp [b]
section
variable {fn:Func} {R:ajk->ajg->Prop}
def CB (h:bodyPost P fn R .ret a w):vZ P fn R .ret a w:=by
 obtain ⟨b,v,c,e⟩:=h
 show LeavesInM acf 0 P fn a.tmps R a.defers .returning w
 rw [b]
 exact ⟨v,c,e⟩
def yH (Z:Fr a n [{target:= .collected B,args:= #[]}] σ) (b:Mem W w fs) (hi:fs[i]?=some (.obj B (.deferred (some [])))) (h:∀(c:Act) (e:ajg),Fr c n [] σ->Mem W e (fs.set i (.obj B (.deferred none)))->bodyPost P fn R .ret c e):vZ P fn R .ret a w:=by
 obtain ⟨_,v,f,g⟩:=h {tmps:=a.tmps,defers:=[]} _ ⟨Z.size,rfl,Z.slot⟩ (b.setObj hi (.deferred none))
 show LeavesInM acf 0 P fn a.tmps R a.defers .returning w
 rw [Z.defers]
 exact ⟨λh=>(nomatch h),.inl ⟨B,_,rfl,run_takeDeferred (b.jI hi),v,f,g⟩⟩
def zC (hr:fn.results= #[]) (Z:Fr a n [] σ) (b:R (.returned (.tuple #[])) w):bodyPost P fn R .ret a w:=
 bodyPost_ret (v:= .tuple #[]) (by
  rw [Cr,hr]
  simp) Z.defers b
def iD (hr:fn.results= #[]) (Z:Fr a n [] σ) (b:R (.returned (.tuple #[])) w):bodyPost P fn R .normal a w:=zC hr Z b
end
end
section
variable {P:aji} {Q:ajp->Act->ajg->Prop} {a:Act} {W w:ajg} {n d:Nat} {D:List ajo} {σ:List (Nat×ajh)} {o:ajm} {v:ajh} {K:Act->ajg->Prop} {fs:List ajr}
def rW (t:ajj) (k:Int):List PanicEntry:=[{v:= .iface t (.int .i64 k),recovered:=false}]
def lD (W:ajg) (fs:List ajr) (b:List PanicEntry) (r:ajk) (c:ajg):Prop:=r= .panicked b/\Mem W c fs
def pR (Z:Fr a n D σ) (vs:List ajh) {f:FuncId} {xs:Array ajl} {ts:Array ajj} {g:List PanicEntry} (c:o.op= .call {callee:= .value (.func f),args:=xs,argTypes:=ts})
  (h:Calls P f vs.toArray w (lD W fs g)) (k:∀b,Mem W b fs->Q (.panic g) a b) (i:looks σ xs.toList=some vs:=by kernel_rfl) (j:callable P f=true:=by kernel_rfl):o.wp P a w K Q:=by
 have e1:xs.map a.eval=vs.toArray:=by
  have:=AP Z i
  rw [<-this,<-adq,acR]
 unfold acW execOp
 simp only [c,resolve,ahq,adI,invoke,abJ,abR,abD]
 have e3: #[]++adB a.eval xs++ #[]=vs.toArray:=by simp [e1]
 show af9 P o a K Q (((callFunc f (#[]++adB a.eval xs++ #[])).run P w))
 rw [e3,EL j,afQ]
 exact h.mono λe b ⟨l,m⟩=>by subst l;exact k b m
def zmi (Z:Fr a n D σ) {x:ajl} {t:ajj} {u:ajh} (b:o.op= .panic x) (c:look σ x=some (.iface t u)) (k:Q (.panic [{v:= .iface t u,recovered:=false}]) a w):o.wp P a w K Q:=by
 unfold acW execOp
 simp only [b,Z.eval c,abJ]
 exact k
def FK (P:aji) (t:ajj):Bool:=match P.underlying t with
 |some (.interface _)=>false
 |some _=>true
 |none=>false
def Yl.makeInterface {S:ajg->Prop} (b:o.op= .makeInterface t x) (c:look σ x=some v) (ht:FK P t=true:=by kernel_rfl):Yl P S σ o (.iface t v):=λa n D Z w e=>by
 unfold FK at ht
 cases hu:P.underlying t with
 |none=>rw [hu] at ht;cases ht
 |some d=>
  rw [hu] at ht
  unfold execOp
  simp only [b,Z.eval c,Instr.makeInterface,abJ,run_underlying hu,abD]
  cases d<;>first|rfl|cases ht
def isIface (P:aji) (t:ajj):Bool:=match P.underlying t with
 |some (.interface _)=>true
 |_=>false
def qo9 (h:isIface P t=true):∃b,P.underlying t=some (.interface b):=by
 unfold isIface at h
 split at h
 ·rename_i b c;exact ⟨b,c⟩
 ·cases h
def qw9 {t e:ajj} {v:ajh} (ht:isIface P t=true) (w:ajg):(adl t (.iface e v) .nilIface).run P w= .ok false w:=by
 obtain ⟨c,b⟩:=qo9 ht
 have h:∀d,(acZ (d+1) t (.iface e v) .nilIface).run P w= .ok false w:=λd=>by
  rw [acZ]
  simp only [abJ,run_underlying b,abD,abR]
 exact h 9999
def q9p (ht:isIface P t=true) (w:ajg):(adl t .nilIface .nilIface).run P w= .ok true w:=by
 obtain ⟨c,b⟩:=qo9 ht
 have h:∀d,(acZ (d+1) t .nilIface .nilIface).run P w= .ok true w:=λd=>by
  rw [acZ]
  simp only [abJ,run_underlying b,abD,abR]
 exact h 9999
def aa5 {S:ajg->Prop} {e:ajj} (b:o.op= .binOp .neq t x y u) (c:look σ x=some (.iface e v)) (hy:look σ y=some .nilIface) (ht:isIface P t=true:=by kernel_rfl):Yl P S σ o (.bool true):=λa n D Z w f=>by
 unfold execOp
 simp only [b,Z.eval c,Z.eval hy,abJ,yw .neq t x y (a:= .iface e v) rfl,abD,binOp,qw9 ht,abR]
 rfl
def aa9 {S:ajg->Prop} (b:o.op= .binOp .neq t x (.const .nilIface) u) (c:look σ x=some .nilIface) (ht:isIface P t=true:=by kernel_rfl):Yl P S σ o (.bool false):=λa n D Z w e=>by
 have e1:a.eval (.const .nilIface)= .nilIface:=rfl
 have e2:(eqGuard .neq t x (.const .nilIface) .nilIface .nilIface).run P w= .ok () w:=by
  unfold eqGuard
  simp
 unfold execOp
 simp only [b,Z.eval c,e1,abJ,e2,abD,binOp,q9p ht,abR]
 rfl
def qub (h:FK P t=true):∃d,P.underlying t=some d/\∀b,d≠ .interface b:=by
 unfold FK at h
 split at h
 ·cases h
 ·rename_i d c f;exact ⟨d,f,λb e=>c b e⟩
 ·cases h
def abd {S:ajg->Prop} {e:ajj} (b:o.op= .typeAssert x e t true) (c:look σ x=some (.iface t v)) (ht:FK P t=true:=by kernel_rfl):Yl P S σ o (.tuple #[v,.bool true]):=λa n D Z w h=>by
 obtain ⟨d,f,g⟩:=qub ht
 unfold execOp
 simp only [b,Z.eval c,aeM,abJ,run_underlying f,abD]
 cases d<;>first|(exact absurd rfl (g _))|simp
def abe {S:ajg->Prop} {e:ajj} (b:o.op= .typeAssert x e t true) (f:look σ x=some .nilIface) (hz:(P.info? t).bind (·.zero)=some z) (ht:FK P t=true:=by kernel_rfl):Yl P S σ o (.tuple #[z,.bool false]):=λa n D Z w j=>by
 obtain ⟨d,g,h⟩:=qub ht
 obtain ⟨i,hi,c⟩:=ado.1 hz
 unfold execOp
 simp only [b,Z.eval f,aeM,abJ,run_underlying g,abD]
 cases d<;>first|(exact absurd rfl (h _))|rfl|simp [zeroValue,typeInfo,hi,c]
def KA (Q:ajp->Act->ajg->Prop):ajp->Act->ajg->Prop
 | .normal,a,w=>Q .normal a w
 |_,_,_=>False
def zmj {c:Code} (h:c.wp P (KA Q) a w):c.wp P Q a w:=λb k i=>by
 obtain ⟨e,j,l,g,f⟩:=h b k i
 cases e with
 |normal=>exact ⟨_,j,l,g,f⟩
 |_=>exact g.elim
def FL {p:Prop} (Z:Fr a n [] σ) (h:p):a.defers=[]/\p:=⟨Z.defers,h⟩
def zmk (Z:Fr a n D σ) {fo:ajl} {f:FuncId} {caps:List ajh} {ts:Array ajj} (b:o.op= .defer {callee:= .value fo,args:= #[],argTypes:=ts}) (c:look σ fo=some (.func (.func f) #[] caps.toArray)) (g:o.dst=none)
  (k:∀e,Fr e n ({target:= .fn (.func f) caps.toArray,args:= #[]}::D) σ->K e w):o.wp P a w K Q:=by
 unfold acW execOp
 simp only [b,resolve,Z.eval c,adI,abJ,abR,abD,ac8,adF,Oper.upon_defer,g]
 exact k _ ⟨Z.size,by show _::a.defers=_;rw [Z.defers];rfl,Z.slot⟩
def quc {f:Nat} {fn:Func} {c:Code} (g:P.funcs[f]?=some fn) (hb:fn.body=some c) (h:fn.ntmps=N) (i:decide (abr vs<=N)=true) {σ0:List (Nat×ajh)} (j:AU 0 vs=σ0)
  (k:∀a,Fr a N [] σ0->c.wp P (bodyPostD P fn R) a w):Calls P f vs.toArray w R:=by
 subst j
 rw [decide_eq_true_eq] at i
 refine calls_of_wp_defers g hb (k _ ⟨by simp [h];omega,rfl,λt v l=>?_⟩)
 obtain ⟨_,b⟩:=Gp vs 0 t v l
 rw [ae3] at b
 have e:=(abF.1 b).1
 simp only [acU,ad2,adj,if_pos e]
 simp [b]
def pU (W:ajg) (fs:List ajr) (e:ajk) (u:FrameMode) (b:ajg):Prop:=e= .returned (.tuple #[])/\settle u= .returning/\Mem W b fs
def q3r {fn:Func} {c:List PanicEntry} {f:FuncId} {r:ResultVar} (Z:Fr a n [{target:= .fn (.func f) caps.toArray,args:= #[]}] σ) (hc:callable P f=true) (i:CallsD P f caps.toArray (.panicking c) w (pU W fs)) (hr:fn.results= #[r])
  (k:∀b,Mem W b fs->mU P a b r v/\R (.returned v) b):bodyPostD P fn R (.panic c) a w:=by
 show Leaves P fn a.tmps R a.defers (.panicking c) w
 rw [Z.defers]
 refine leaves_cons (f:=f) (args:=caps.toArray) (by simp) (by simp only [invoke];rw [show #[]++caps.toArray=caps.toArray by simp];exact EL hc _ _) (i.mono λe u b ⟨j,l,m⟩=>?_)
 subst j
 show Leaves P fn a.tmps R [] (settle u) b
 rw [l]
 obtain ⟨h,p⟩:=k b m
 unfold mU at h
 refine ⟨v,?_,p⟩
 rw [Cr,hr]
 generalize vU a.tmps=g at*
 simp [h]
def q9q {fn:Func} {f:FuncId} {r:ResultVar} (Z:Fr a n [{target:= .fn (.func f) caps.toArray,args:= #[]}] σ) (hc:callable P f=true) (h:CallsD P f caps.toArray .returning w (pU W fs)) (hr:fn.results= #[r])
  (k:∀b,Mem W b fs->mU P a b r v/\R (.returned v) b):bodyPostD P fn R .ret a w:=by
 show Leaves P fn a.tmps R a.defers .returning w
 rw [Z.defers]
 refine leaves_cons (f:=f) (args:=caps.toArray) (by simp) (by simp only [invoke];rw [show #[]++caps.toArray=caps.toArray by simp];exact EL hc _ _) (h.mono λe u b ⟨i,j,l⟩=>?_)
 subst i
 show Leaves P fn a.tmps R [] (settle u) b
 rw [j]
 obtain ⟨c,m⟩:=k b l
 unfold mU at c
 refine ⟨v,?_,m⟩
 rw [Cr,hr]
 generalize vU a.tmps=g at*
 simp [c]
def qzy {ops:Array ajm} (h:o.guard=none):ac4 o (yielded ops a.tmps)=true:=by unfold ac4;rw [h]
def qks {ops:Array ajm} {rest:List Nat} {j:ajp->Act->List Frame->ajg->Prop} {e cs':List Frame} {ts:Array ajj} (Z:Fr a n D σ) (p:ops[i]?=some o) (f:o.op= .call {callee:= .builtin .recover,args:= #[],argTypes:=ts}) (q:o.guard=none) (l:o.dst=some d) (b:d<n)
  (g:(recoverD e=some (v,cs'))\/(recoverD e=none/\v= .nilIface/\cs'=e)) (k:∀m,Fr m n D ((d,v)::σ)->wpOpsS P ops j rest m cs' w):wpOpsS P ops j (i::rest) a e w:=by
 have c:(execOp a.eval o).run P w= .ok .recover w:=by
  unfold execOp
  simp [f,resolve,invoke,builtin]
 simp only [wpOpsS,p,qzy q,if_true,c]
 rcases g with h|⟨h,rfl,rfl⟩
 ·simp only [h,l]
  exact k _ (Z.put b _)
 ·simp only [h,l]
  exact k _ (Z.put b _)
def qud {ops:Array ajm} {rest:List Nat} {e:ajp->Act->List Frame->ajg->Prop} {f:List Frame} (Z:Fr a n D σ) (h:ops[i]?=some o) (j:uq P σ o.op=some v) (l:o.guard=none) (m:o.dst=some d) (c:d<n)
  (k:∀g,Fr g n D ((d,v)::σ)->wpOpsS P ops e rest g f w):wpOpsS P ops e (i::rest) a f w:=by
 have b:=XD Z j w
 simp only [wpOpsS,h,qzy l,if_true,b,acy,m]
 exact k _ (Z.put c _)
def qkt {f:Nat} {fn:Func} {c:Code} {u:FrameMode} {R:ajk->FrameMode->ajg->Prop} (h:P.funcs[f]?=some fn) (hb:fn.body=some c) (i:fn.ntmps=N) (j:decide (abr vs<=N)=true) {σ0:List (Nat×ajh)} (l:AU 0 vs=σ0)
  (k:∀(c₀:Frame) (b:List Frame) a,c₀.mode=u->Fr a N [] σ0->c.wpS P (bodyPostS P fn c₀ b R) a (c₀::b) w):CallsD P f vs.toArray u w R:=by
 subst l
 rw [decide_eq_true_eq] at j
 refine callsD_of_wpS h hb λc₀ b m=>k c₀ b _ m ⟨by simp [i];omega,rfl,λt v p=>?_⟩
 obtain ⟨_,e⟩:=Gp vs 0 t v p
 rw [ae3] at e
 have g:=(abF.1 e).1
 simp only [acU,ad2,adj,if_pos g]
 simp [e]
def que {fn:Func} {c₀:Frame} {b:List Frame} {u:FrameMode} {R:ajk->FrameMode->ajg->Prop} (hr:fn.results= #[]) (Z:Fr a n [] σ) (h:R (.returned (.tuple #[])) u w):bodyPostS P fn c₀ b R .normal a ({c₀ with mode:=u}::b) w:=
 ⟨Z.defers,u,rfl,_,(by rw [Cr,hr];simp),h⟩
end
section
variable {P:aji} {W w:ajg} {l n:Nat} {σ:List (Nat×ajh)}
def Fr.RZ {v1:ajh} (h:Fr {tmps:=tmps,defers:=[]} n [] σ) (h1:c<n):Fr {tmps:=(#[c].zip #[v1]).foldl (λt (p,v)=>t.setIfInBounds p v) tmps,defers:=[]} n [] ((c,v1)::σ):=by
 have a:=h.put h1 v1
 simpa [Act.put] using a
def qtc {b:LoopState->Option Code->Loop} {assign body:Code} {v1:ajh} (e:∃fn d,b=qc4 fn d #[c] assign body B/\Fr {tmps:=d,defers:=[]} n [] σ) (i:Mem W w (.obj l (.loop (b .ready none))::F)) (h1:c<n)
  (h:∀a,Fr a n [] ((c,v1)::σ)->assign.wpIn (Fence.wide.inRound l) 0 P (Exit.then (λj k=>∃f,Mem W k (.obj l (.loop (b .ready none))::f)/\∀g,Mem W g (.obj l (.loop (b .busy none))::f)->body.wpIn (Fence.wide.inRound l) 0 P (roundEnd W l b R) j g) (λ_ _ _=>False)) a w):YieldAt acf 0 P l #[v1] w R:=by
 obtain ⟨fn,d,rfl,Z⟩:=e
 exact Yf i rfl (h _ (Z.RZ h1))
def R3 (W:ajg) (fr:List ajr) (J:List ajr->Prop) (e:ajk) (b:ajg):Prop:=∃a,Mem W b (a++fr)/\e= .returned (.bool true)/\J a
def zt {W:ajg} {fr:List ajr} {J:List ajr->Prop}:∀(e:ajk) (a:ajg),R3 W fr J e a->∃v,e= .returned v
 |_,_,⟨_,_,h,_⟩=>⟨_,h⟩
def q68 (W:ajg) (J:List ajr->Prop) (r:ajk) (b:ajg):Prop:=∃v,r= .returned v/\∃a,Mem W b a/\J a
def qyx (P:aji) (W:ajg) (a n:Nat) (Inv:Nat->List ajr->Prop):Prop:=
 ∀(i:Nat) (F fr:List ajr) (w:ajg) (x:Int),Inv i F->i<n->Mem W w (F++fr)->YieldAt acf 0 P a #[.int .i64 x] w (R3 W fr (Inv (i+1)))
end
section
variable {P:aji} {ops:Array ajm} {Q:ajp->Act->ajg->Prop} {a:Act} {w W:ajg} {n i:Nat} {K:Act->ajg->Prop} {md:Region.Mode}
def xO:Nat->List (List Bool)
 |0=>[[]]
 |n+1=>(xO n).flatMap λl=>[true::l,false::l]
def q0a:∀(l:List Bool),l∈xO (abr l)
 |[]=>by simp [xO]
 |b::l=>by
  rw [List.length_cons,xO,List.mem_flatMap]
  exact ⟨l,q0a l,by cases b<;>simp⟩
def OZ (md:aec) (ops:Array ajm) (l:List Bool):Bool:=(acw (abr l)).all λk=> !l.getD k false||((ops[k]?).map (·.after.all λe=> !Region.binds md e||l.getD e.on false)).getD false
def oV (md:aec) (ops:Array ajm) (i:Nat):Bool:=
 ((xO i).all λl=> !OZ md ops l||(((acJ md (ops.toList.take i).toArray l.toArray).all λj=>OZ md ops (l.set j true))&& (((acJ md (ops.toList.take i).toArray l.toArray).isEmpty==l.all id)&& (l.all id||(acJ md ops (l++abG (ops.size-i) false).toArray==acJ md (ops.toList.take i).toArray l.toArray)))))
 && (OZ md ops (abG i false)&& (((acw (ops.size-i)).all λj=>acJ md ops (abG (i+j) true++abG (ops.size-i-j) false).toArray==[i+j])
 && ((acJ md ops (abG ops.size true).toArray).isEmpty&& (decide (i<=ops.size)&& ((ops.toList.take i).all λo=>o.guard.isNone)))))
def zqf (j d:Nat):(abG j true++abG (d+1) false).toArray.setIfInBounds j true=(abG (j+1) true++abG d false).toArray:=by
 rw [aen]
 congr 1
 rw [List.set_append_right _ _ (by simp),List.length_replicate,ad5,List.replicate_succ,aeS,List.replicate_succ',aby]
 rfl
def zja {F:Fence} (h1:∀j,i<=j->j<ops.size->acJ md ops (abG j true++abG (ops.size-j) false).toArray=[j]) (f:acJ md ops (abG ops.size true).toArray=[]):
  ∀(d j:Nat),j+d=ops.size->i<=j->∀a w,wpListIn F n P ops Q (ops.toList.drop j) a w->wpAnyIn F n P md ops Q d (abG j true++abG d false).toArray a w
 |0,j,m,_,a,w,h=>by
  obtain rfl:j=ops.size:=by omega
  rw [acu (by simp)] at h
  refine ⟨?_,h⟩
  rw [List.replicate_zero,abN]
  exact f
 | d + 1, j, m, hi, a, w, h => by
  have b:j<ops.size:=by omega
  have c:=h1 j hi b
  rw [show ops.size-j=d+1 by omega] at c
  refine ⟨λg=>(by rw [c] at g;cases g),λq k=>?_⟩
  rw [c,List.mem_singleton] at k
  subst k
  rw [acv (by simpa using b)] at h
  have l:=zja (F:=F) h1 f d (q+1) om om
  rw [zqf]
  unfold wpOpIn
  rw [afX b]
  unfold wpListIn at h
  simp only [aeg] at h⊢
  split at h
  ·rename_i e
   rw [if_pos e]
   exact Oper.wpIn_mono l h
  ·rename_i e
   rw [if_neg e]
   exact ⟨h.1,l _ _ h.2⟩
def quk:∀{l:List Bool} {j:Nat},l[j]?=some false->(l.set j true).count false+1=l.count false
 |[],_,h=>by simp at h
 |b::l,0,h=>by
  simp at h
  subst h
  simp
 |b::l,j+1,h=>by
  have:=quk (l:=l) (j:=j) (by simpa using h)
  rw [afK,ag8,ag8]
  omega
def qul {l:List Bool}:l.count false=0↔l.all id=true:=by
 rw [List.count_eq_zero,ace]
 constructor
 ·intro h x b
  cases x with
  |true=>rfl
  |false=>exact absurd b h
 ·intro h b
  have:=h _ b
  cases this
def zqg (A:oV md ops i=true) (R:¬LetsOut Q) (S:∀a w,K a w->wpListIn acf 0 P ops Q (ops.toList.drop i) a w):
  ∀(d:Nat) (l:List Bool),abr l=i->l.count false=d->OZ md ops l=true->∀a w,wpAny P md (ops.toList.take i).toArray (Exit.then K Q) d l.toArray a w->wpAnyIn acf 0 P md ops Q (d+(ops.size-i)) (l++abG (ops.size-i) false).toArray a w:=by
 unfold oV at A
 simp only [abH,decide_eq_true_eq] at A
 obtain ⟨T,_,U,V,hi,X⟩:=A
 have q:abr (ops.toList.take i)=i:=by rw [abA];simp;omega
 have Y:=zja (P:=P) (Q:=Q) (F:=acf) (n:=0) (md:=md) (ops:=ops) (i:=i) (λj h1 h2=>by
  have g:=ace.1 U (j-i) (List.mem_range.2 om)
  rw [show i+(j-i)=j by omega,show ops.size-i- (j-i)=ops.size-j by omega] at g
  exact eq_of_beq g) (List.isEmpty_iff.1 V)
 intro d
 induction d with
 |zero=>
  intro l y hc s a w h
  have Z:=qul.1 hc
  have k:l=abG i true:=List.eq_replicate_iff.2 ⟨y,λb hb=>ace.1 Z b hb⟩
  subst k
  rw [ab9]
  exact Y _ _ om (abx _) _ _ (S _ _ h.2)
 | succ d ih =>
  intro l y hc s a w h
  have g:=ace.1 T l (by rw [<-y];exact q0a l)
  rw [s,Bool.not_true,ahs,abH] at g
  have m:=g.1
  replace g:=g.2
  have B:l.all id=false:=by
   cases hx:l.all id with
   |false=>rfl
   |true=>rw [qul.2 hx] at hc;omega
  rw [B,ahs,abH] at g
  have J:=eq_of_beq g.2
  have t:=eq_of_beq g.1
  rw [Nat.succ_add]
  refine ⟨λL=>(by rw [J] at L;rw [L] at t;cases t),λj z=>?_⟩
  rw [J] at z
  have u:=h.2 j z
  have m:=ace.1 m j z
  obtain ⟨C,o,p,_⟩:=mem_ready.1 z
  have D:j<i:=by
   have:=(ac0.1 p).1
   simpa [q] using this
  have E:l[j]?=some false:=by
   have:l.toArray.getD j true=false:=C
   rw [acU,aeT,abv om] at this
   rw [abv om]
   exact congrArg some this
  have G:ops[j]?=some o:=by
   rw [aeT,adE,if_pos D,Array.getElem?_toList] at p
   exact p
  have H:o.guard=none:=by
   have hm:o∈ops.toList.take i:=by
    rw [aeT] at p
    exact abK p
   have:=ace.1 X o hm
   simpa using this
  have e1:l.toArray.setIfInBounds j true=(l.set j true).toArray:=aen ..
  have e2:(l++abG (ops.size-i) false).toArray.setIfInBounds j true=(l.set j true++abG (ops.size-i) false).toArray:=by
   rw [aen,List.set_append_left _ _ om]
  rw [e1] at u
  rw [e2]
  have hk:=ih (l.set j true) (by rw [abL];exact y) (by have:=quk E;omega) m
  have M:∀x,ac4 o x=true:=λx=>by unfold ac4;rw [H]
  unfold wpOp at u
  rw [p] at u
  simp only [M,if_true] at u
  unfold wpOpIn
  rw [G]
  simp only [M,if_true]
  have N:=Qu (Q:=Exit.then K Q) (λ⟨a,w,h⟩=>R ⟨a,w,h⟩) hk u
  refine ⟨N.1,?_⟩
  have g:=N.2
  generalize (o.semAt Fence.wide.round a.eval).run P w=r at g
  cases r with
  | ok x w' =>
   cases x with
   |enter f args=>
    refine ⟨g.1,g.2.mono ?_⟩
    intro e I k
    cases e with
    |returned v=>exact k
    |panicked c=>exact k
    |outgrown=>exact k
   |round l f O assign body=>
    refine ⟨g.1,g.2.mono ?_⟩
    intro e I k
    cases e with
    |returned v=>exact k
    |panicked c=>exact k
    |outgrown=>exact k
   |_=>exact g
  |halt hh w'=>
   cases hh with
   |panic v=>exact g
   |_=>exact g
def U9 (P:aji) (ops:Array ajm) (Q:ajp->Act->ajg->Prop) (i:Nat) (a:Act) (w:ajg):Prop:=∃o,ops[i]?=some o/\o.guard=none/\o.wpIn acf 0 P a w (wpListIn acf 0 P ops Q (ops.toList.drop (i+1))) Q
def zai {id:Nat} (i:Nat) (S:ajg->Prop) (d:List Nat) (h:ql P .any (ops.toList.take i).toArray (Exit.then (U9 P ops Q i) Q) S d i (Array.replicate i false) a w.drew)
  (hm:P.follows .mixedOrders=true:=by kernel_rfl) (b:oV .any ops i=true:=by kernel_rfl) (e:¬LetsOut Q:=by intro ⟨_,_,h⟩;obtain ⟨_,h,_⟩:=h;cases h):(aek id ops true).wp P Q a w:=by
 refine wpIn_wide.1 (wpIn_region_any (n:=0) hm ?_)
 have c:=zqg (P:=P) (Q:=Q) (K:=U9 P ops Q i) b e (λa w ⟨o,f,g,h⟩=>by
  obtain ⟨j,k⟩:=ac0.1 f
  rw [acv (by simpa using j),aeg,k]
  unfold wpListIn
  rw [if_pos (by unfold ac4;rw [g])]
  exact h) i (abG i false) (by simp) (by simp) (by unfold oV at b;simp only [abH] at b;exact b.2.1) a w.drew (MJ _ _ _ _ (by rw [agm];exact h))
 unfold oV at b
 simp only [abH,decide_eq_true_eq] at b
 obtain ⟨_,_,_,_,hi,_⟩:=b
 rw [show i+(ops.size-i)=ops.size by omega,List.replicate_append_replicate,show i+(ops.size-i)=ops.size by omega,agm] at c
 exact c
def Ei {id:Nat} (i:Nat) {fs:List ajr} (d:Mem W w fs) (fs':List ajr) (m:Nat) (b e:List Nat) (h:Mem W w.drew fs->Mem W w.drew fs'->ql P .any (ops.toList.take i).toArray (Exit.then (U9 P ops Q i) Q) (λf=>Mem W f fs') e i (Array.replicate i false) a w.drew)
  (g:b.Nodup:=by decide) (c:(b.all (· <m))=true:=by decide) (j:picks fs b++fs.drop m=fs':=by rfl) (hm:P.follows .mixedOrders=true:=by kernel_rfl) (k:oV .any ops i=true:=by kernel_rfl) (l:¬LetsOut Q:=by intro ⟨_,_,h⟩;obtain ⟨_,h,_⟩:=h;cases h):(aek id ops true).wp P Q a w:=
 zai i _ e (h d.drew (d.drew.Qm m b g c j)) hm k l
end
def aaG {S:ajg->Prop} {σ:List (Nat×ajh)} (b:o.op= .convert 30 9 x) (d:look σ x=some (.slice A n c)) (hr:∀w,S w->Rd w w.heap.size 1 A n (l.map B8)):Yl abt S σ o (.string (j6 l)):=λa m D Z w f=>by
 unfold execOp
 simp [b,Z.eval d,zjt (hr w f)]
def uw (l:List Nat):∀u∈l.map B8,u.oneCell'=true:=by
 intro u a
 obtain ⟨x,_,rfl⟩:=ab7.1 a
 rfl
theorem Rd.Gs {k cap:Nat} (h:Rd w B 1 A n (l.map B8)) (hk:k<=n) (hc:n<=cap):Rd w B 1 (if cap=k then A else A.map (·.add (k*1))) (n-k) ((l.drop k).map B8):=by
 have a:=h.from hk hc
 rw [aht]
 have e:(l.map B8).drop (k*1)=(l.map B8).drop k:=by rw [ac5]
 rw [<-e]
 exact a
def X7 (l:List Nat):((j6 l).toList==(j6 l).toList)=true:=by simp
theorem Mem.le (h:Mem W w fs) {B:Nat} (a:B<=W.heap.size):B<=w.heap.size:=adg a h.size
def nN {x:Int} (h: -9223372036854775808<=x/\x<=9223372036854775807):abT .i64 (IntKind.i64.wrap x)= .int .i64 x:=by rw [agR x h]
def mI (w:ajg) (er:Nat) (R:List Nat) (r:ajk) (a:ajg):Prop:=
 (∃A c,r= .returned (.tuple #[.slice A (abr R) c,.int .i64 (er:Int)])/\a.ownsRow w.heap.size 5 1 (.slice A (abr R) c) (abr R) (R.map B8)/\abr R<=c)/\Below w.heap.size w a
section
variable {P:aji} {S:ajg->Prop} {σ:List (Nat×ajh)} {o:ajm} {t e:ajj} {z:ajh} {size bytes:Nat}
def aaf (d:EI P t e z size bytes) {x y:ajl} {A:ajq} {m c j:Nat} {k:ajn} (b:o.op= .slice t x (some y) none none) (f:look σ x=some (.slice A m c)) (g:look σ y=some (.int k (j:Int))) (h:j<=m):
  Yl P S σ o (.slice (if c=j then A else A.map (·.add (j*size))) (m-j) (c-j)):=λa n D Z w i=>by
 unfold execOp
 simp only [b,Z.eval f,Z.eval g,aeI,aeJ,abJ,abR,qnm (P:=P) d h,abD]
def aah (d:EI P t e z size bytes) {x hi:ajl} {A:ajq} {m c j:Nat} {k:ajn} (b:o.op= .slice t x none (some hi) none) (f:look σ x=some (.slice A m c)) (g:look σ hi=some (.int k (j:Int))) (h:j<=c):
  Yl P S σ o (.slice A j c):=λa n D Z w i=>by
 unfold execOp
 simp only [b,Z.eval f,Z.eval g,aeI,aeJ,abJ,abR,qnn (P:=P) d h,abD]
end
section
variable {P:aji} {S:ajg->Prop} {σ:List (Nat×ajh)} {o:ajm}
def placesOf (P:aji):List Field->Option (List (Nat×Nat))
 |[]=>some []
 |f::r=>match P.info? f.type,placesOf P r with
  |some i,some l=>some ((f.offset,i.size)::l)
  |_,_=>none
def X8:∀{a:List Field} {l:List (Nat×Nat)},placesOf P a=some l->∀w,(a.mapM λf=>(do pure (f.offset,<-sizeOf f.type):Sem (Nat×Nat))).run P w= .ok l w
 |[],l,h,w=>by cases h;rfl
 | f :: r, l, h, w => by
  unfold placesOf at h
  split at h
  ·rename_i i c hi b
   injection h with h
   subst h
   simp [List.mapM_cons,sizeOf,typeInfo,hi]
   have:=X8 b w
   simp [sizeOf,typeInfo] at this
   simp [this]
  ·cases h
def Qq (P:aji) (t:ajj) (vs:List (Nat×ajh)):Option (Array ajh):=match P.underlying t,yx P t with
 |some (.struct a),some z=>match placesOf P a.toList with
  |some l=>ae2 (l.toArray[·]?) z vs
  |none=>none
 |_,_=>none
def Yl.build {vs:List (Nat×ajh)} (b:o.op= .build t ps) (j:yB σ ps.toList=some vs) (hb:Qq P t vs=some C):Yl P S σ o (.agg C):=λa n D Z w q=>by
 have c:=Qj Z j
 have e1:(aev t (ps.map λp=>(p.1,a.eval p.2))).run P w= .ok (.agg C) w:=by
  rw [c]
  unfold Qq at hb
  split at hb
  ·rename_i h z k hz
   split at hb
   ·rename_i l m
    unfold yx at hz
    obtain ⟨r,d,rfl⟩:=adv.1 hz
    obtain ⟨i,hi,g⟩:=ado.1 d
    have hm:(h.mapM λf=>(do aeG (f.offset,<-sizeOf f.type):Sem (Nat×Nat))).run P w= .ok l.toArray w:=by
     rw [<-acR (xs:=h),List.mapM_toArray]
     simp only [Sem.run_map,X8 m]
     rfl
    unfold aev
    simp only [abJ,zeroValue,typeInfo,program,afy,hi,g,abR,abD,run_underlying k,hm,hb]
   ·cases hb
  ·cases hb
 unfold execOp
 simp only [b,abJ,abR]
 show ((aev t (ps.map λp=>(p.1,a.eval p.2))).run P w).andThen _=_
 rw [e1]
 rfl
end
def zo {base:Nat} {e:ajj} {size:Nat} (h:w.ownsRow base e size (.slice A n c) n xs) (b:0<n):∃g,A=some ⟨g,0,none⟩:=by
 obtain ⟨g,d,a,_⟩:=zom h b
 injection a with a _ _
 exact ⟨g,a⟩
theorem Mem.rat (h:Mem W w fs) (i k:Nat) {e:ajj} {size n c:Nat} {A:ajq} {xs:List ajh} (hi:fs[i]?=some (.row (.slice A n c) n xs e size):=by rfl) (hk:k<n:=by omega):∃g,A=some ⟨g,0,none⟩:=zo (h.own hi) (agL (abC _) hk)
theorem Mem.zB (h:Mem W w fs) {α:Type} {f:α->List ajh} {sz:Nat} (a:∀x,abr (f x)=sz) {i g m c:Nat} {e:ajj} {l:List α} (hi:fs[i]?=some (.row (.slice (some ⟨g,0,none⟩) m c) m (l.flatMap f) e sz)) {k:Nat} {x:α} (hk:l[k]?=some x):w.rangeAt g (k*sz) (f x):=
 h.MN hi (k*sz) λj u b=>by
  obtain ⟨d,n⟩:=abF.1 hk
  have p:j<sz:=by have:=(abF.1 b).1;rwa [a] at this
  rw [EB f sz a l k j d p,n]
  exact b
section
variable {P:aji} {S:ajg->Prop} {σ:List (Nat×ajh)} {o:ajm} {v:ajh}
def EN (P:aji) (t:ajj):Bool:=match P.underlying t with
 |some (.func _ _ _)=>true
 |_=>false
def q1f {f:Fn} {xs ys:Array ajh} (ht:EN P t=true) (w:ajg):(adl t (.func f xs ys) .nilFunc).run P w= .ok false w:=by
 unfold EN at ht
 split at ht
 ·rename_i a
  show (acZ (9999+1) t (.func f xs ys) .nilFunc).run P w=_
  unfold acZ
  simp only [abJ,run_underlying a,abD]
  rfl
 ·cases ht
def q5b (ht:EN P t=true) (w:ajg):(adl t .nilFunc .nilFunc).run P w= .ok true w:=by
 unfold EN at ht
 split at ht
 ·rename_i a
  show (acZ (9999+1) t .nilFunc .nilFunc).run P w=_
  unfold acZ
  simp only [abJ,run_underlying a,abD]
  rfl
 ·cases ht
def aaX {f:Fn} {xs:Array ajh} (b:o.op= .binOp .neq t x y u) (c:look σ x=some (.func f xs ys)) (hy:look σ y=some .nilFunc) (ht:EN P t=true):Yl P S σ o (.bool true):=λa n D Z w d=>by
 unfold execOp
 have e:(binOp .neq t (.func f xs ys) .nilFunc).run P w= .ok (.bool true) w:=by
  show ((do aeG (.bool (!(<-adl t (.func f xs ys) .nilFunc))):Sem ajh)).run P w=_
  simp [q1f ht]
 simp only [b,Z.eval c,Z.eval hy,abJ,yw (P:=P) .neq t x y (a:= .func f xs ys) rfl,abD,e,abR]
def aa0 (b:o.op= .binOp .neq t x y u) (c:look σ x=some .nilFunc) (hy:look σ y=some .nilFunc) (ht:EN P t=true):Yl P S σ o (.bool false):=λa n D Z w d=>by
 unfold execOp
 have e:(binOp .neq t .nilFunc .nilFunc).run P w= .ok (.bool false) w:=by
  show ((do aeG (.bool (!(<-adl t .nilFunc .nilFunc))):Sem ajh)).run P w=_
  simp [q5b ht]
 simp only [b,Z.eval c,Z.eval hy,abJ,yw (P:=P) .neq t x y (a:= .nilFunc) rfl,abD,e,abR]
def aaR {m:Nat} (b:o.op= .unOp .xor t x) (d:look σ x=some (.int .u32 (m:Int))) (hm:m<4294967296):Yl P S σ o (.int .u32 ((m^^^4294967295:Nat):Int)):=λa n D Z w e=>by
 have c:=MS (m:=4294967295) (n:=m) de hm
 rw [Nat.xor_comm] at c
 unfold execOp
 simp only [b,Z.eval d,Op.unary]
 rw [<-c]
 rfl
def Yb (P:aji) (t:ajj):Option (Nat×Nat):=match P.underlying t with
 |some (.array n e)=>(P.info? e).map λi=>(n,i.size)
 |_=>none
def Yl.uy {ix:ajl} {ad:Addr} {y:Nat} {k:ajn} (c:o.op= .indexAddr t x ix) (f:look σ x=some (.pointer (some ad))) (hi:look σ ix=some (.int k (y:Int))) (b:Yb P t=some (m,sz)) (hy:y<m):Yl P S σ o (.pointer (some (ad.add (y*sz)))):=λa n D Z w l=>by
 unfold Yb at b
 split at b
 ·rename_i p e g
  obtain ⟨i,d,b⟩:=adv.1 b
  injection b with h j
  subst h;subst j
  unfold execOp
  simp [c,Z.eval f,Z.eval hi,Instr.indexAt,asIntOf,run_underlying g,hy,sizeOf,typeInfo,d,aex]
 ·cases b
def aan {e:ajj} {size bytes:Nat} (g:EI P t e z size bytes) {x y hi:ajl} {A:ajq} {m c i j:Nat} {k h:ajn} (f:o.op= .slice t x (some y) (some hi) none) (p:look σ x=some (.slice A m c)) (q:look σ y=some (.int k (i:Int))) (r:look σ hi=some (.int h (j:Int))) (b:i<=j) (l:j<=c):
  Yl P S σ o (.slice (if c=i then A else A.map (·.add (i*size))) (j-i) (c-i)):=λa n D Z w B=>by
 obtain ⟨s,d,_,hs,_⟩:=info_parts g.hi
 have u:i<=c:=adg b l
 have e1:(adH t (.slice A m c) (some (.int k (i:Int))) (some (.int h (j:Int))) none).run P w= .ok (.slice (if c=i then A else A.map (·.add (i*size))) (j-i) (c-i)) w:=by
  subst hs
  simp [adH,run_underlying g.ht,agM,afG,afR,asIntOf,b,l,sizeOf,typeInfo,d]
 unfold execOp
 simp only [f,Z.eval p,Z.eval q,Z.eval r,aeI,aeJ,abJ,e1,abD]
 rfl
def Yc (P:aji) (t:ajj):Option Nat:=match P.underlying t with
 |some (.array n _)=>some n
 |_=>none
def Yl.arrayAt {k:Nat} (b:o.op= .sliceToArrayPointer t x) (d:look σ x=some (.slice A m c)) (ht:Yc P t=some k) (hk:k<=m):Yl P S σ o (.pointer A):=λa n D Z w g=>by
 unfold Yc at ht
 split at ht
 ·rename_i h e f
  injection ht with ht;subst ht
  unfold execOp
  simp [b,Z.eval d,Instr.arrayAt,run_underlying f,Nat.not_lt.2 hk]
 ·cases ht
end
theorem Rd.mid {size j:Nat} (h:Rd w B size A n xs) (a:i<=j) (e:j<=n) (hc:n<=c):
  Rd w B size (if c=i then A else A.map (·.add (i*size))) (j-i) ((xs.take (j*size)).drop (i*size)):=by
 have b:=h.from (k:=i) (cap:=c) om hc
 have d:=b.upto (k:=j-i) om
 rw [List.drop_take,<-Nat.sub_mul]
 exact d
theorem Rd.yG {j:Nat} (h:Rd w B 1 A n (l.map B8)) (a:i<=j) (d:j<=n) (hc:n<=c):
  Rd w B 1 (if c=i then A else A.map (·.add (i*1))) (j-i) (((l.take j).drop i).map B8):=by
 have b:=h.mid a d hc
 rw [ac5,ac5,<-ahr,<-aht] at b
 rw [ac5]
 exact b
section
variable {W w:ajg} {fs:List ajr}
theorem Mem.lU (h:Mem W w fs) {g:Nat} {a:Obj} (hb:W.heap[g]?=some a):w.heap[g]?=some a:=(h.below.block g (AB hb)).trans hb
theorem Mem.mV (h:Mem W w fs) {g off:Nat} {C:Array ajh} {t:ajj} {v:ajh} (hb:W.heap[g]?=some (.cells C t (0,0))) (hc:C[off]?=some v):w.cell? ⟨g,off,none⟩=some v:=by
 simp [aep,h.lU hb,hc]
theorem Mem.zq1 (h:Mem W w fs) {g:Nat} {C:Array ajh} {t:ajj} (hb:W.heap[g]?=some (.cells C t (0,0))):w.rangeAt g 0 C.toList:=qj (h.lU hb)
end
section
variable {P:aji} {S:ajg->Prop} {σ:List (Nat×ajh)} {o:ajm}
def aa4 {e:ajj} {size bytes:Nat} (g:EI P t e z size bytes) {x y hi s:ajl} {A:ajq} {m c i j q:Nat} {k h k2:ajn} (d:o.op= .slice t x (some y) (some hi) (some s)) (l:look σ x=some (.slice A m c)) (p:look σ y=some (.int k (i:Int))) (r:look σ hi=some (.int h (j:Int))) (hm:look σ s=some (.int k2 (q:Int))) (f:i<=j) (u:j<=q) (v:q<=c):
  Yl P S σ o (.slice (if q=i then A else A.map (·.add (i*size))) (j-i) (q-i)):=λa n D Z w C=>by
 obtain ⟨B,b,_,hs,_⟩:=info_parts g.hi
 have e1:(adH t (.slice A m c) (some (.int k (i:Int))) (some (.int h (j:Int))) (some (.int k2 (q:Int)))).run P w= .ok (.slice (if q=i then A else A.map (·.add (i*size))) (j-i) (q-i)) w:=by
  subst hs
  simp [adH,run_underlying g.ht,agM,afG,afR,asIntOf,f,u,v,sizeOf,typeInfo,b]
 unfold execOp
 simp only [d,Z.eval l,Z.eval p,Z.eval r,Z.eval hm,aeI,abJ,e1,abD]
 rfl
end
def ZU {α:Type} (f:α->List ajh) (sz:Nat) (a:∀x,abr (f x)=sz):∀(l:List α) (k:Nat),(l.flatMap f).take (k*sz)=(l.take k).flatMap f
 |[],_=>by simp
 |_::_,0=>by simp
 |x::l,k+1=>by
  rw [abO,List.take_succ_cons,abO,afD,abM (by rw [a,adK];omega),a,<-ZU f sz a l k]
  congr 2
  rw [adK];omega
def ZV {α:Type} (f:α->List ajh) (sz:Nat) (a:∀x,abr (f x)=sz):∀(l:List α) (k:Nat),(l.flatMap f).drop (k*sz)=(l.drop k).flatMap f
 |[],_=>by simp
 |_::_,0=>by simp
 |x::l,k+1=>by
  rw [abO,List.drop_succ_cons,afE,acu (by rw [a,adK];omega),a,<-ZV f sz a l k,acX]
  congr 1
  rw [adK];omega
theorem Rd.zq8 {α:Type} {f:α->List ajh} (a:∀x,abr (f x)=sz) {w:ajg} {B k c:Nat} {A:ajq} {l:List α} (h:Rd w B sz A (abr l) (l.flatMap f)) (hk:k<=abr l) (hc:abr l<=c):Rd w B sz (if c=k then A else A.map (·.add (k*sz))) (abr (l.drop k)) ((l.drop k).flatMap f):=by
 have b:=h.from hk hc
 rwa [ZV f sz a,<-abE] at b
theorem yM {α:Type} {l:List α} {k:Nat} (d:α) (h:k<abr l):l.take (k+1)=l.take k++[l.getD k d]:=by simp_all
section
variable {P:aji} {Q:ajp->Act->ajg->Prop} {a:Act} {W w:ajg} {n d:Nat} {D:List ajo} {σ:List (Nat×ajh)} {o:ajm} {K:Act->ajg->Prop} {fs:List ajr} {S:ajg->Prop}
def Yl.cap (b:o.op= .call {callee:= .builtin .cap,args:= #[x],argTypes:= #[t]}) (f:look σ x=some (.slice A m c)) (ht:nX P t=true):Yl P S σ o (.int .i64 (c:Int)):=λa n D Z w h=>by
 unfold nX at ht
 split at ht
 ·rename_i e g
  unfold execOp
  simp [b,resolve,invoke,builtin,Z.eval f,Builtin.cap_,run_underlying g,goInt]
 ·cases ht
def qps (Z:Fr a n D σ) (A:Mem W w fs) {s x:ajl} {t tn e:ajj} {z:ajh} {size bytes m:Nat} {kn k:ajn} (h:o.op= .call {callee:= .builtin .append,args:= #[s,x],argTypes:= #[t,tn]}) (c:EI P t e z size bytes) (j:P.underlying tn=some (.int kn))
  (hs:look σ s=some (.slice none 0 0)) (B:look σ x=some (.int k (m:Int))) (C:0<m) (h63:m<=4611686018427387904) (hb:m*bytes<=281474976710656)
  (E:o.dst=some d) (l:d<n) (F:∀u v g p,Fr u n D ((d,.slice (some ⟨g,0,none⟩) m p)::σ)->Mem W v (.row (.slice (some ⟨g,0,none⟩) m p) m (Builtin.zeroCells z.cells m).toList e size::fs)->m<=p->K u v):o.wp P a w K Q:=by
 obtain ⟨i,hi,hz,q,r⟩:=info_parts c.hi
 have G:=Lib.run_append_nil_zeros (P:=P) w t tn o.type e i z k kn c.ht j hi hz m C (by rw [q];exact c.hs) om (by rw [r];exact hb)
 have y:m<=grownCap w m 0 e:=grownCap_ge w m 0 e
 have H:grownCap w m 0 e<=maxLen:=grownCap_le_maxLen w m 0 e (by unfold maxLen;omega)
 have b:(ab2 z.cells m).size=m*size:=by rw [size_zeroCells,c.hz]
 have f:(w.drew.alloc (.cells (ab2 z.cells m++ab2 z.cells (grownCap w m 0 e-m)) e)).ownsRow w.heap.size e size (.slice (some ⟨w.heap.size,0,none⟩) m (grownCap w m 0 e)) m (ab2 z.cells m).toList:=by
  refine ⟨by simpa using b,.inr ⟨w.heap.size,_,_,rfl,abx _,aef w.drew _,y,H,?_,?_⟩⟩
  ·rw [aff,b,size_zeroCells,c.hz,<-aez]
   congr 1
   omega
  ·rw [agx,<-b,<-acD]
   exact adP
 unfold acW execOp
 simp only [h,resolve,invoke,builtin,abJ,abR,abD,ac8,acE,adF,Z.eval hs,Z.eval B,G]
 rw [acy,E]
 exact F _ _ w.heap.size _ (Z.put l _) (A.dh ((aeb _ _).drew.alloc (by simp) _) f) y
theorem Mem.shrink (h:Mem W w fs) {i m k c size:Nat} {A:ajq} {e:ajj} {xs:List ajh} (hi:fs[i]?=some (.row (.slice A m c) m xs e size)) (hk:k<=m) (p:A=none->k=0/\c=0):Mem W w (fs.set i (.row (.slice A k c) k (xs.take (k*size)) e size)):=by
 have j:=h.own hi
 refine h.turn hi h.below (λ_ _ _=>rfl) ?_ (λv f=> .inl (by cases A<;>exact f))
 refine ⟨by rw [abA,j.1];exact ac9 (acC _ hk),?_⟩
 rcases j.2 with ⟨b,l⟩|⟨g,cap,cur,b,l,q,x,r,s,t⟩
 ·injection b with b _ _
  obtain ⟨rfl,rfl⟩:=p b
  subst b
  exact .inl ⟨rfl,rfl⟩
 ·injection b with b _ u
  subst b;subst u
  refine .inr ⟨g,c,cur,rfl,l,q,by omega,r,s,?_⟩
  rw [<-t,List.take_take,ac9 (acC _ hk)]
end
theorem Yd {m n j:Nat} (hm:m<2^j):m|||n*2^j=m+n*2^j:=by grind [ae5,Nat.mul_comm,Nat.two_pow_add_eq_or_of_lt]
def Qr {m n j p:Nat} (b:2^j=p) (hm:m<p) (hb:m+n*p<4294967296):abT .u32 (Go.IntKind.u32.wrap (abY Go.IntKind.u32.bits (m:Int)|||abY Go.IntKind.u32.bits ((n*p:Nat):Int)).toNat)= .int .u32 ((m+n*p:Nat):Int):=by
 subst b
 have h:=X5 (m:=m) (n:=n*2^j) om om
 rw [Yd hm] at h
 exact h
def zcl {m n j p:Nat} (b:2^j=p) (hm:n<p) (hb:m*p+n<9223372036854775808):abT .i64 (Go.IntKind.i64.wrap (abY Go.IntKind.i64.bits ((m*p:Nat):Int)|||abY Go.IntKind.i64.bits (n:Int)).toNat)= .int .i64 ((m*p+n:Nat):Int):=by
 subst b
 have h:=zoo (m:=m*2^j) (n:=n) om om
 rw [Nat.or_comm,Yd hm,ae5] at h
 exact h
structure Part where
 A:ajq
 c:Nat
 l:List Nat
def aaH (p:Part):ajh:= .slice p.A (abr p.l) p.c
def Gt {l:List Part} {k:Nat} {d:Part} (h:k<abr l):(l.take (k+1)).flatMap (·.l)=(l.take k).flatMap (·.l)++(l.getD k d).l:=by
 rw [adx,getD_at d h];simp
theorem Gu {l:List Part} (k:Nat):abr ((l.take k).flatMap (·.l))<=abr (l.flatMap (·.l)):=by grind [abu,ab1]
def rQ (n:Nat):List Nat:=[n%256,n/256%256,n/65536%256,n/16777216%256]
def aY (l:List Nat):List Nat:=l++rQ (zq l)
def jN (l:List Nat):Nat:=l.getD 0 0+256*l.getD 1 0+65536*l.getD 2 0+16777216*l.getD 3 0
def q5 (l:List Nat):Bool:=decide (4<=abr l/\zq (l.take (abr l-4))=jN (l.drop (abr l-4)))
def Qx (k:Nat) (h:k<16):uD.getD k 0<4294967296:=by
 have:∀k,k<16->uD.getD k 0<4294967296:=by decide
 exact this k h
def Is (w:ajg) (v:ajh) (r:ajk) (a:ajg):Prop:=r= .returned v/\Below w.heap.size w a
def sU (w:ajg) (R:List Nat) (r:ajk) (a:ajg):Prop:=
 (∃A c,r= .returned (.slice A (abr R) c)/\a.ownsRow w.heap.size 5 1 (.slice A (abr R) c) (abr R) (R.map B8)/\abr R<=c)/\Below w.heap.size w a
def sU.as {R R':List Nat} {r:ajk} (h:sU w R r W) (e:R=R'):sU w R' r W:=e▸h
def qsg {R xs:List Nat} (a:W.ownsRow w.heap.size 5 1 (.slice A n c) n (xs.map B8)) (hc:n<=c) (b:n=abr R) (d:xs=R) (hb:Below w.heap.size w W):sU w R (.returned (.slice A n c)) W:=by
 subst d;subst b
 exact ⟨⟨A,c,rfl,a,hc⟩,hb⟩
def qvf (c:Nat) (l:List Nat) (x:Nat):zc c (l++[x])=AZ (zc c l) x:=by unfold zc;rw [afS];rfl
def qvg {c k:Nat} (h:k<abr l):zc c (l.take (k+1))=AZ (zc c (l.take k)) (l.getD k 0):=by
 rw [adx,getD_at 0 h];exact qvf _ _ _
def wm (h:∀b∈l,b<m) (k:Nat):∀b∈l.take k,b<m:=λb a=>h b (List.mem_of_mem_take a)
theorem yI (h:∀b∈l,b<m) (k:Nat):∀b∈l.drop k,b<m:=λb a=>h b (abQ a)
def zop (h:c<4294967296):sw c<4294967296:=Gw om (Qx _ om)
def Yn (l:List Nat):zq l<4294967296:=by unfold zq;omega
def Yo (n:Nat):∀b∈rQ n,b<256:=by intro b a;simp [rQ] at a;omega
theorem Yp (n:Nat):abr (rQ n)=4:=rfl
theorem qI (l:List Nat):abr (aY l)=abr l+4:=by unfold aY;rw [abu,Yp]
def MV (a:∀b∈l,b<256):∀b∈aY l,b<256:=by
 intro b c
 rcases acg.1 c with h|h
 ·exact a b h
 ·exact Yo _ b h
theorem zcp:∀{l:List Nat},(∀x∈l,x<256)->4<=abr l->rQ (jN l)=l.take 4
 |a::b::c::d::r,e,_=>by
  have f:=e a (by simp)
  have g:=e b (by simp)
  have hc:=e c (by simp)
  have i:=e d (by simp)
  simp [rQ,jN]
  omega
 |[],_,h=>by simp at h
 |[_],_,h=>by simp at h
 |[_,_],_,h=>by simp at h
 |[_,_,_],_,h=>by simp at h
def Yq (h:n<4294967296) (r:List Nat):jN (rQ n++r)=n:=by simp [jN,rQ];omega
theorem zcq (a:∀x∈l,x<256) (h:4<=abr l):rQ (jN (l.drop (abr l-4)))=l.drop (abr l-4):=by grind [yI,zcp,abE,abM]
theorem Yr (a:∀x∈l,x<256) (h:q5 l=true):aY (l.take (abr l-4))=l:=by simp_all [zcq,aY,q5]
theorem MW {l:List Nat}:q5 (aY l)=true:=by
 have a:zq l<4294967296:=Yn l
 have e:abr (aY l)-4=abr l:=by rw [qI];omega
 unfold q5
 rw [decide_eq_true_eq,e]
 unfold aY
 refine ⟨by rw [abu,Yp];omega,?_⟩
 rw [adP,afP]
 have:=Yq a []
 rw [abN] at this
 exact this.symm
def zD (x:Nat):∀b∈ak x,b<256:=by
 intro b a
 unfold ak at a
 obtain ⟨p,c,rfl⟩:=ab7.1 a
 have:=Xf 10 x p c
 unfold bK
 split<;>omega
def zj5 {m:List Nat} (a:∀b∈l,b<256) (hm:∀b∈m,b<256):((j6 l).toList==(j6 m).toList)=decide (l=m):=by
 rw [ab3,beq_iff_eq,decide_eq_true_eq]
 constructor
 ·intro h
  refine zcb a hm ?_
  rw [af7,af7] at h
  cases hx:j6 l;cases hy:j6 m
  rw [hx,hy] at h
  simpa using h
 ·rintro rfl;rfl
set_option linter.all false
def Rq (P:aji) (t:ajj):Bool:=match P.underlying t with
 |some (.array n e)=>n==2&& (P.cellsOf e==1&& (gP P e&&match P.underlying e with
  |some (.int _)=>true
  |_=>false))
 |_=>false
def zds (ht:Rq P t=true) {k:acB} (a b c d:Int) (w:ajg):
  (adl t (.agg #[.int k a,.int k b]) (.agg #[.int k c,.int k d])).run P w= .ok (a==c&&b==d) w:=by
 unfold Rq at ht
 split at ht
 ·rename_i n e r
  simp only [abH,beq_iff_eq] at ht
  obtain ⟨s,u,z,g⟩:=ht
  subst s
  split at g
  ·rename_i A l
   obtain ⟨i,hi⟩:=info_of_underlying l
   show (acZ (9999+1) t _ _).run P w=_
   rw [run_equalIn_array w 9999 _ _ r hi,u]
   have f:∀(xs:Array ajh) (j:Nat) (v:ajh),xs[j]?=some v->(part e xs j).run P w= .ok v w:=λxs j v h=>by
    unfold part
    simp [Gn z,h]
   have m:∀x y,(acZ 9999 e (.int k x) (.int k y)).run P w= .ok (x==y) w:=λx y=>run_equalIn_int w 9998 e k A x y l
   show (Op.eqItems 9999 e 1 _ _ [0,1]).run P w=_
   have B:(part e #[.int k a,.int k b] 0).run P w= .ok (.int k a) w:=f _ _ _ rfl
   have C:(part e #[.int k c,.int k d] 0).run P w= .ok (.int k c) w:=f _ _ _ rfl
   have D:(part e #[.int k a,.int k b] 1).run P w= .ok (.int k b) w:=f _ _ _ rfl
   have E:(part e #[.int k c,.int k d] 1).run P w= .ok (.int k d) w:=f _ _ _ rfl
   have p:=m a c
   have q:=m b d
   generalize (9999:Nat)=dd at p q⊢
   simp only [Op.eqItems,abJ,agr,ahu,B,C,p,abD]
   cases h5:(a==c)<;>cases h6:(b==d)<;>simp [D,E,q,h6]
  ·cases g
 ·cases ht
section
variable {P:aji} {S:ajg->Prop} {σ:List (Nat×ajh)} {o:ajm}
def qsx (c:P.eqGuardType P.depth t=false) (op:BinOp) (x y:ajl) (a b:Array ajh) (w:ajg):(eqGuard op t x y (.agg a) (.agg b)).run P w= .ok () w:=by
 unfold eqGuard
 cases op<;>simp<;>simp [c]
def abl {p q:ajl} {a b c d:Int} (f:o.op= .binOp .neq t p q u) (g:look σ p=some (.agg #[.int k a,.int k b])) (hy:look σ q=some (.agg #[.int k c,.int k d])) (ht:Rq P t=true) (h:P.eqGuardType P.depth t=false):Yl P S σ o (.bool (!(a==c&&b==d))):=λi n D Z w j=>by
 unfold execOp
 have e:(binOp .neq t (.agg #[.int k a,.int k b]) (.agg #[.int k c,.int k d])).run P w= .ok (.bool (!(a==c&&b==d))) w:=by
  show ((do aeG (.bool (!(<-adl t (.agg #[.int k a,.int k b]) (.agg #[.int k c,.int k d])))):Sem ajh)).run P w=_
  simp [zds ht]
 simp only [f,Z.eval g,Z.eval hy,abJ,qsx h,abD,e,abR]
end
def zo3 {o k:Nat} (h:Rd w B 1 (some ⟨g,o,none⟩) n (l.map B8)) (hk:k+2<=abr l):w.rangeAt g (o+k) (#[B8 (l.getD k 0),B8 (l.getD (k+1) 0)]:Array ajh).toList:=λj v a=>by
 have b:=h.range
 rw [afb]
 refine b (k+j) v ?_
 rcases j with _|_|j
 ·simp at a
  rw [acN,<-a]
  exact vY (getD_at 0 om)
 ·simp at a
  rw [<-a]
  exact vY (getD_at 0 om)
 ·simp at a
section
variable {P:aji} {S:ajg->Prop} {σ:List (Nat×ajh)} {o:ajm}
def aap (b:o.op= .binOp .rem t x y u) (c:look σ x=some (.int k (m:Int))) (hy:look σ y=some (.int k (n:Int))) (e:0<n):Yl P S σ o (.int k ((m%n:Nat):Int)):=λa N D Z w f=>by
 have d:uo .rem (.int k (m:Int)) (.int k (n:Int))=some (.int k ((m%n:Nat):Int)):=by
  show (if k=k then EH .rem k (m:Int) (n:Int) else none)=_
  rw [if_pos rfl]
  show (if (n:Int)=0 then none else some (abT k ((m:Int).tmod (n:Int))))=_
  rw [if_neg om]
  exact congrArg some (zi k m n)
 unfold execOp
 simp [b,Z.eval c,Z.eval hy,yw (P:=P) .rem t x y (a:= .int k (m:Int)) rfl,Gb d t]
def aaY (b:o.op= .binOp .quo t x y u) (c:look σ x=some (.int k (m:Int))) (hy:look σ y=some (.int k (n:Int))) (e:0<n) (hm:m<=kU k):Yl P S σ o (.int k ((m/n:Nat):Int)):=λa N D Z w f=>by
 have d:uo .quo (.int k (m:Int)) (.int k (n:Int))=some (.int k ((m/n:Nat):Int)):=by
  show (if k=k then EH .quo k (m:Int) (n:Int) else none)=_
  rw [if_pos rfl]
  show (if (n:Int)=0 then none else some (abT k (k.wrap ((m:Int).tdiv (n:Int)))))=_
  rw [if_neg om]
  exact congrArg some (X0 k n hm)
 unfold execOp
 simp [b,Z.eval c,Z.eval hy,yw (P:=P) .quo t x y (a:= .int k (m:Int)) rfl,Gb d t]
def aat {c:acB} (b:o.op= .binOp .shr t x y u) (d:look σ x=some (.int k (m:Int))) (hy:look σ y=some (.int c (n:Int))) (e:n<=k.bits):Yl P S σ o (.int k ((m/2^n:Nat):Int)):=λa N D Z w g=>by
 have f:uo .shr (.int k (m:Int)) (.int c (n:Int))=some (.int k ((m/2^n:Nat):Int)):=by
  show (if (n:Int)<0 then none else some (abT k (Int.fdiv (m:Int) (2^ (ahF (n:Int).toNat k.bits)))))=_
  rw [if_neg om]
  exact congrArg some (vo k m (j:=n) rfl (by rw [abI,ac9 e]))
 unfold execOp
 simp [b,Z.eval d,Z.eval hy,yw (P:=P) .shr t x y (a:= .int k (m:Int)) rfl,Gb f t]
def aaC {c:acB} (b:o.op= .binOp .shl t x y u) (d:look σ x=some (.int k (m:Int))) (hy:look σ y=some (.int c (n:Int))) (f:n<=k.bits) (hm:m*2^n<=kU k):Yl P S σ o (.int k ((m*2^n:Nat):Int)):=λa N D Z w h=>by
 have g:uo .shl (.int k (m:Int)) (.int c (n:Int))=some (.int k ((m*2^n:Nat):Int)):=by
  show (if (n:Int)<0 then none else some (abT k (k.wrap ((m:Int)*2^ (ahF (n:Int).toNat k.bits)))))=_
  rw [if_neg om]
  have e:(m:Int)*2^ (ahF (n:Int).toNat k.bits)=((m*2^n:Nat):Int):=by rw [abI,ac9 f];norm_cast
  rw [e,yE k hm]
 unfold execOp
 simp [b,Z.eval d,Z.eval hy,yw (P:=P) .shl t x y (a:= .int k (m:Int)) rfl,Gb g t]
end
section
variable {P:aji} {S:ajg->Prop} {σ:List (Nat×ajh)} {o:ajm} {v:ajh}
def Qy (P:aji) (t:ajj):Bool:=match P.underlying t with
 |some (.pointer _)=>true
 |_=>false
def q5l {a:ajq} (ht:Qy P t=true) (w:ajg):(adl t (.pointer a) (.pointer none)).run P w= .ok a.isNone w:=by
 unfold Qy at ht
 split at ht
 ·rename_i c
  show (acZ (9999+1) t (.pointer a) (.pointer none)).run P w=_
  unfold acZ
  cases a<;>simp only [abJ,run_underlying c,abD]<;>rfl
 ·cases ht
def zct {a:ajq} {m c m' g:Nat} (ht:nX P t=true) (w:ajg):(adl t (.slice a m c) (.slice none m' g)).run P w= .ok a.isNone w:=by
 unfold nX at ht
 split at ht
 ·rename_i d
  show (acZ (9999+1) t (.slice a m c) (.slice none m' g)).run P w=_
  unfold acZ
  cases a<;>simp only [abJ,run_underlying d,abD]<;>rfl
 ·cases ht
def aaI {b:Bool} {a:ajq} (c:o.op= .binOp .eql t x y u) (d:look σ x=some (.pointer a)) (hy:look σ y=some (.pointer none)) (hb:a.isNone=b:=by rfl) (ht:Qy P t=true:=by kernel_rfl):Yl P S σ o (.bool b):=λ_ n D Z w f=>by
 subst hb
 unfold execOp
 have e:(binOp .eql t (.pointer a) (.pointer none)).run P w= .ok (.bool a.isNone) w:=by
  show ((do aeG (.bool (<-adl t (.pointer a) (.pointer none))):Sem ajh)).run P w=_
  simp [q5l ht]
 simp only [c,Z.eval d,Z.eval hy,abJ,yw (P:=P) .eql t x y (a:= .pointer a) rfl,abD,e,abR]
def aaz {b:Bool} {a:ajq} {m':Nat} (d:o.op= .binOp .eql t x y u) (f:look σ x=some (.slice a m c)) (hy:look σ y=some (.slice none m' g)) (hb:a.isNone=b:=by rfl) (ht:nX P t=true:=by kernel_rfl):Yl P S σ o (.bool b):=λ_ n D Z w h=>by
 subst hb
 unfold execOp
 have e:(binOp .eql t (.slice a m c) (.slice none m' g)).run P w= .ok (.bool a.isNone) w:=by
  show ((do aeG (.bool (<-adl t (.slice a m c) (.slice none m' g))):Sem ajh)).run P w=_
  simp [zct ht]
 simp only [d,Z.eval f,Z.eval hy,abJ,yw (P:=P) .eql t x y (a:= .slice a m c) rfl,abD,e,abR]
def Yl.nilCheck {p:Addr} (a:o.op= .nilCheck x) (c:look σ x=some (.pointer (some p))):Yl P S σ o (.pointer (some p)):=λ_ n D Z w d=>by
 unfold execOp
 simp only [a,Z.eval c]
 rfl
end
def sV (P:aji) (t:ajj) (a:Array ajh) (off:Nat):Option ajh:=
 match P.underlying t,P.info? t with
 |some (.struct _),some i=>some (.agg (a.extract off (off+i.size)))
 |some (.int _),_=>a[off]?
 |some .bool,_=>a[off]?
 |some .string,_=>a[off]?
 |_,_=>none
def CF (P:aji) (eq:ajj->ajh->ajh->Option Bool) (xs ys:Array ajh):List Field->Option Bool
 |[]=>some true
 | f :: c => if f.name = "_" then none else
  match sV P f.type xs f.offset,sV P f.type ys f.offset with
  |some a,some b=>match eq f.type a b,CF P eq xs ys c with
   |some r,some s=>some (r&&s)
   |_,_=>none
  |_,_=>none
def nY (P:aji):Nat->ajj->ajh->ajh->Option Bool
 |0,_,_,_=>none
 |d+1,t,x,y=>match P.underlying t,x,y with
  |some (.int _),.int k a,.int c b=>if k=c then some (a==b) else none
  |some .bool,.bool a,.bool b=>some (a==b)
  |some .string,.string a,.string b=>some (a.toList==b.toList)
  |some (.struct e),.agg xs,.agg f=>if P.stoodInHeld t then none else CF P (nY P d) xs f e.toList
  |_,_,_=>none
def Yv {off:Nat} {v:ajh} (h:sV P t C off=some v) (w:ajg):(part t C off).run P w= .ok v w:=by
 unfold sV at h
 split at h
 ·rename_i c i a hi
  injection h with h;subst h
  simp [part,isAgg,run_underlying a,sizeOf,typeInfo,hi]
 ·rename_i k _ a
  simp [part,isAgg,run_underlying a,h]
 ·rename_i _ a
  simp [part,isAgg,run_underlying a,h]
 ·rename_i _ a
  simp [part,isAgg,run_underlying a,h]
 ·cases h
def Yw {P:aji} {d:Nat} (c:∀(t:ajj) (x y:ajh) (b:Bool),nY P d t x y=some b->∀w,(acZ d t x y).run P w= .ok b w) {xs ys:Array ajh}:∀(a:List Field) (b:Bool),CF P (nY P d) xs ys a=some b->∀w,(Op.eqFields d xs ys a).run P w= .ok b w
 |[],b,h,w=>by
  injection h with h;subst h;rfl
 | f :: a, b, h, w => by
  unfold CF at h
  split at h
  ·cases h
  ·rename_i e
   split at h
   ·rename_i p q g i
    split at h
    ·rename_i r s j hs
     injection h with h;subst h
     unfold Op.eqFields
     rw [if_pos e]
     simp only [abJ,Yv g,Yv i,c _ _ _ _ j,abD]
     cases r
     ·simp
     ·simp [Yw c a s hs w]
    ·cases h
   ·cases h
def Yx {P:aji}:∀(d:Nat) (t:ajj) (x y:ajh) (b:Bool),nY P d t x y=some b->∀w,(acZ d t x y).run P w= .ok b w
 |0,_,_,_,_,h,_=>by cases h
 | d + 1, t, x, y, b, h, w => by
  unfold nY at h
  split at h
  ·rename_i l k a m e c
   split at h
   ·rename_i g;subst g;injection h with h;subst h;exact run_equalIn_int w d t _ _ _ _ c
   ·cases h
  ·rename_i a e c;injection h with h;subst h;exact run_equalIn_bool' w d t _ _ c
  ·rename_i a e c;injection h with h;subst h;exact run_equalIn_string w d t _ _ c
  ·rename_i i xs j c
   split at h
   ·cases h
   ·rename_i hs
    have f:P.fieldsOf t=i:=by unfold Program.fieldsOf;rw [c]
    rw [run_equalIn_struct w d t xs j (by rw [c,f]) (by simpa using hs),f]
    exact Yw (Yx d) _ _ h w
  ·cases h
def Yy {P:aji}:∀(d:Nat) (t:ajj) (x y:ajh) (b:Bool),nY P d t x y=some b->nY P (d+1) t x y=some b
 |0,_,_,_,_,h=>by cases h
 | d + 1, t, x, y, b, h => by
  have g : ∀ (c : List Field) (xs e : Array ajh) (b : Bool), CF P (nY P d) xs e c = some b -> CF P (nY P (d + 1)) xs e c = some b := by
   intro c
   induction c with
   |nil=>intro xs e b h;exact h
   | cons f c i =>
    intro xs e b h
    unfold CF at h⊢
    split at h
    ·cases h
    ·rename_i j
     rw [if_neg j]
     split at h
     ·rename_i p q l m
      split at h
      ·rename_i r s k hs
       injection h with h;subst h
       simp only [Yy d _ _ _ _ k,i _ _ _ hs]
      ·cases h
     ·cases h
  unfold nY at h⊢
  split at h
  ·rename_i a;(try simp only [a]);exact h
  ·rename_i a;(try simp only [a]);exact h
  ·rename_i a;(try simp only [a]);exact h
  ·rename_i c xs e a
   (try simp only [a])
   split at h
   ·cases h
   ·rename_i hs
    rw [if_neg hs]
    exact g _ _ _ _ h
  ·cases h
def Yz {P:aji} {d:Nat} {t:ajj} {x y:ajh} {b:Bool} (h:nY P d t x y=some b):∀k,nY P (d+k) t x y=some b
 |0=>h
 |k+1=>Yy _ _ _ _ _ (Yz h k)
section
variable {P:aji} {S:ajg->Prop} {σ:List (Nat×ajh)} {o:ajm} {b:Bool}
def qvh {xs:Array ajh} {d:Nat} (h:nY P d t (.agg xs) (.agg ys)=some b) (c:d<=10000) (w:ajg):(adl t (.agg xs) (.agg ys)).run P w= .ok b w:=by
 unfold adl
 have a:=Yz h (10000-d)
 rw [show d+(10000-d)=10000 by omega] at a
 exact Yx _ _ _ _ _ a w
def qvi (hm:P.eqGuardType P.depth t=false) (op:BinOp) (x y:ajl) (a c:Array ajh) (w:ajg):(eqGuard op t x y (.agg a) (.agg c)).run P w= .ok () w:=run_eqGuard_agg w op t x y a c hm
def aax {p q:ajl} {xs:Array ajh} {d:Nat} (c:o.op= .binOp .neq t p q u) (f:look σ p=some (.agg xs)) (hy:look σ q=some (.agg ys)) (h:nY P d t (.agg xs) (.agg ys)=some b) (g:d<=10000:=by decide) (hm:P.eqGuardType P.depth t=false:=by kernel_rfl):Yl P S σ o (.bool !b):=λa n D Z w i=>by
 unfold execOp
 have e:(binOp .neq t (.agg xs) (.agg ys)).run P w= .ok (.bool !b) w:=by
  show ((do aeG (.bool (!(<-adl t (.agg xs) (.agg ys)))):Sem ajh)).run P w=_
  simp [qvh h g]
 simp only [c,Z.eval f,Z.eval hy,abJ,qvi hm,abD,e,abR]
end
def NM (P:aji) (t:ajj) (n sz:Nat):Bool:=match P.underlying t with
 |some (.array m e)=>m==n&& (match P.info? e with|some i=>i.size==sz|none=>false)
 |_=>false
theorem qtd (h:NM P t n sz=true):∃e i,P.underlying t=some (.array n e)/\P.info? e=some i/\i.size=sz:=by grind [NM]
def qy2 (P:aji) (t:ajj) (sz:Nat) (vs:List (Nat×ajh)):Option (Array ajh):=match yx P t with
 |some a=>ae2 (λi=>some (i*sz,sz)) a vs
 |none=>none
section
variable {P:aji} {S:ajg->Prop} {σ:List (Nat×ajh)} {o:ajm} {t:ajj} {n sz:Nat}
def aaS {ad:Addr} (b:o.op= .slice t x none none none) (g:look σ x=some (.pointer (some ad))) (ht:NM P t n sz=true) (h:(n==0)=false:=by decide):Yl P S σ o (.slice (some ad) n n):=λa N D Z w k=>by
 obtain ⟨e,i,c,hi,_⟩:=qtd ht
 have d:P.arrayLen t=n:=by unfold Program.arrayLen;rw [c]
 have f:P.elem t=e:=by unfold Program.elem;rw [c]
 have e1:(adH t (.pointer (some ad)) none none none).run P w= .ok (.slice (some ad) n n) w:=by
  rw [run_sliceAt_array_all w t ad (by rw [d,f];exact c),f,d]
  have j:n≠0:=by simpa using h
  simp [sizeOf,typeInfo,hi,slicedAt,j,Addr.add]
 unfold execOp
 simp only [b,Z.eval g,aeJ,abJ,abR,e1,abD]
def aay {vs:List (Nat×ajh)} (c:o.op= .build t ps) (j:yB σ ps.toList=some vs) (k:NM P t n sz=true) (hb:qy2 P t sz vs=some C):Yl P S σ o (.agg C):=λa N D Z w q=>by
 have d:=Qj Z j
 obtain ⟨e,r,l,m,f⟩:=qtd k
 obtain ⟨b,hz,hb⟩:∃b,yx P t=some b/\ae2 (λi=>some (i*sz,sz)) b vs=some C:=by
  unfold qy2 at hb
  split at hb
  ·rename_i b hz;exact ⟨b,hz,hb⟩
  ·cases hb
 unfold yx at hz
 obtain ⟨s,g,rfl⟩:=adv.1 hz
 obtain ⟨i,hi,h⟩:=ado.1 g
 have e1:(aev t (ps.map λp=>(p.1,a.eval p.2))).run P w= .ok (.agg C) w:=by
  rw [d]
  unfold aev
  subst f
  simp only [abJ,zeroValue,sizeOf,typeInfo,program,afy,hi,m,h,abR,abD,run_underlying l]
  rw [hb];rfl
 unfold execOp
 simp only [c,abJ,abR]
 show ((aev t (ps.map λp=>(p.1,a.eval p.2))).run P w).andThen _=_
 rw [e1]
 rfl
end
theorem Mem.Iq (h:Mem W w fs) {i g:Nat} {C ds:Array ajh} {t:ajj} (hi:fs[i]?=some (.blk g C t)) (a:C=ds):Mem W w (fs.set i (.blk g ds t)):=by grind [abF,ad4]
section
variable {P:aji} {S:ajg->Prop} {σ:List (Nat×ajh)} {o:ajm} {v:ajh}
end
section
variable {P:aji} {ops:Array ajm} {Q:ajp->Act->ajg->Prop} {a:Act} {W w:ajg} {n i j d fuel:Nat} {D:List ajo} {σ σ':List (Nat×ajh)} {o:ajm} {v:ajh} {md:Region.Mode} {S:ajg->Prop} {K:Act->ajg->Prop} {listed:Array Bool} {fs fs':List ajr} {ex:List Nat}
def aad {α:Type} {F:α->ajh} {l:List α} {of:Nat} (hr:Rd W W.heap.size 1 (some ⟨g,of,none⟩) m (l.map F)) (b:Nat) (e:α) (hk:b<l.length) (c:o.op= .load t x) (f:look σ x=some (.pointer (some ⟨g,of+b*1,none⟩))) (ht:gP P t=true:=by kernel_rfl) (p:F (l.getD b e)=v:=by exact rfl):Yl P (λq=>Mem W q fs) σ o v:=by
 subst p
 exact Pd c f ht λ_ h=>(h.old hr).Ct (k:=b) (vY (getD_at e hk))
def aae {α:Type} {F:α->ajh} {l:List α} {e:ajj} (j b:Nat) (k:α) (hk:b<l.length) (f:o.op= .load t x) (p:look σ x=some (.pointer (some ⟨g,b*1,none⟩))) (hi:fs[j]?=some (.row (.slice (some ⟨g,0,none⟩) m c) m (l.map F) e 1)) (ht:gP P t=true:=by kernel_rfl) (q:F (l.getD b k)=v:=by exact rfl):Yl P (λr=>Mem W r fs) σ o v:=by
 subst q
 exact Pd f p ht λ_ h=>h.XU hi (vY (getD_at k hk))
def bt (n:Nat) (l:List Nat):Array Bool:=((acw n).map λi=> !l.contains i).toArray
def bf (n:Nat) (l:List Nat):Array Bool:=((acw n).map λi=>l.contains i).toArray
def iN (Z:Fr a n D σ) (g:S w) (i:Nat) (l:ops[i]?=some o) (hy:Yl P S σ o v) (k:∀f,Fr f n D ((d,v)::σ)->ql P md ops Q S ex fuel (listed.setIfInBounds i true) f w) (m:eB ops σ o=some true:=by exact rfl) (p:o.dst=some d:=by exact rfl)
  (b:d<n:=by decide) (e:sS md ops ex listed i=true:=by kernel_rfl) (q:∀c (a:Act) w,Q (.panic c) (a.put o.dst v) w->Q (.panic c) a w:=by intro _ _ _ h;exact h):ql P md ops Q S ex (fuel+1) listed a w:=EK Z g l m p b e q hy k
def dJ {off:Nat} (Z:Fr a n D σ) (p:Mem W w fs) (i j:Nat) (k:∀m,Fr m n D ((d,v)::σ)->ql P md ops Q (λb=>Mem W b fs) ex fuel (listed.setIfInBounds i true) m w) (q:ops[i]?=some o:=by exact rfl) (e:o.op= .load t x:=by exact rfl) (r:look σ x=some (.pointer (some ⟨g,off,none⟩)):=by exact rfl) (hi:fs[j]?=some (.blk g C tb):=by exact rfl) (s:C[off]?=some v:=by exact rfl) (u:eB ops σ o=some true:=by exact rfl) (y:o.dst=some d:=by exact rfl)
  (ht:gP P t=true:=by kernel_rfl) (f:d<n:=by decide) (l:sS md ops ex listed i=true:=by kernel_rfl) (z:∀c (a:Act) w,Q (.panic c) (a.put o.dst v) w->Q (.panic c) a w:=by intro _ _ _ h;exact h):ql P md ops Q (λb=>Mem W b fs) ex (fuel+1) listed a w:=EK Z p q u y f l z (Pd e r ht λ_ h=>h.cell hi s) k
def uE (Z:Fr a n D σ) (l:S w) (i:Nat) (k:∀g,Fr g n D ((d,.int .i64 (m:Int))::σ)->ql P md ops Q S ex fuel (listed.setIfInBounds i true) g w) (p:ops[i]?=some o:=by exact rfl) (b:o.op= .call {callee:= .builtin .len,args:= #[x],argTypes:= #[t]}:=by exact rfl) (q:look σ x=some (.slice A m c):=by exact rfl) (r:eB ops σ o=some true:=by exact rfl) (s:o.dst=some d:=by exact rfl)
  (ht:nX P t=true:=by kernel_rfl) (e:d<n:=by decide) (f:sS md ops ex listed i=true:=by kernel_rfl) (u:∀c (a:Act) w,Q (.panic c) (a.put o.dst (.int .i64 (m:Int))) w->Q (.panic c) a w:=by intro _ _ _ h;exact h):ql P md ops Q S ex (fuel+1) listed a w:=EK Z l p r s e f u (Yl.len b q ht) k
def CG {p:Addr} (Z:Fr a n D σ) (l:eD ex listed=false->S w) (i:Nat) (k:∀g,Fr g n D ((d,.pointer (some p))::σ)->ql P md ops Q S ex fuel (listed.setIfInBounds i true) g w) (m:ops[i]?=some o:=by exact rfl) (b:o.op= .nilCheck x:=by exact rfl) (q:look σ x=some (.pointer (some p)):=by exact rfl) (r:eB ops σ o=some true:=by exact rfl) (s:o.dst=some d:=by exact rfl)
  (e:d<n:=by decide) (f:p9 md ops ex listed i=true:=by kernel_rfl) (t:∀c (a:Act) w,Q (.panic c) (a.put o.dst (.pointer (some p))) w->Q (.panic c) a w:=by intro _ _ _ h;exact h):ql P md ops Q S ex (fuel+1) listed a w:=qH Z l m r s e f t (λ_=>Yl.nilCheck b q) k
def pE {p:Addr} (Z:Fr a n D σ) (l:S w) (i:Nat) (k:∀g,Fr g n D ((d,.pointer (some p))::σ)->ql P md ops Q S ex fuel (listed.setIfInBounds i true) g w) (m:ops[i]?=some o:=by exact rfl) (b:o.op= .nilCheck x:=by exact rfl) (q:look σ x=some (.pointer (some p)):=by exact rfl) (r:eB ops σ o=some true:=by exact rfl) (s:o.dst=some d:=by exact rfl)
  (e:d<n:=by decide) (f:sS md ops ex listed i=true:=by kernel_rfl) (t:∀c (a:Act) w,Q (.panic c) (a.put o.dst (.pointer (some p))) w->Q (.panic c) a w:=by intro _ _ _ h;exact h):ql P md ops Q S ex (fuel+1) listed a w:=EK Z l m r s e f t (Yl.nilCheck b q) k
def s_on (Z:Fr a n D σ) (i:Nat) (c:ops[i]?=some o) (h:o.wp P a w (λe b=>(eD ex (listed.setIfInBounds i true)=false->S b)/\ql P md ops Q S ex fuel (listed.setIfInBounds i true) e b) Q) (hr:Region.ready md ops listed=[i]:=by kernel_rfl) (f:eB ops σ o=some true:=by exact rfl):ql P md ops Q S ex (fuel+1) listed a w:=zh [i] hr rfl (all_cons (qu Z c f h) all_nil)
def CJ {xs:Array ajl} {ts:Array ajj} {V:ajq->Nat->ajh} {e:ajj} {ys:List ajh} (Z:Fr a n D σ) (p:Mem W w fs) (vs:List ajh) (q:Calls P f vs.toArray w (λr b=>(∃A c,r= .returned (V A c)/\b.ownsRow w.heap.size e sz (.slice A m c) m ys/\m<=c)/\Below w.heap.size w b))
  (k:∀A c b,m<=c->Mem W b (.row (.slice A m c) m ys e sz::fs)->∀g,Fr g n D ((d,V A c)::σ)->K g b) (h:o.op= .call {callee:= .value (.func f),args:=xs,argTypes:=ts}:=by exact rfl) (s:o.dst=some d:=by exact rfl) (t:looks σ xs.toList=some vs:=by kernel_rfl) (u:callable P f=true:=by kernel_rfl) (l:d<n:=by decide):o.wp P a w K Q:=
 lT Z vs h s q (λe b ⟨⟨A,c,x,y,z⟩,B⟩=>⟨_,x,λg Z=>k A c b z (p.dh B y) g Z⟩) t u l
def Gz {xs:Array ajl} {ts:Array ajj} (Z:Fr a n D σ) (vs:List ajh) (l:Calls P f vs.toArray w (λr b=>r= .returned v/\Mem W b fs')) (k:∀b,Mem W b fs'->∀h,Fr h n D ((d,v)::σ)->K h b) (c:o.op= .call {callee:= .value (.func f),args:=xs,argTypes:=ts}:=by exact rfl) (m:o.dst=some d:=by exact rfl) (p:looks σ xs.toList=some vs:=by kernel_rfl) (q:callable P f=true:=by kernel_rfl) (g:d<n:=by decide):o.wp P a w K Q:=
 lT Z vs c m l (λe b ⟨s,t⟩=>⟨_,s,k b t⟩) p q g
def nZ {f:Nat} {fn:Func} {c:Code} (b:P.funcs[f]?=some fn) (vs:List ajh) (σ0:List (Nat×ajh)) (k:∀a,Fr a N [] σ0->c.wp P (bodyPost P fn R) a w) (hb:fn.body=some c:=by exact rfl) (e:fn.ntmps=N:=by exact rfl) (g:decide (vs.length<=N)=true:=by kernel_rfl) (h:AU 0 vs=σ0:=by exact rfl):Calls P f vs.toArray w R:=yC b hb e g h k
theorem Mem.pk (h:Mem W w fs) (b:List Nat) (c:b.Nodup:=by decide) (e:Go.Proofs.YtekiimhdnigmcaaGreatDoor.picks fs b=fs':=by exact rfl):Mem W w fs':=h.picks b c e
theorem Mem.pt (h:Mem W w fs) (n:Nat) (b:List Nat) (e:b.Nodup:=by decide) (c:(b.all (· <n))=true:=by decide) (f:Go.Proofs.YtekiimhdnigmcaaGreatDoor.picks fs b++fs.drop n=fs':=by exact rfl):Mem W w fs':=h.Qm n b e c f
def iq (Z:Fr a n D σ) (m:Mem W w fs) {e:ajj} (f:Array ajh) (k:∀h l g,Fr h n D ((d,.pointer (some ⟨g,0,none⟩))::σ)->Mem W l (.blk g f e::fs)->K h l) (b:o.op= .alloc e:=by exact rfl) (hz:yx P e=some f:=by kernel_rfl) (p:o.dst=some d:=by exact rfl) (c:d<n:=by decide):o.wp P a w K Q:=Qi Z m b hz p c k
def eU (Z:Fr a n D σ) (e:Mem W w fs) (i:Nat) {t:ajj} {x y:ajl} {g off:Nat} {C:Array ajh} {tb:ajj} (k:∀c,Mem W c (fs.set i (.blk g (C.setIfInBounds off v) tb))->K a c) (b:o.op= .store t x y:=by exact rfl) (f:o.dst=none:=by exact rfl) (h:look σ x=some (.pointer (some ⟨g,off,none⟩)):=by exact rfl) (hy:look σ y=some v:=by exact rfl) (hs:(P.info? t).map (·.size)=some 1:=by kernel_rfl) (l:v.oneCell'=true:=by exact rfl) (hi:fs[i]?=some (.blk g C tb):=by exact rfl) (m:off<C.size:=by simp):o.wp P a w K Q:=rP Z e b f h hy hs l hi m k
def jG {t len e:Nat} {size bytes:Nat} (Z:Fr a n D σ) (m:Mem W w fs) (p:EI P t e z size bytes) (vs:List (Nat×ajh)) (f:Array ajh) (k:∀h l g,Fr h n D ((d,.slice (some ⟨g,0,none⟩) len len)::σ)->Mem W l (.blk g f e::fs)->K h l) (b:o.op= .buildSlice t len ps:=by exact rfl) (q:decide (0<len/\len*size<=16777216)=true:=by decide) (r:yB σ ps.toList=some vs:=by exact rfl)
  (s:Instr.fill (λi=>some (i*size,size)) (ML z.cells (len*size)) vs=some f:=by kernel_rfl) (u:o.dst=some d:=by exact rfl) (c:d<n:=by decide):o.wp P a w K Q:=XQ Z m b p q r s u c k
section
variable {fn:Func} {R:ajk->ajg->Prop} {t1 t2 t3:Nat} {v1 v2 v3:ajh}
def l8 (hr:fn.results= #[.tmp t1]) (Z:Fr a n [] σ) (h1:σ.lookup t1=some v1) (b:R (.returned v1) w):bodyPost P fn R .ret a w:=jc hr Z (.tmp Z h1) b
def qJ (hr:fn.results= #[.tmp t1,.tmp t2]) (Z:Fr a n [] σ) (h1:σ.lookup t1=some v1) (b:σ.lookup t2=some v2) (c:R (.returned (.tuple #[v1,v2])) w):bodyPost P fn R .ret a w:=dS hr Z (.tmp Z h1) (.tmp Z b) c
end
end
section
variable {α:Type}
inductive At:List α->α->Prop
 |z {a:α} {l:List α}:At (a::l) a
 |s {a b:α} {l:List α} (h:At l a):At (b::l) a
inductive l9 (a b:α):List α->List α->Prop
 |z {l:List α}:l9 a b (a::l) (b::l)
 |s {c:α} {l m:List α} (h:l9 a b l m):l9 a b (c::l) (c::m)
inductive uF:List α->List α->Prop
 |n {l:List α}:uF l l
 |t {a:α} {l m:List α} (h:uF l m):uF (a::l) (a::m)
 |f {a:α} {l m:List α} (h:uF l m):uF (a::l) m
def At.get {l:List α} {a:α} (h:At l a):∃i:Nat,l[i]?=some a:=by
 induction h with
 |z=>exact ⟨0,rfl⟩
 |s _ e=>obtain ⟨i,hi⟩:=e;exact ⟨i+1,by simpa using hi⟩
def l9.get {a b:α} {l m:List α} (h:l9 a b l m):∃i:Nat,l[i]?=some a/\m=l.set i b:=by
 induction h with
 |z=>exact ⟨0,rfl,rfl⟩
 |s _ e=>obtain ⟨i,hi,rfl⟩:=e;exact ⟨i+1,by simpa using hi,rfl⟩
theorem uF.sub {l m:List α} (h:uF l m):m.Sublist l:=by
 induction h with
 |n=>exact ahL _
 |t _ e=>exact e.cons₂ _
 |f _ e=>exact e.cons _
variable {a b x1 x2 x3 x4 x5 x6 x7 x8 x9 y1 y2:α} {l m:List α}
def O0:At (a::l) a:= .z
def O1:At (x1::a::l) a:= .s .z
def O2:At (x1::x2::a::l) a:= .s O1
def O3:At (x1::x2::x3::a::l) a:= .s O2
def O4:At (x1::x2::x3::x4::a::l) a:= .s O3
def O5:At (x1::x2::x3::x4::x5::a::l) a:= .s O4
def O6:At (x1::x2::x3::x4::x5::x6::a::l) a:= .s O5
def O7:At (x1::x2::x3::x4::x5::x6::x7::a::l) a:= .s O6
def O8:At (x1::x2::x3::x4::x5::x6::x7::x8::a::l) a:= .s O7
def O9:At (x1::x2::x3::x4::x5::x6::x7::x8::x9::a::l) a:= .s O8
def O10:At (x1::x2::x3::x4::x5::x6::x7::x8::x9::y1::a::l) a:= .s O9
def aN:l9 a b (a::l) (b::l):= .z
def gu:l9 a b (x1::a::l) (x1::b::l):= .s .z
def iE:l9 a b (x1::x2::a::l) (x1::x2::b::l):= .s gu
theorem oI:l9 a b (x1::x2::x3::a::l) (x1::x2::x3::b::l):= .s iE
def qK:l9 a b (x1::x2::x3::x4::a::l) (x1::x2::x3::x4::b::l):= .s oI
def rR:l9 a b (x1::x2::x3::x4::x5::a::l) (x1::x2::x3::x4::x5::b::l):= .s qK
def vw:l9 a b (x1::x2::x3::x4::x5::x6::a::l) (x1::x2::x3::x4::x5::x6::b::l):= .s rR
def wo:l9 a b (x1::x2::x3::x4::x5::x6::x7::a::l) (x1::x2::x3::x4::x5::x6::x7::b::l):= .s vw
def GA:l9 a b (x1::x2::x3::x4::x5::x6::x7::x8::a::l) (x1::x2::x3::x4::x5::x6::x7::x8::b::l):= .s wo
def QA:l9 a b (x1::x2::x3::x4::x5::x6::x7::x8::x9::a::l) (x1::x2::x3::x4::x5::x6::x7::x8::x9::b::l):= .s GA
end
def nth {α:Type}:List α->Nat->Option α
 |[],_=>none
 |x::_,0=>some x
 |_::r,n+1=>nth r n
def QB {α:Type}:∀(l:List α) (i:Nat),nth l i=l[i]?
 |[],_=>rfl
 |_::_,0=>rfl
 |_::r,n+1=>by rw [ad1];exact QB r n
def MZ {α:Type} {l:Array α} {x:α} (h:nth l.toList i=some x):l[i]?=some x:=by
 rw [QB] at h;simpa using h
def kF:acB->Option Nat
 | .i8=>some 127| .i16=>some 32767| .i32=>some 2147483647| .i64=>some 9223372036854775807
 | .u8=>some 255| .u16=>some 65535| .u32=>some 4294967295| .u64=>some 18446744073709551615
def ER (e:kF k=some B) (h:m<=B):adr k (m:Int)=(m:Int):=
 yE k (adg h (by cases k<;>(injection e with e;subst e;exact abx _)))
section
variable {P:aji} {ops o2:Array ajm} {Q:ajp->Act->ajg->Prop} {a:Act} {W w:ajg} {n i j d d2:Nat} {D:List ajo} {σ σ':List (Nat×ajh)} {o o':ajm} {op:Op} {v v1 v2 v3:ajh} {X:Act->ajg->Prop} {fs fs':List ajr} {p q:Nat×ajh}
def JJ (W w:ajg) (n:Nat) (D:List ajo) (σ:List (Nat×ajh)) (fs:List ajr) (X:Act->ajg->Prop):Prop:=∀a,Fr a n D σ->Mem W w fs->X a w
def Jb (Z:Fr a n D σ) (e:Mem W w fs) (h:JJ W w n D σ fs X):X a w:=h a Z e
def Fr.jg {xs:List (Nat×ajh)} (h:Fr a n D (q::(xs++σ))) (C:(xs.all λp=>p.1==q.1||(σ.lookup p.1).isNone)=true):Fr a n D (q::σ):=by
 refine ⟨h.size,h.defers,λt v s=>h.slot t v ?_⟩
 obtain ⟨F,G⟩:=q
 simp only [acV] at s⊢
 split at s
 ·exact s
 ·rename_i e
  rw [Gi]
  cases hl:xs.lookup t with
  |none=>exact s
  |some u=>
   exfalso
   obtain ⟨r,E,A⟩:=MI (Gj hl)
   have:=ace.1 C r E
   rw [A,adD] at this
   rcases this with z|z
   ·simp only [e] at z;cases z
   ·rw [s] at z;cases z
def Fr.oJ {xs:List (Nat×ajh)} (h:Fr a n D (xs++σ)) (z:(xs.all λp=>(σ.lookup p.1).isNone)=true):Fr a n D σ:=by
 refine ⟨h.size,h.defers,λt v s=>h.slot t v ?_⟩
 rw [Gi]
 cases hl:xs.lookup t with
 |none=>exact s
 |some u=>
  exfalso
  obtain ⟨r,A,e⟩:=MI (Gj hl)
  have:=ace.1 z r A
  rw [e,s] at this
  cases this
section
variable {p1 p2 p3 p4 p5 p6 p7 p8:Nat×ajh}
theorem aL (h:([p1].all λp=>p.1==q.1||(σ.lookup p.1).isNone)=true:=by kernel_rfl) (k:JJ W w n D (q::σ) fs X):JJ W w n D (q::p1::σ) fs X:=λa Z=>k a (Z.jg (xs:=[p1]) h)
def bU (h:([p1,p2].all λp=>p.1==q.1||(σ.lookup p.1).isNone)=true:=by kernel_rfl) (k:JJ W w n D (q::σ) fs X):JJ W w n D (q::p1::p2::σ) fs X:=λa Z=>k a (Z.jg (xs:=[p1,p2]) h)
def eO (h:([p1,p2,p3].all λp=>p.1==q.1||(σ.lookup p.1).isNone)=true:=by kernel_rfl) (k:JJ W w n D (q::σ) fs X):JJ W w n D (q::p1::p2::p3::σ) fs X:=λa Z=>k a (Z.jg (xs:=[p1,p2,p3]) h)
theorem fK (h:([p1,p2,p3,p4].all λp=>p.1==q.1||(σ.lookup p.1).isNone)=true:=by kernel_rfl) (k:JJ W w n D (q::σ) fs X):JJ W w n D (q::p1::p2::p3::p4::σ) fs X:=λa Z=>k a (Z.jg (xs:=[p1,p2,p3,p4]) h)
def kV (h:([p1,p2,p3,p4,p5].all λp=>p.1==q.1||(σ.lookup p.1).isNone)=true:=by kernel_rfl) (k:JJ W w n D (q::σ) fs X):JJ W w n D (q::p1::p2::p3::p4::p5::σ) fs X:=λa Z=>k a (Z.jg (xs:=[p1,p2,p3,p4,p5]) h)
theorem aI (h:([p1,p2,p3,p4,p5,p6].all λp=>p.1==q.1||(σ.lookup p.1).isNone)=true:=by kernel_rfl) (k:JJ W w n D (q::σ) fs X):JJ W w n D (q::p1::p2::p3::p4::p5::p6::σ) fs X:=λa Z=>k a (Z.jg (xs:=[p1,p2,p3,p4,p5,p6]) h)
def mW (h:([p1].all λp=>(σ.lookup p.1).isNone)=true:=by kernel_rfl) (k:JJ W w n D σ fs X):JJ W w n D (p1::σ) fs X:=λa Z=>k a (Z.oJ (xs:=[p1]) h)
def nO (h:([p1,p2].all λp=>(σ.lookup p.1).isNone)=true:=by kernel_rfl) (k:JJ W w n D σ fs X):JJ W w n D (p1::p2::σ) fs X:=λa Z=>k a (Z.oJ (xs:=[p1,p2]) h)
def oK (h:([p1,p2,p3].all λp=>(σ.lookup p.1).isNone)=true:=by kernel_rfl) (k:JJ W w n D σ fs X):JJ W w n D (p1::p2::p3::σ) fs X:=λa Z=>k a (Z.oJ (xs:=[p1,p2,p3]) h)
def wu (h:([p1,p2,p3,p4].all λp=>(σ.lookup p.1).isNone)=true:=by kernel_rfl) (k:JJ W w n D σ fs X):JJ W w n D (p1::p2::p3::p4::σ) fs X:=λa Z=>k a (Z.oJ (xs:=[p1,p2,p3,p4]) h)
def qL (h:([p1,p2,p3,p4,p5].all λp=>(σ.lookup p.1).isNone)=true:=by kernel_rfl) (k:JJ W w n D σ fs X):JJ W w n D (p1::p2::p3::p4::p5::σ) fs X:=λa Z=>k a (Z.oJ (xs:=[p1,p2,p3,p4,p5]) h)
def jh (h:([p1,p2,p3,p4,p5,p6].all λp=>(σ.lookup p.1).isNone)=true:=by kernel_rfl) (k:JJ W w n D σ fs X):JJ W w n D (p1::p2::p3::p4::p5::p6::σ) fs X:=λa Z=>k a (Z.oJ (xs:=[p1,p2,p3,p4,p5,p6]) h)
end
theorem Mem.sel (h:Mem W w fs) (m:uF fs fs'):Mem W w fs':=⟨h.below,λf e=>h.holds f (m.sub.subset e),h.apart.sublist m.sub⟩
def JM (m:uF fs fs') (k:JJ W w n D σ fs' X):JJ W w n D σ fs X:=λa Z e=>k a Z (e.sel m)
def gX (ops:Array ajm) (σ:List (Nat×ajh)) (n i:Nat):Option (Nat×Op):=match ops[i]? with
 |some o=>match eB ops σ o,o.dst with
  |some true,some d=>if d<n then some (d,o.op) else none
  |_,_=>none
 |none=>none
def GD (h:gX ops σ n i=some (d,op)):∃o,ops[i]?=some o/\eB ops σ o=some true/\o.dst=some d/\d<n/\o.op=op:=by
 unfold gX at h
 split at h
 ·rename_i o r
  split at h
  ·rename_i C s u
   split at h
   ·rename_i e
    injection h with h
    injection h with z A
    subst z;subst A
    exact ⟨o,r,s,u,e,rfl⟩
   ·cases h
  ·cases h
 ·cases h
def aai (h:gX ops σ n i=some (d,op)) (hy:∀o:ajm,o.op=op->Yl P (λe=>Mem W e fs) σ o v) (k:JJ W w n D ((d,v)::σ) fs (qi P ops Q (i+1))):JJ W w n D σ fs (qi P ops Q i):=by
 obtain ⟨o,u,z,A,r,C⟩:=GD h
 exact λ_ Z s=>MH (S:=λe=>Mem W e fs) Z s u z A r (hy o C) λa Z=>k a Z s
def aal (h:gX ops σ n i=some (d,op)) (k:∀(o:ajm) a,o.op=op->o.dst=some d->d<n->Fr a n D σ->Mem W w fs->o.wp P a w (qi P ops Q (i+1)) Q):JJ W w n D σ fs (qi P ops Q i):=by
 obtain ⟨o,r,s,u,e,z⟩:=GD h
 exact λa Z A=>Gh Z r s (k o a z u e Z A)
theorem Jp (m:Nat) (h:rO P ops n m i σ=some σ':=by exact rfl) (k:JJ W w n D σ' fs (qi P ops Q (i+m))):JJ W w n D σ fs (qi P ops Q i):=
 λ_ Z r=>Qe m i Z h rfl λs e=>k s e r
def Jv (m:Nat) (new:List (Nat×ajh)) (h:(rO P ops n m i σ).map (λs=>(thin s σ new,new.map λp=>s.lookup p.1))=some (true,new.map λp=>some p.2):=by kernel_rfl) (k:JJ W w n D (new++σ) fs (qi P ops Q (i+m))):JJ W w n D σ fs (qi P ops Q i):=
 λ_ Z r=>fp Z m i new (λu e=>k u e r) h
def Jf (off:Nat) {s f g b:Nat} {x:ajl} (h:gX ops σ n i=some (d,.fieldAddr s x f):=by exact rfl) (e:look σ x=some (.pointer (some ⟨g,b,none⟩)):=by exact rfl) (r:EJ P s f=some off:=by kernel_rfl) (k:JJ W w n D ((d,.pointer (some ⟨g,b+off,none⟩))::σ) fs (qi P ops Q (i+1))):JJ W w n D σ fs (qi P ops Q i):=
 aai h (λo u=>Yl.pure (by rw [u];simp only [uq,e,r];rw [acL])) k
def Jc {off:Nat} (O:At fs (.blk g C tb)) (h:gX ops σ n i=some (d,.load t x):=by exact rfl) (e:look σ x=some (.pointer (some ⟨g,off,none⟩)):=by exact rfl) (r:nth C.toList off=some v:=by exact rfl) (ht:gP P t=true:=by kernel_rfl) (k:JJ W w n D ((d,v)::σ) fs (qi P ops Q (i+1))):JJ W w n D σ fs (qi P ops Q i):=
 aai h (λo s=>Pd s e ht λ_ h=>let ⟨_,hi⟩:=O.get;h.cell hi (MZ r)) k
def Jg (off:Nat) {s f g b:Nat} {x:ajl} {t tb:ajj} {C:Array ajh} (O:At fs (.blk g C tb)) (h:gX ops σ n i=some (d,.fieldAddr s x f):=by exact rfl) (e:look σ x=some (.pointer (some ⟨g,b,none⟩)):=by exact rfl) (r:gX ops ((d,.pointer (some ⟨g,b+off,none⟩))::σ) n (i+1)=some (d2,.load t (.tmp d)):=by exact rfl) (u:nth C.toList (b+off)=some v:=by exact rfl)
 (hk:(gP P t&& (EJ P s f==some off&& (d2==d||(σ.lookup d).isNone)))=true:=by kernel_rfl) (k:JJ W w n D ((d2,v)::σ) fs (qi P ops Q (i+2))):JJ W w n D σ fs (qi P ops Q i):=by
 simp only [abH,beq_iff_eq] at hk
 refine Jf off h e hk.2.1 (Jc O r ?_ u hk.1 (aL (by simpa [Bool.beq_comm] using hk.2.2) k))
 simp [look]
def Jl (h:gX ops σ n i=some (d,.call {callee:= .builtin .len,args:= #[x],argTypes:= #[t]}):=by exact rfl) (e:look σ x=some (.slice A m c):=by exact rfl) (ht:nX P t=true:=by kernel_rfl) (k:JJ W w n D ((d,.int .i64 (m:Int))::σ) fs (qi P ops Q (i+1))):JJ W w n D σ fs (qi P ops Q i):=
 aai h (λo r=>Yl.len r e ht) k
def Jn {p:Addr} (h:gX ops σ n i=some (d,.nilCheck x):=by exact rfl) (e:look σ x=some (.pointer (some p)):=by exact rfl) (k:JJ W w n D ((d,.pointer (some p))::σ) fs (qi P ops Q (i+1))):JJ W w n D σ fs (qi P ops Q i):=
 aai h (λo r=>Yl.nilCheck r e) k
theorem Jx {e:Nat} {vs:Array ajh} (h:gX ops σ n i=some (d,.extract x e):=by exact rfl) (r:look σ x=some (.tuple vs):=by exact rfl) (s:nth vs.toList e=some v:=by exact rfl) (k:JJ W w n D ((d,v)::σ) fs (qi P ops Q (i+1))):JJ W w n D σ fs (qi P ops Q i):=
 aai h (λo u=>Yl.pure (by rw [u];simp only [uq,r];exact MZ s)) k
def Jy (u:ops[i]?=some o:=by exact rfl) (z:eB ops σ o=some true:=by exact rfl) (A:o.dst=some d:=by exact rfl) (e:d<n:=by decide) (h:Yl P (λr=>Mem W r fs) σ o v) (k:JJ W w n D ((d,v)::σ) fs (qi P ops Q (i+1))):JJ W w n D σ fs (qi P ops Q i):=
 λ_ Z s=>MH (S:=λr=>Mem W r fs) Z s u z A e h λa Z=>k a Z s
def eF (e:SI P t m) (O:At fs (.blk g C tb)) (h:gX ops σ n i=some (d,.load t x):=by exact rfl) (r:look σ x=some (.pointer (some ⟨g,0,none⟩)):=by exact rfl) (hm:C.size=m:=by exact rfl) (k:JJ W w n D ((d,.agg C)::σ) fs (qi P ops Q (i+1))):JJ W w n D σ fs (qi P ops Q i):=
 aai h (λo s=>let ⟨_,hi⟩:=O.get;Pe s r e hm λ_ h=>qj (h.blk hi)) k
def fu (e:Array ajh) {t:ajj} {ps:Array (Nat×ajl)} {vs:List (Nat×ajh)} (h:gX ops σ n i=some (d,.build t ps):=by exact rfl) (r:yB σ ps.toList=some vs:=by exact rfl) (hb:Qq P t vs=some e:=by kernel_rfl) (k:JJ W w n D ((d,.agg e)::σ) fs (qi P ops Q (i+1))):JJ W w n D σ fs (qi P ops Q i):=
 aai h (λo s=>Yl.build s r hb) k
def iF (y sz:Nat) {t:ajj} {x ix:ajl} {g of m c:Nat} {kd:ajn} (h:gX ops σ n i=some (d,.indexAddr t x ix):=by exact rfl) (e:look σ x=some (.slice (some ⟨g,of,none⟩) m c):=by exact rfl) (hi:look σ ix=some (.int kd (y:Int)):=by exact rfl) (hy:y<m:=by omega) (r:Co P t=some sz:=by kernel_rfl) (k:JJ W w n D ((d,.pointer (some ⟨g,of+y*sz,none⟩))::σ) fs (qi P ops Q (i+1))):JJ W w n D σ fs (qi P ops Q i):=
 aai h (λo s=>Yl.ix g of y sz s e hi hy r) k
def nP (y sz:Nat) {t:ajj} {x ix:ajl} {g m c:Nat} {kd:ajn} (h:gX ops σ n i=some (d,.indexAddr t x ix):=by exact rfl) (e:look σ x=some (.slice (some ⟨g,0,none⟩) m c):=by exact rfl) (hi:look σ ix=some (.int kd (y:Int)):=by exact rfl) (hy:y<m:=by omega) (r:Co P t=some sz:=by kernel_rfl) (k:JJ W w n D ((d,.pointer (some ⟨g,y*sz,none⟩))::σ) fs (qi P ops Q (i+1))):JJ W w n D σ fs (qi P ops Q i):=
 aai h (λo s=>Yl.iM g y sz s e hi hy r) k
section
variable {α:Type} {f:α->List ajh} {l:List α} {g of m sz:Nat} {t:ajj} {x:ajl}
theorem Yl.oS {o:ajm} {C:α->Array ajh} (r:∀x,(C x).toList=f x) (s:∀x,abr (f x)=sz) (hr:Rd W W.heap.size sz (some ⟨g,of,none⟩) m (l.flatMap f)) (z:SI P t sz) {e:Nat} {u:α} (hk:e<abr l) (A:o.op= .load t x) (E:look σ x=some (.pointer (some ⟨g,of+e*sz,none⟩))):Yl P (λF=>Mem W F fs) σ o (.agg (C (l.getD e u))):=
 Pe A E z (by rw [<-acD,r,s]) λ_ h=>by rw [r];exact (h.old hr).vX s (getD_at u hk)
def aaD {o:ajm} (s:∀x,abr (f x)=sz) (hr:Rd W W.heap.size sz (some ⟨g,of,none⟩) m (l.flatMap f)) {j e b:Nat} {r:α} (hk:e<abr l) (u:b=of+e*sz+j) (z:nth (f (l.getD e r)) j=some v) (A:o.op= .load t x) (C:look σ x=some (.pointer (some ⟨g,b,none⟩))) (ht:gP P t=true):Yl P (λE=>Mem W E fs) σ o v:=by
 subst u
 exact Pd A C ht λ_ h=>(h.old hr).partAt s (getD_at r hk) (by rw [<-QB];exact z)
def qM (C:α->Array ajh) (r:∀x,(f x).length=sz) (hr:Rd W W.heap.size sz (some ⟨g,of,none⟩) m (l.flatMap f)) (s:SI P t sz) (e:Nat) (u:α) (z:∀x,(C x).toList=f x:=by exact λ_=>rfl) (h:gX ops σ n i=some (d,.load t x):=by exact rfl) (A:look σ x=some (.pointer (some ⟨g,of+e*sz,none⟩)):=by exact rfl) (hk:e<l.length:=by omega) (k:JJ W w n D ((d,.agg (C (l.getD e u)))::σ) fs (qi P ops Q (i+1))):JJ W w n D σ fs (qi P ops Q i):=
 aai h (λ_ E=>Yl.oS z r hr s hk E A) k
def QC (r:∀x,(f x).length=sz) (hr:Rd W W.heap.size sz (some ⟨g,of,none⟩) m (l.flatMap f)) (j e:Nat) (s:α) (h:gX ops σ n i=some (d,.load t x):=by exact rfl) (u:look σ x=some (.pointer (some ⟨g,of+e*sz+j,none⟩)):=by exact rfl) (z:nth (f (l.getD e s)) j=some v:=by exact rfl) (hk:e<l.length:=by omega) (ht:gP P t=true:=by kernel_rfl) (k:JJ W w n D ((d,v)::σ) fs (qi P ops Q (i+1))):JJ W w n D σ fs (qi P ops Q i):=
 aai h (λ_ A=>aaD r hr hk rfl z A u ht) k
def ES (r:∀x,(f x).length=sz) (hr:Rd W W.heap.size sz (some ⟨g,of,none⟩) m (l.flatMap f)) (e:Nat) (s:α) (h:gX ops σ n i=some (d,.load t x):=by exact rfl) (u:look σ x=some (.pointer (some ⟨g,of+e*sz,none⟩)):=by exact rfl) (z:nth (f (l.getD e s)) 0=some v:=by exact rfl) (hk:e<l.length:=by omega) (ht:gP P t=true:=by kernel_rfl) (k:JJ W w n D ((d,v)::σ) fs (qi P ops Q (i+1))):JJ W w n D σ fs (qi P ops Q i):=
 aai h (λ_ A=>aaD r hr (j:=0) hk rfl z A u ht) k
end
theorem JC {e:ajg} (h:Mem W w fs->Mem e w fs') (k:JJ e w n D σ fs' X):JJ W w n D σ fs X:=λa Z r=>k a Z (h r)
def Jk (d:Nat) (u:ajh) (e:σ.lookup d=some v:=by exact rfl) (h:v=u) (k:JJ W w n D ((d,u)::σ) fs X):JJ W w n D σ fs X:=λa Z=>k a (Z.sp d u e h)
def Jo (u:ajh) (h:v=u) (k:JJ W w n D ((d,u)::σ) fs X):JJ W w n D ((d,v)::σ) fs X:=by subst h;exact k
section
variable {x y:ajl} {t t2:ajj} {k:ajn} {m p B:Nat}
def aaN {r:BinOp} {u:ajh} {H:ajh} (h:gX ops σ n i=some (d,.binOp r t x y t2)) (s:look σ x=some z) (hy:look σ y=some H) (A:Gc z=true) (hb:uo r z H=some v) (e:v=u) (K:JJ W w n D ((d,u)::σ) fs (qi P ops Q (i+1))):JJ W w n D σ fs (qi P ops Q i):=by
 subst e
 exact aai h (λo C=>Yl.pure (by rw [C];simp only [uq,s,hy,A,if_true];exact hb)) K
def YA (k:acB) (a b:Int):uo .add (.int k a) (.int k b)=some (.int k (k.wrap (a+b))):=by simp [uo,EH]
def YB (k:acB) (a b:Int):uo .sub (.int k a) (.int k b)=some (.int k (k.wrap (a-b))):=by simp [uo,EH]
def Ja (h:gX ops σ n i=some (d,.binOp .add t x y t2):=by exact rfl) (e:look σ x=some (.int k (m:Int)):=by exact rfl) (hy:look σ y=some (.int k (p:Int)):=by exact rfl) (r:kF k=some B:=by exact rfl) (hb:m+p<=B:=by omega) (K:JJ W w n D ((d,.int k ((m+p:Nat):Int))::σ) fs (qi P ops Q (i+1))):JJ W w n D σ fs (qi P ops Q i):=
 aaN h e hy rfl (YA _ _ _) (by rw [show ((m:Int)+(p:Int))=((m+p:Nat):Int) from rfl,ER r hb]) K
theorem dx (p:Nat) {z:Int} (h:gX ops σ n i=some (d,.binOp .add t x y t2):=by exact rfl) (e:look σ x=some (.int k (m:Int)):=by exact rfl) (hy:look σ y=some (.int k z):=by exact rfl) (hz:z=(p:Int):=by exact rfl) (r:kF k=some B:=by exact rfl) (hb:m+p<=B:=by omega) (K:JJ W w n D ((d,.int k ((m+p:Nat):Int))::σ) fs (qi P ops Q (i+1))):JJ W w n D σ fs (qi P ops Q i):=by
 subst hz;exact Ja h e hy r hb K
def Js (h:gX ops σ n i=some (d,.binOp .sub t x y t2):=by exact rfl) (e:look σ x=some (.int k (m:Int)):=by exact rfl) (hy:look σ y=some (.int k (p:Int)):=by exact rfl) (r:kF k=some B:=by exact rfl) (hb:p<=m/\m-p<=B:=by omega) (K:JJ W w n D ((d,.int k ((m-p:Nat):Int))::σ) fs (qi P ops Q (i+1))):JJ W w n D σ fs (qi P ops Q i):=
 aaN h e hy rfl (YB _ _ _) (by rw [show ((m:Int)- (p:Int))=((m-p:Nat):Int) by omega,ER r hb.2]) K
def zG (p:Nat) {z:Int} (h:gX ops σ n i=some (d,.binOp .sub t x y t2):=by exact rfl) (e:look σ x=some (.int k (m:Int)):=by exact rfl) (hy:look σ y=some (.int k z):=by exact rfl) (hz:z=(p:Int):=by exact rfl) (r:kF k=some B:=by exact rfl) (hb:p<=m/\m-p<=B:=by omega) (K:JJ W w n D ((d,.int k ((m-p:Nat):Int))::σ) fs (qi P ops Q (i+1))):JJ W w n D σ fs (qi P ops Q i):=by
 subst hz;exact Js h e hy r hb K
def zH (P:aji) (s t:ajj):Option acB:=match P.underlying s,P.underlying t with
 |some _,some (.int k)=>some k
 |_,_=>none
def Jw (k:ajn) {e:ajn} (h:gX ops σ n i=some (d,.convert t t2 x):=by exact rfl) (r:look σ x=some (.int e (m:Int)):=by exact rfl) (hk:zH P t t2=some k:=by kernel_rfl) (s:kF k=some B:=by exact rfl) (hb:m<=B:=by omega) (K:JJ W w n D ((d,.int k (m:Int))::σ) fs (qi P ops Q (i+1))):JJ W w n D σ fs (qi P ops Q i):=by
 refine aai h (λo u=>Yl.pure (by
  rw [u]
  unfold zH at hk
  split at hk
  ·rename_i C E z A
   injection hk with hk
   subst hk
   simp only [uq,z,A,r,ER s hb]
  ·cases hk)) K
end
def Ji {p:Prop} {inst:Decidable p} (h1:p->JJ W w n D ((d,.bool true)::σ) fs X) (e:¬p->JJ W w n D ((d,.bool false)::σ) fs X):JJ W w n D ((d,.bool (@decide p inst))::σ) fs X:=by
 by_cases h:p
 ·rw [decide_eq_true h];exact h1 h
 ·rw [decide_eq_false h];exact e h
def nQ {p:Prop} {inst:Decidable p} (h1:¬p->JJ W w n D ((d,.bool true)::σ) fs X) (e:p->JJ W w n D ((d,.bool false)::σ) fs X):JJ W w n D ((d,.bool (!@decide p inst))::σ) fs X:=by
 by_cases h:p
 ·rw [decide_eq_true h];exact e h
 ·rw [decide_eq_false h];exact h1 h
def Je {α:Type} {r:BEq α} [LawfulBEq α] {x y:α} (h1:x=y->JJ W w n D ((d,.bool true)::σ) fs X) (e:x≠y->JJ W w n D ((d,.bool false)::σ) fs X):JJ W w n D ((d,.bool (x==y))::σ) fs X:=by
 cases h:x==y
 ·exact e (ne_of_beq_false h)
 ·exact h1 (eq_of_beq h)
def Jh {α:Type} {r:BEq α} [LawfulBEq α] {x y:α} (h1:x≠y->JJ W w n D ((d,.bool true)::σ) fs X) (e:x=y->JJ W w n D ((d,.bool false)::σ) fs X):JJ W w n D ((d,.bool (x !=y))::σ) fs X:=by
 cases h:x !=y
 ·exact e (bne_eq_false_iff_eq.1 h)
 ·exact h1 (bne_iff_ne.1 h)
def Ju {b:Bool} (h1:b=true->JJ W w n D ((d,.bool true)::σ) fs X) (e:b=false->JJ W w n D ((d,.bool false)::σ) fs X):JJ W w n D ((d,.bool b)::σ) fs X:=by
 cases b
 ·exact e rfl
 ·exact h1 rfl
def Jr {id:Nat} {c:Code} (hi:ops.size=i:=by exact rfl) (h:∀a w,e .normal a w=Code.wp P (.seq (.region id o2 false) c) Q a w:=by exact λ_ _=>rfl) (k:JJ W w n D σ fs (qi P o2 (Exit.then (Code.wp P c Q) Q) 0)):JJ W w n D σ fs (qi P ops e i):=
 λa Z r=>y9 hi (by rw [h];exact wp_seq (sQ (k a Z r)))
theorem Jq (hi:ops.size=i:=by exact rfl) (k:JJ W w n D σ fs (Q .normal)):JJ W w n D σ fs (qi P ops Q i):=λa Z e=>y9 hi (k a Z e)
def Jj {c:Code} (hi:ops.size=i:=by exact rfl) (h:∀a w,e .normal a w=Code.wp P c Q a w:=by exact λ_ _=>rfl) (k:JJ W w n D σ fs (Code.wp P c Q)):JJ W w n D σ fs (qi P ops e i):=λa Z r=>y9 hi (by rw [h];exact k a Z r)
theorem JR {id:Nat} (k:JJ W w n D σ fs (qi P ops Q 0)):JJ W w n D σ fs (ac7 P (.region id ops false) Q):=λa Z e=>sQ (k a Z e)
theorem JQ {c e:Code} (k:JJ W w n D σ fs (ac7 P c (Exit.then (ac7 P e Q) Q))):JJ W w n D σ fs (ac7 P (.seq c e) Q):=λa Z h=>wp_seq (k a Z h)
def JP {id:Nat} {c:Code} (k:JJ W w n D σ fs (qi P ops (Exit.then (ac7 P c Q) Q) 0)):JJ W w n D σ fs (ac7 P (.seq (.region id ops false) c) Q):=λa Z e=>wp_seq (sQ (k a Z e))
theorem JG {Y:Act->ajg->Prop} {c:Code} (h:∀a w,Y a w=Code.wp P c Q a w:=by exact λ_ _=>rfl) (k:JJ W w n D σ fs (Code.wp P c Q)):JJ W w n D σ fs Y:=λa Z e=>by rw [h];exact k a Z e
def ET {c:Code} (h:∀a w,e .normal a w=Code.wp P c Q a w:=by exact λ_ _=>rfl) (k:JJ W w n D σ fs (Code.wp P c Q)):JJ W w n D σ fs (ac7 P .skip e):=λa Z r=>wp_skip (by rw [h];exact k a Z r)
def JT {c:ajl} {x y:Code} (hc:look σ c=some (.bool true):=by exact rfl) (k:JJ W w n D σ fs (Code.wp P x Q)):JJ W w n D σ fs (ac7 P (.cond c x y) Q):=λa Z e=>q45 Z hc (k a Z e)
def JF {c:ajl} {x y:Code} (hc:look σ c=some (.bool false):=by exact rfl) (k:JJ W w n D σ fs (Code.wp P y Q)):JJ W w n D σ fs (ac7 P (.cond c x y) Q):=λa Z e=>Qk Z hc (k a Z e)
def JB {id:Nat} {c:Code} (k:JJ W w n D σ fs (ac7 P c (Exit.inBlock id Q))):JJ W w n D σ fs (ac7 P (.block id c) Q):=λa Z e=>wp_block (k a Z e)
def JS (k:JJ W w n D σ fs (Q .normal)):JJ W w n D σ fs (ac7 P .skip Q):=λa Z e=>wp_skip (k a Z e)
def JX {id:Nat} (k:JJ W w n D σ fs (Q (.exit id))):JJ W w n D σ fs (ac7 P (.exit id) Q):=λa Z e=>wp_exit (k a Z e)
def JZ (k:JJ W w n D σ fs (Q .ret)):JJ W w n D σ fs (ac7 P .ret Q):=λa Z e=>wp_ret (k a Z e)
def aM {id:Nat} {c:Code} (m:Nat) (h:rO P ops n m 0 σ=some σ':=by exact rfl) (k:JJ W w n D σ' fs (qi P ops (Exit.then (Code.wp P c Q) Q) (0+m))):JJ W w n D σ fs (ac7 P (.seq (.region id ops false) c) Q):=JP (Jp m h k)
def cB {id:Nat} {c:Code} (m:Nat) (h:rO P ops n m 0 σ=some σ':=by exact rfl) (hi:ops.size=0+m:=by exact rfl) (k:JJ W w n D σ' fs (Code.wp P c Q)):JJ W w n D σ fs (ac7 P (.seq (.region id ops false) c) Q):=JP (Jp m h (Jj hi (λ_ _=>rfl) k))
def bB {id:Nat} (m:Nat) (h:rO P ops n m 0 σ=some σ':=by exact rfl) (hi:ops.size=0+m:=by exact rfl) (k:JJ W w n D σ' fs (Q .ret)):JJ W w n D σ fs (ac7 P (.seq (.region id ops false) .ret) Q):=cB m h hi (JZ k)
theorem bO {c:Code} (m:Nat) (h:rO P ops n m i σ=some σ':=by exact rfl) (hi:ops.size=i+m:=by exact rfl) (r:∀a w,e .normal a w=Code.wp P c Q a w:=by exact λ_ _=>rfl) (k:JJ W w n D σ' fs (Code.wp P c Q)):JJ W w n D σ fs (qi P ops e i):=Jp m h (Jj hi r k)
def aQ (hi:ops.size=i:=by exact rfl) (h:∀a w,e .normal a w=Code.wp P .ret Q a w:=by exact λ_ _=>rfl) (k:JJ W w n D σ fs (Q .ret)):JJ W w n D σ fs (qi P ops e i):=Jj hi h (JZ k)
def bM {id:Nat} {c e:Code} (m:Nat) (h:rO P ops n m 0 σ=some σ':=by exact rfl) (k:JJ W w n D σ' fs (qi P ops (Exit.then (Code.wp P c (Exit.then (Code.wp P e Q) Q)) (Exit.then (Code.wp P e Q) Q)) (0+m))):JJ W w n D σ fs (ac7 P (.seq (.seq (.region id ops false) c) e) Q):=JQ (JP (Jp m h k))
def aP {x c:Code} (hc:look σ s=some (.bool false):=by exact rfl) (h:∀a w,e .normal a w=Code.wp P c Q a w:=by exact λ_ _=>rfl) (k:JJ W w n D σ fs (Code.wp P c Q)):JJ W w n D σ fs (ac7 P (.cond s x .skip) e):=JF hc (ET h k)
def eP {y c e:Code} {id:Nat} {r:ajp->Act->ajg->Prop} (hc:look σ s=some (.bool true):=by exact rfl) (h:∀a w,r .normal a w=Code.wp P (.seq (.block id c) e) Q a w:=by exact λ_ _=>rfl) (k:JJ W w n D σ fs (Code.wp P c (Exit.inBlock id (Exit.then (Code.wp P e Q) Q)))):JJ W w n D σ fs (ac7 P (.cond s .skip y) r):=JT hc (ET h (JQ (JB k)))
theorem bg {id:Nat} {c:Code} (m:Nat) (hi:ops.size=i:=by exact rfl) (h:∀a w,e .normal a w=Code.wp P (.seq (.region id o2 false) c) Q a w:=by exact λ_ _=>rfl) (r:rO P o2 n m 0 σ=some σ':=by exact rfl) (k:JJ W w n D σ' fs (qi P o2 (Exit.then (Code.wp P c Q) Q) (0+m))):JJ W w n D σ fs (qi P ops e i):=Jr hi h (Jp m r k)
section
variable {fn:Func} {R:ajk->ajg->Prop} {t1 t2 t3:Nat}
def aW (e:∀a w,bodyPost P fn R .ret a w->X a w:=by exact λ_ _ h=>h) (hr:fn.results= #[.tmp t1]:=by exact rfl) (h1:σ.lookup t1=some v1:=by exact rfl) (r:Mem W w fs->R (.returned v1) w):JJ W w n [] σ fs X:=λ_ Z s=>e _ _ (l8 hr Z h1 (r s))
def sW (e:∀a w,bodyPost P fn R .ret a w->X a w:=by exact λ_ _ h=>h) (hr:fn.results= #[.tmp t1]:=by exact rfl) (h1:σ.lookup t1=some v1:=by exact rfl) (r:Mem W w fs->R (.returned v1) w:=by exact λM=>⟨rfl,M.below⟩):JJ W w n [] σ fs X:=λ_ Z s=>e _ _ (l8 hr Z h1 (r s))
def bW (e:∀a w,bodyPost P fn R .ret a w->X a w:=by exact λ_ _ h=>h) (hr:fn.results= #[.tmp t1,.tmp t2]:=by exact rfl) (h1:σ.lookup t1=some v1:=by exact rfl) (r:σ.lookup t2=some v2:=by exact rfl) (s:Mem W w fs->R (.returned (.tuple #[v1,v2])) w):JJ W w n [] σ fs X:=λ_ Z u=>e _ _ (qJ hr Z h1 r (s u))
end
def JA (z:Array ajh) {e:ajj} (h:gX ops σ n i=some (d,.alloc e):=by exact rfl) (hz:yx P e=some z:=by kernel_rfl) (k:∀r g,JJ W r n D ((d,.pointer (some ⟨g,0,none⟩))::σ) (.blk g z e::fs) (qi P ops Q (i+1))):JJ W w n D σ fs (qi P ops Q i):=
 aal h λ_ _ A C s Z u=>Qi Z u A hz C s λa r g Z u=>k r g a Z u
def JE {e:ajj} (h:gX ops σ n i=some (d,.box e x):=by exact rfl) (z:look σ x=some (.agg C):=by exact rfl) (k:∀r g,JJ W r n D ((d,.pointer (some ⟨g,0,none⟩))::σ) (.blk g C e::fs) (qi P ops Q (i+1))):JJ W w n D σ fs (qi P ops Q i):=
 aal h λ_ _ A E s Z u=>AO Z u A z rfl E s λa r g Z u=>k r g a Z u
def uH {e:ajj} (h:gX ops σ n i=some (d,.box e x):=by exact rfl) (z:look σ x=some v:=by exact rfl) (hc:v.cells= #[v]:=by exact rfl) (k:∀r g,JJ W r n D ((d,.pointer (some ⟨g,0,none⟩))::σ) (.blk g #[v] e::fs) (qi P ops Q (i+1))):JJ W w n D σ fs (qi P ops Q i):=
 aal h λ_ _ A C s Z u=>AO Z u A z hc C s λa r g Z u=>k r g a Z u
def JW {off:Nat} {l m:List ajh} {v0:ajh} (O:l9 (.blk g l.toArray tb) (.blk g m.toArray tb) fs fs') (U:l9 v0 v l m) (s:ops[i]?=some o:=by exact rfl) (e:o.op= .store t x y:=by exact rfl) (u:eB ops σ o=some true:=by exact rfl) (z:o.dst=none:=by exact rfl) (A:look σ x=some (.pointer (some ⟨g,off,none⟩)):=by exact rfl) (hy:look σ y=some v:=by exact rfl) (hs:(P.info? t).map (·.size)=some 1:=by kernel_rfl) (C:v.oneCell'=true:=by exact rfl)
 (E:m=l.set off v:=by exact rfl) (F:Nat.blt off l.length=true:=by exact rfl) (k:∀h,JJ W h n D σ fs' (qi P ops Q (i+1))):JJ W w n D σ fs (qi P ops Q i):=by
 obtain ⟨j,G,rfl⟩:=O.get
 refine λa Z r=>Gh Z s u (rP Z r e z A hy hs C G (by simpa using F) λh r=>k h a Z ?_)
 subst E
 simpa using r
def JV {ds:Array ajh} (s:SI P t m) (O:l9 (.blk g C tb) (.blk g ds tb) fs fs') (z:ops[i]?=some o:=by exact rfl) (e:o.op= .store t x y:=by exact rfl) (A:eB ops σ o=some true:=by exact rfl) (E:o.dst=none:=by exact rfl) (F:look σ x=some (.pointer (some ⟨g,0,none⟩)):=by exact rfl) (hy:look σ y=some (.agg ds):=by exact rfl)
 (hc:C.size=m:=by exact rfl) (hm:ds.size=m:=by exact rfl) (h1:∀u∈ds.toList,u.oneCell'=true:=by simp [Value.oneCell']) (k:∀h,JJ W h n D σ fs' (qi P ops Q (i+1))):JJ W w n D σ fs (qi P ops Q i):=by
 obtain ⟨j,G,rfl⟩:=O.get
 exact λa Z r=>Gh Z z A (XO Z r e E F hy s hc hm h1 G λh r=>k h a Z r)
theorem JI {xs:Array ajl} {ts:Array ajj} (A:gX ops σ n i=some (d,.call {callee:= .value (.func f),args:=xs,argTypes:=ts}):=by exact rfl) (C:looks σ xs.toList=some vs:=by exact rfl) (h:Mem W w fs->Calls P f vs.toArray w (λr e=>r= .returned v/\Below w.heap.size w e)) (E:callable P f=true:=by kernel_rfl)
 (k:∀e,Below w.heap.size w e->JJ W e n D ((d,v)::σ) fs (qi P ops Q (i+1))):JJ W w n D σ fs (qi P ops Q i):=
 aal A λ_ _ F G s Z u=>AQ Z F C E G s (h u) λ_ e ⟨H,z⟩=>⟨v,H,λa Z=>k e z a Z (u.call z)⟩
theorem JL {xs:Array ajl} {ts:Array ajj} (z:gX ops σ n i=some (d,.call {callee:= .value (.func f),args:=xs,argTypes:=ts}):=by exact rfl) (A:looks σ xs.toList=some vs:=by exact rfl) (h:Mem W w fs->Calls P f vs.toArray w R) (C:callable P f=true:=by kernel_rfl)
 (k:Mem W w fs->∀r e,R r e->∃v,r= .returned v/\∃fs',Mem W e fs'/\JJ W e n D ((d,v)::σ) fs' (qi P ops Q (i+1))):JJ W w n D σ fs (qi P ops Q i):=
 aal z λ_ _ E F s Z u=>AQ Z E A C F s (h u) λr e G=>let ⟨v,H,_,I,J⟩:=k u r e G;⟨v,H,λa Z=>J a Z I⟩
def JK {xs:Array ajl} {ts:Array ajj} {V:ajq->Nat->ajh} {e:ajj} {ys:List ajh} (C:gX ops σ n i=some (d,.call {callee:= .value (.func f),args:=xs,argTypes:=ts}):=by exact rfl) (E:looks σ xs.toList=some vs:=by exact rfl) (h:Mem W w fs->Calls P f vs.toArray w (λr s=>(∃A c,r= .returned (V A c)/\s.ownsRow w.heap.size e sz (.slice A m c) m ys/\m<=c)/\Below w.heap.size w s)) (F:callable P f=true:=by kernel_rfl)
 (k:∀A c s,m<=c->JJ W s n D ((d,V A c)::σ) (.row (.slice A m c) m ys e sz::fs) (qi P ops Q (i+1))):JJ W w n D σ fs (qi P ops Q i):=
 aal C λ_ _ G H u Z z=>AQ Z G E F H u (h z) λr s ⟨⟨A,c,I,J,K⟩,L⟩=>⟨_,I,λa Z=>k A c s K a Z (z.dh L J)⟩
def JO {xs:Array ajl} {ts:Array ajj} (u:gX ops σ n i=some (d,.call {callee:= .value (.func f),args:=xs,argTypes:=ts}):=by exact rfl) (z:looks σ xs.toList=some vs:=by exact rfl) (h:Mem W w fs->Calls P f vs.toArray w (λr e=>r= .returned v/\Mem W e fs')) (A:callable P f=true:=by kernel_rfl)
 (k:∀e,JJ W e n D ((d,v)::σ) fs' (qi P ops Q (i+1))):JJ W w n D σ fs (qi P ops Q i):=
 aal u λ_ _ C E s Z F=>AQ Z C z A E s (h F) λr e ⟨G,H⟩=>⟨v,G,λa Z=>k e a Z H⟩
theorem JU {t len e:Nat} {vs:List (Nat×ajh)} {size bytes:Nat} (C:EI P t e z size bytes) (A:Array ajh) (h:gX ops σ n i=some (d,.buildSlice t len ps):=by exact rfl) (E:decide (0<len/\len*size<=16777216)=true:=by decide) (F:yB σ ps.toList=some vs:=by exact rfl)
 (G:Instr.fill (λi=>some (i*size,size)) (ML z.cells (len*size)) vs=some A:=by kernel_rfl) (k:∀r g,JJ W r n D ((d,.slice (some ⟨g,0,none⟩) len len)::σ) (.blk g A e::fs) (qi P ops Q (i+1))):JJ W w n D σ fs (qi P ops Q i):=
 aal h λ_ _ H I s Z u=>XQ Z u H C E F G I s λa r g Z u=>k r g a Z u
theorem JD {e:ajj} {size bytes C:Nat} {F:ajq->Nat->List ajr} (news:List ajh) (j:Nat) (O:∀E r,l9 (.row v C xs e size) (.row (.slice E (C+m) r) (C+m) (xs++news) e size) fs (F E r)) (K:EI P t e z size bytes)
 (L:gX ops σ n i=some (d,.call {callee:= .builtin .append,args:= #[s,x],argTypes:= #[t,t]}):=by exact rfl) (hs:look σ s=some v:=by exact rfl) (M:look σ x=some (.slice A m c):=by exact rfl) (S:fs[j]?=some (.row v C xs e size):=by exact rfl) (T:(λE r=>fs.set j (.row (.slice E (C+m) r) (C+m) (xs++news) e size))=F:=by kernel_rfl)
 (hr:Mem W w fs->Rd w B size A m news) (h1:∀u∈news,u.oneCell'=true) (hb:(C+m)*bytes<=140737488355328:=by omega) (h63:C+m<=9223372036854775807:=by omega)
 (k:∀G E r,C+m<=r->JJ W G n D ((d,.slice E (C+m) r)::σ) (F E r) (qi P ops Q (i+1))):JJ W w n D σ fs (qi P ops Q i):=
 aal L λ_ _ U V H Z J=>su Z J U K hs M S (hr J) h1 hb h63 V H λa G E r Z I hc=>k G E r hc a Z (by have h:=congrFun (congrFun T E) r;rw [<-h];exact I)
def JH {p:Prop} (h:p) (k:p->JJ W w n D σ fs X):JJ W w n D σ fs X:=k h
section
variable {f N:Nat} {fn:Func} {c:Code} {R:ajk->ajg->Prop} {u1 u2 u3 u4 u5 u6 u7 u8:ajh}
def JN0 (e:P.funcs[f]?=some fn) (N:Nat) (h:fn.ntmps=N:=by exact rfl) (hb:fn.body=some c:=by exact rfl) (r:decide (0<=N)=true:=by kernel_rfl) (k:JJ w w N [] [] [] (Code.wp P c (bodyPost P fn R))):Calls P f #[] w R:=
 yC (vs:=[]) e hb h r rfl λa Z=>k a Z (Mem.start w)
def fE (e:P.funcs[f]?=some fn) (N:Nat) (h:fn.ntmps=N:=by exact rfl) (hb:fn.body=some c:=by exact rfl) (r:decide (1<=N)=true:=by kernel_rfl) (k:JJ w w N [] [(0,u1)] [] (Code.wp P c (bodyPost P fn R))):Calls P f #[u1] w R:=
 yC (vs:=[u1]) e hb h r rfl λa Z=>k a Z (Mem.start w)
def iQ (e:P.funcs[f]?=some fn) (N:Nat) (h:fn.ntmps=N:=by exact rfl) (hb:fn.body=some c:=by exact rfl) (r:decide (2<=N)=true:=by kernel_rfl) (k:JJ w w N [] [(0,u1),(1,u2)] [] (Code.wp P c (bodyPost P fn R))):Calls P f #[u1,u2] w R:=
 yC (vs:=[u1,u2]) e hb h r rfl λa Z=>k a Z (Mem.start w)
def vC (e:P.funcs[f]?=some fn) (N:Nat) (h:fn.ntmps=N:=by exact rfl) (hb:fn.body=some c:=by exact rfl) (r:decide (3<=N)=true:=by kernel_rfl) (k:JJ w w N [] [(0,u1),(1,u2),(2,u3)] [] (Code.wp P c (bodyPost P fn R))):Calls P f #[u1,u2,u3] w R:=
 yC (vs:=[u1,u2,u3]) e hb h r rfl λa Z=>k a Z (Mem.start w)
def JN4 (e:P.funcs[f]?=some fn) (N:Nat) (h:fn.ntmps=N:=by exact rfl) (hb:fn.body=some c:=by exact rfl) (r:decide (4<=N)=true:=by kernel_rfl) (k:JJ w w N [] [(0,u1),(1,u2),(2,u3),(3,u4)] [] (Code.wp P c (bodyPost P fn R))):Calls P f #[u1,u2,u3,u4] w R:=
 yC (vs:=[u1,u2,u3,u4]) e hb h r rfl λa Z=>k a Z (Mem.start w)
end
end
section
variable {P:aji} {ops o2:Array ajm} {Q:ajp->Act->ajg->Prop} {a:Act} {W w:ajg} {n d d2 fuel:Nat} {D:List ajo} {σ σ':List (Nat×ajh)} {o o':ajm} {op:Op} {v v1 v2 v3:ajh} {X:Act->ajg->Prop} {fs gs fs':List ajr} {md:Region.Mode} {listed:Array Bool} {ex:List Nat} {S:ajg->Prop}
def VV (W w:ajg) (n:Nat) (D:List ajo) (σ:List (Nat×ajh)) (fs gs:List ajr) (X:Act->ajg->Prop):Prop:=∀a,Fr a n D σ->Mem W w fs->Mem W w gs->X a w
def Vb (Z:Fr a n D σ) (b:Mem W w fs) (c:Mem W w gs) (h:VV W w n D σ fs gs X):X a w:=h a Z b c
def jT (l:Array Bool) (b:List Nat):Array Bool:=b.foldl (λl i=>l.setIfInBounds i true) l
def Vs (m:uF fs gs) (ex:List Nat) {id c:Nat} (j:ops.size=c:=by exact rfl) (hm:P.follows .mixedOrders=true:=by kernel_rfl) (k:∀q,VV W q n D σ fs gs (ql P .any ops Q (λb=>Mem W b gs) ex c (Array.replicate ops.size false))):JJ W w n D σ fs (ac7 P (.region id ops true) Q):=
 λa Z e=>XK hm (λb=>Mem W b gs) ex (by have h:=k w.drew a Z e.drew (e.drew.sel m);subst j;exact h)
def Vd (hr:Region.ready md ops listed=[]:=by kernel_rfl) (k:JJ W w n D σ fs (Q .normal)):VV W w n D σ fs gs (ql P md ops Q S ex fuel listed):=λa Z b _=>qe hr (k a Z b)
def EU (P:aji) (ops:Array ajm) (n:Nat):List Nat->List (Nat×ajh)->Option (List (Nat×ajh))
 |[],σ=>some σ
 |i::b,σ=>match AL P ops n i σ with
  |some σ'=>EU P ops n b σ'
  |none=>none
def qN (md:aec) (ops:Array ajm) (ex:List Nat):List Nat->Array Bool->Bool
 |[],_=>true
 |i::b,l=>p9 md ops ex l i&&qN md ops ex b (l.setIfInBounds i true)
def QD:∀(b:List Nat) {l:Array Bool} {σ σ':List (Nat×ajh)},EU P ops n b σ=some σ'->qN md ops ex b l=true->zA P md ops n ex b l σ=some (jT l b,σ')
 |[],_,_,_,h,_=>by injection h with h;subst h;rfl
 | i :: b, l, σ, σ', h, c => by
  unfold EU at h
  unfold qN at c
  rw [abH] at c
  split at h
  ·rename_i s hs
   unfold zA
   rw [if_pos c.1,hs]
   exact QD b h c.2
  ·cases h
def Vp (b:List Nat) (h:EU P ops n b σ=some σ':=by exact rfl) (hk:qN md ops ex b listed=true:=by kernel_rfl) (j:∀c (a:Act) d v w,Q (.panic c) (a.put d v) w->Q (.panic c) a w:=by intro _ _ d _ _ h;cases d<;>exact h)
 (k:VV W w n D σ' fs gs (ql P md ops Q S ex fuel (jT listed b))) (q:∀w,Mem W w gs->S w:=by exact λ_ h=>h):VV W w n D σ fs gs (ql P md ops Q S ex (fuel+abr b) listed):=
 λa Z r e=>MK j b Z (λ_=>q _ e) (QD b h hk) λa Z=>k a Z r e
def Vq (b:List Nat) (new:List (Nat×ajh)) (h:(EU P ops n b σ).map (λs=>(thin s σ new,new.map λp=>s.lookup p.1))=some (true,new.map λp=>some p.2):=by kernel_rfl) (hk:qN md ops ex b listed=true:=by kernel_rfl) (r:∀c (a:Act) d v w,Q (.panic c) (a.put d v) w->Q (.panic c) a w:=by intro _ _ d _ _ h;cases d<;>exact h)
 (k:VV W w n D (new++σ) fs gs (ql P md ops Q (λe=>Mem W e gs) ex fuel (jT listed b))):VV W w n D σ fs gs (ql P md ops Q (λe=>Mem W e gs) ex (fuel+abr b) listed):=by
 cases hs:EU P ops n b σ with
 |none=>rw [hs] at h;cases h
 |some s=>
  rw [hs] at h
  injection h with h
  injection h with u z
  have j:=QD b hs hk
  obtain ⟨full,A⟩:=Qh b j
  exact λa Z C q=>MK r b Z (λ_=>q) j λa Z=>k a (Z.thin A u z) C q
section
variable {i:Nat}
def aar (h:gX ops σ n i=some (d,op)) (hk:sS md ops ex listed i=true) (r:∀c (a:Act) v w,Q (.panic c) (a.put (some d) v) w->Q (.panic c) a w) (hy:∀o:ajm,o.op=op->Yl P (λb=>Mem W b gs) σ o v)
 (k:VV W w n D ((d,v)::σ) fs gs (ql P md ops Q (λb=>Mem W b gs) ex fuel (listed.setIfInBounds i true))):VV W w n D σ fs gs (ql P md ops Q (λb=>Mem W b gs) ex (fuel+1) listed):=by
 obtain ⟨o,s,u,j,e,z⟩:=GD h
 exact λa Z A q=>EK Z q s u j e hk (λc a w=>by rw [j];exact r c a v w) (hy o z) λa Z=>k a Z A q
def aaq (h:gX ops σ n i=some (d,op)) (hk:p9 md ops ex listed i=true) (r:∀c (a:Act) v w,Q (.panic c) (a.put (some d) v) w->Q (.panic c) a w) (hy:∀o:ajm,o.op=op->∀s,Yl P s σ o v)
 (k:VV W w n D ((d,v)::σ) fs gs (ql P md ops Q (λb=>Mem W b gs) ex fuel (listed.setIfInBounds i true))):VV W w n D σ fs gs (ql P md ops Q (λb=>Mem W b gs) ex (fuel+1) listed):=by
 obtain ⟨o,u,z,j,e,A⟩:=GD h
 exact λa Z C q=>qH Z (λ_=>q) u z j e hk (λc a w=>by rw [j];exact r c a v w) (hy o A) λa Z=>k a Z C q
def aaJ (h:gX ops σ n i=some (d,op)) (hr:acJ md ops listed=[i]) (k:∀(o:ajm) a,o.op=op->o.dst=some d->d<n->Fr a n D σ->Mem W w fs->o.wp P a w (λj e=>(eD ex (listed.setIfInBounds i true)=false->Mem W e gs)/\ql P md ops Q (λb=>Mem W b gs) ex fuel (listed.setIfInBounds i true) j e) Q):VV W w n D σ fs gs (ql P md ops Q (λb=>Mem W b gs) ex (fuel+1) listed):=by
 obtain ⟨o,q,r,s,c,u⟩:=GD h
 exact λa Z z _=>zh [i] hr rfl (all_cons (qu Z q r (k o a u s c Z z)) all_nil)
end
def Vf (i off:Nat) {s f g b:Nat} {x:ajl} (h:gX ops σ n i=some (d,.fieldAddr s x f):=by exact rfl) (q:look σ x=some (.pointer (some ⟨g,b,none⟩)):=by exact rfl) (e:(EJ P s f==some off&&p9 md ops ex listed i)=true:=by kernel_rfl) (r:∀c (a:Act) v w,Q (.panic c) (a.put (some d) v) w->Q (.panic c) a w:=by exact λ_ _ _ _ h=>h)
 (k:VV W w n D ((d,.pointer (some ⟨g,b+off,none⟩))::σ) fs gs (ql P md ops Q (λj=>Mem W j gs) ex fuel (listed.setIfInBounds i true))):VV W w n D σ fs gs (ql P md ops Q (λj=>Mem W j gs) ex (fuel+1) listed):=by
 rw [abH,beq_iff_eq] at e
 exact aaq h e.2 r (λo u _=>Yl.pure (by rw [u];simp only [uq,q,e.1];rw [acL])) k
def nR (i:Nat) {t tb:ajj} {x:ajl} {g m:Nat} {C:Array ajh} (j:SI P t m) (O:At gs (.blk g C tb)) (h:gX ops σ n i=some (d,.load t x):=by exact rfl) (q:look σ x=some (.pointer (some ⟨g,0,none⟩)):=by exact rfl) (hm:C.size=m:=by exact rfl) (b:sS md ops ex listed i=true:=by kernel_rfl) (r:∀c (a:Act) v w,Q (.panic c) (a.put (some d) v) w->Q (.panic c) a w:=by exact λ_ _ _ _ h=>h) (k:VV W w n D ((d,.agg C)::σ) fs gs (ql P md ops Q (λe=>Mem W e gs) ex fuel (listed.setIfInBounds i true))):VV W w n D σ fs gs (ql P md ops Q (λe=>Mem W e gs) ex (fuel+1) listed):=
 aar h b r (λo s=>let ⟨_,hi⟩:=O.get;Pe s q j hm λ_ h=>qj (h.blk hi)) k
def oL (i y sz:Nat) {t:ajj} {x ix:ajl} {g of m c:Nat} {kd:ajn} (h:gX ops σ n i=some (d,.indexAddr t x ix):=by exact rfl) (j:look σ x=some (.slice (some ⟨g,of,none⟩) m c):=by exact rfl) (hi:look σ ix=some (.int kd (y:Int)):=by exact rfl) (hy:y<m:=by omega) (q:Co P t=some sz:=by kernel_rfl) (b:sS md ops ex listed i=true:=by kernel_rfl) (r:∀c (a:Act) v w,Q (.panic c) (a.put (some d) v) w->Q (.panic c) a w:=by exact λ_ _ _ _ h=>h) (k:VV W w n D ((d,.pointer (some ⟨g,of+y*sz,none⟩))::σ) fs gs (ql P md ops Q (λe=>Mem W e gs) ex fuel (listed.setIfInBounds i true))):VV W w n D σ fs gs (ql P md ops Q (λe=>Mem W e gs) ex (fuel+1) listed):=
 aar h b r (λo s=>Yl.ix g of y sz s j hi hy q) k
section
variable {α:Type} {f:α->List ajh} {l:List α} {g of m sz:Nat} {t:ajj} {x:ajl}
def EW (i:Nat) (C:α->Array ajh) (q:∀x,(f x).length=sz) (hr:Rd W W.heap.size sz (some ⟨g,of,none⟩) m (l.flatMap f)) (r:SI P t sz) (b:Nat) (s:α) (u:∀x,(C x).toList=f x:=by exact λ_=>rfl) (h:gX ops σ n i=some (d,.load t x):=by exact rfl) (z:look σ x=some (.pointer (some ⟨g,of+b*sz,none⟩)):=by exact rfl) (hk:b<l.length:=by omega) (e:sS md ops ex listed i=true:=by kernel_rfl) (A:∀c (a:Act) v w,Q (.panic c) (a.put (some d) v) w->Q (.panic c) a w:=by exact λ_ _ _ _ h=>h) (k:VV W w n D ((d,.agg (C (l.getD b s)))::σ) fs gs (ql P md ops Q (λj=>Mem W j gs) ex fuel (listed.setIfInBounds i true))):VV W w n D σ fs gs (ql P md ops Q (λj=>Mem W j gs) ex (fuel+1) listed):=
 aar h e A (λ_ E=>Yl.oS u q hr r hk E z) k
def GH (i:Nat) (r:∀x,(f x).length=sz) (hr:Rd W W.heap.size sz (some ⟨g,of,none⟩) m (l.flatMap f)) (j b:Nat) (s:α) (h:gX ops σ n i=some (d,.load t x):=by exact rfl) (u:look σ x=some (.pointer (some ⟨g,of+b*sz+j,none⟩)):=by exact rfl) (z:nth (f (l.getD b s)) j=some v:=by exact rfl) (hk:b<l.length:=by omega) (ht:gP P t=true:=by kernel_rfl) (e:sS md ops ex listed i=true:=by kernel_rfl) (A:∀c (a:Act) v w,Q (.panic c) (a.put (some d) v) w->Q (.panic c) a w:=by exact λ_ _ _ _ h=>h) (k:VV W w n D ((d,v)::σ) fs gs (ql P md ops Q (λq=>Mem W q gs) ex fuel (listed.setIfInBounds i true))):VV W w n D σ fs gs (ql P md ops Q (λq=>Mem W q gs) ex (fuel+1) listed):=
 aar h e A (λ_ C=>aaD r hr hk rfl z C u ht) k
def YC (i:Nat) (r:∀x,(f x).length=sz) (hr:Rd W W.heap.size sz (some ⟨g,of,none⟩) m (l.flatMap f)) (b:Nat) (s:α) (h:gX ops σ n i=some (d,.load t x):=by exact rfl) (u:look σ x=some (.pointer (some ⟨g,of+b*sz,none⟩)):=by exact rfl) (z:nth (f (l.getD b s)) 0=some v:=by exact rfl) (hk:b<l.length:=by omega) (ht:gP P t=true:=by kernel_rfl) (e:sS md ops ex listed i=true:=by kernel_rfl) (A:∀c (a:Act) v w,Q (.panic c) (a.put (some d) v) w->Q (.panic c) a w:=by exact λ_ _ _ _ h=>h) (k:VV W w n D ((d,v)::σ) fs gs (ql P md ops Q (λq=>Mem W q gs) ex fuel (listed.setIfInBounds i true))):VV W w n D σ fs gs (ql P md ops Q (λq=>Mem W q gs) ex (fuel+1) listed):=
 aar h e A (λ_ C=>aaD r hr (j:=0) hk rfl z C u ht) k
end
def Vc (i:Nat) {g off:Nat} {x:ajl} {t tb:ajj} {C:Array ajh} (O:At gs (.blk g C tb)) (h:gX ops σ n i=some (d,.load t x):=by exact rfl) (e:look σ x=some (.pointer (some ⟨g,off,none⟩)):=by exact rfl) (j:nth C.toList off=some v:=by exact rfl) (ht:(gP P t&&sS md ops ex listed i)=true:=by kernel_rfl) (q:∀c (a:Act) v w,Q (.panic c) (a.put (some d) v) w->Q (.panic c) a w:=by exact λ_ _ _ _ h=>h)
 (k:VV W w n D ((d,v)::σ) fs gs (ql P md ops Q (λb=>Mem W b gs) ex fuel (listed.setIfInBounds i true))):VV W w n D σ fs gs (ql P md ops Q (λb=>Mem W b gs) ex (fuel+1) listed):=by
 rw [abH] at ht
 exact aar h ht.2 q (λo r=>Pd r e ht.1 λ_ h=>let ⟨_,hi⟩:=O.get;h.cell hi (MZ j)) k
def Vl (i:Nat) {x:ajl} {t:ajj} {A:ajq} {m c:Nat} (h:gX ops σ n i=some (d,.call {callee:= .builtin .len,args:= #[x],argTypes:= #[t]}):=by exact rfl) (e:look σ x=some (.slice A m c):=by exact rfl) (ht:(nX P t&&p9 md ops ex listed i)=true:=by kernel_rfl) (j:∀c (a:Act) v w,Q (.panic c) (a.put (some d) v) w->Q (.panic c) a w:=by exact λ_ _ _ _ h=>h)
 (k:VV W w n D ((d,.int .i64 (m:Int))::σ) fs gs (ql P md ops Q (λb=>Mem W b gs) ex fuel (listed.setIfInBounds i true))):VV W w n D σ fs gs (ql P md ops Q (λb=>Mem W b gs) ex (fuel+1) listed):=by
 rw [abH] at ht
 exact aaq h ht.2 j (λo q _=>Yl.len q e ht.1) k
def Vn (i:Nat) {x:ajl} {p:Addr} (h:gX ops σ n i=some (d,.nilCheck x):=by exact rfl) (e:look σ x=some (.pointer (some p)):=by exact rfl) (ht:p9 md ops ex listed i=true:=by kernel_rfl) (j:∀c (a:Act) v w,Q (.panic c) (a.put (some d) v) w->Q (.panic c) a w:=by exact λ_ _ _ _ h=>h)
 (k:VV W w n D ((d,.pointer (some p))::σ) fs gs (ql P md ops Q (λb=>Mem W b gs) ex fuel (listed.setIfInBounds i true))):VV W w n D σ fs gs (ql P md ops Q (λb=>Mem W b gs) ex (fuel+1) listed):=
 aaq h ht j (λo q _=>Yl.nilCheck q e) k
def Vx (i:Nat) {x:ajl} {e:Nat} {vs:Array ajh} (h:gX ops σ n i=some (d,.extract x e):=by exact rfl) (j:look σ x=some (.tuple vs):=by exact rfl) (q:nth vs.toList e=some v:=by exact rfl) (ht:p9 md ops ex listed i=true:=by kernel_rfl) (r:∀c (a:Act) v w,Q (.panic c) (a.put (some d) v) w->Q (.panic c) a w:=by exact λ_ _ _ _ h=>h)
 (k:VV W w n D ((d,v)::σ) fs gs (ql P md ops Q (λb=>Mem W b gs) ex fuel (listed.setIfInBounds i true))):VV W w n D σ fs gs (ql P md ops Q (λb=>Mem W b gs) ex (fuel+1) listed):=
 aaq h ht r (λo s _=>Yl.pure (by rw [s];simp only [uq,j];exact MZ q)) k
def Vy (i:Nat) (q:ops[i]?=some o:=by exact rfl) (r:eB ops σ o=some true:=by exact rfl) (s:o.dst=some d:=by exact rfl) (e:d<n:=by decide) (h:Yl P (λb=>Mem W b gs) σ o v) (ht:sS md ops ex listed i=true:=by kernel_rfl) (u:∀c (a:Act) w,Q (.panic c) (a.put o.dst v) w->Q (.panic c) a w:=by exact λ_ _ _ h=>h)
 (k:VV W w n D ((d,v)::σ) fs gs (ql P md ops Q (λb=>Mem W b gs) ex fuel (listed.setIfInBounds i true))):VV W w n D σ fs gs (ql P md ops Q (λb=>Mem W b gs) ex (fuel+1) listed):=
 λa Z z j=>EK Z j q r s e ht u h λa Z=>k a Z z j
def Vu (i:Nat) (q:ops[i]?=some o:=by exact rfl) (r:eB ops σ o=some true:=by exact rfl) (s:o.dst=some d:=by exact rfl) (b:d<n:=by decide) (h:∀u:ajg->Prop,Yl P u σ o v) (ht:p9 md ops ex listed i=true:=by kernel_rfl) (z:∀c (a:Act) w,Q (.panic c) (a.put o.dst v) w->Q (.panic c) a w:=by exact λ_ _ _ h=>h)
 (k:VV W w n D ((d,v)::σ) fs gs (ql P md ops Q (λe=>Mem W e gs) ex fuel (listed.setIfInBounds i true))):VV W w n D σ fs gs (ql P md ops Q (λe=>Mem W e gs) ex (fuel+1) listed):=
 λa Z A j=>qH Z (λ_=>j) q r s b ht z h λa Z=>k a Z A j
def Vo (u:ajh) (h:v=u) (k:VV W w n D ((d,u)::σ) fs gs X):VV W w n D ((d,v)::σ) fs gs X:=by subst h;exact k
def VH {p:Prop} (h:p) (k:p->VV W w n D σ fs gs X):VV W w n D σ fs gs X:=k h
section
variable {x y:ajl} {t t2:ajj} {k:ajn} {m p B:Nat}
def aaM (i:Nat) {j:BinOp} {u:ajh} {z H:ajh} (h:gX ops σ n i=some (d,.binOp j t x y t2)) (q:look σ x=some z) (hy:look σ y=some H) (ht:p9 md ops ex listed i=true) (r:∀c (a:Act) v w,Q (.panic c) (a.put (some d) v) w->Q (.panic c) a w) (s:Gc z=true) (hb:uo j z H=some v) (e:v=u)
 (K:VV W w n D ((d,u)::σ) fs gs (ql P md ops Q (λb=>Mem W b gs) ex fuel (listed.setIfInBounds i true))):VV W w n D σ fs gs (ql P md ops Q (λb=>Mem W b gs) ex (fuel+1) listed):=by
 subst e
 exact aaq h ht r (λo A _=>Yl.pure (by rw [A];simp only [uq,q,hy,s,if_true];exact hb)) K
def Va (i:Nat) (h:gX ops σ n i=some (d,.binOp .add t x y t2):=by exact rfl) (e:look σ x=some (.int k (m:Int)):=by exact rfl) (hy:look σ y=some (.int k (p:Int)):=by exact rfl) (j:kF k=some B:=by exact rfl) (hb:m+p<=B:=by omega) (ht:p9 md ops ex listed i=true:=by kernel_rfl) (q:∀c (a:Act) v w,Q (.panic c) (a.put (some d) v) w->Q (.panic c) a w:=by exact λ_ _ _ _ h=>h)
 (K:VV W w n D ((d,.int k ((m+p:Nat):Int))::σ) fs gs (ql P md ops Q (λb=>Mem W b gs) ex fuel (listed.setIfInBounds i true))):VV W w n D σ fs gs (ql P md ops Q (λb=>Mem W b gs) ex (fuel+1) listed):=
 aaM i h e hy ht q rfl (YA _ _ _) (by rw [show ((m:Int)+(p:Int))=((m+p:Nat):Int) from rfl,ER j hb]) K
def zI (i p:Nat) {z:Int} (h:gX ops σ n i=some (d,.binOp .add t x y t2):=by exact rfl) (e:look σ x=some (.int k (m:Int)):=by exact rfl) (hy:look σ y=some (.int k z):=by exact rfl) (hz:z=(p:Int):=by exact rfl) (j:kF k=some B:=by exact rfl) (hb:m+p<=B:=by omega) (ht:p9 md ops ex listed i=true:=by kernel_rfl) (q:∀c (a:Act) v w,Q (.panic c) (a.put (some d) v) w->Q (.panic c) a w:=by exact λ_ _ _ _ h=>h)
 (K:VV W w n D ((d,.int k ((m+p:Nat):Int))::σ) fs gs (ql P md ops Q (λb=>Mem W b gs) ex fuel (listed.setIfInBounds i true))):VV W w n D σ fs gs (ql P md ops Q (λb=>Mem W b gs) ex (fuel+1) listed):=by
 subst hz;exact Va i h e hy j hb ht q K
def GI (i p:Nat) {z:Int} (h:gX ops σ n i=some (d,.binOp .sub t x y t2):=by exact rfl) (e:look σ x=some (.int k (m:Int)):=by exact rfl) (hy:look σ y=some (.int k z):=by exact rfl) (hz:z=(p:Int):=by exact rfl) (j:kF k=some B:=by exact rfl) (hb:p<=m/\m-p<=B:=by omega) (ht:p9 md ops ex listed i=true:=by kernel_rfl) (q:∀c (a:Act) v w,Q (.panic c) (a.put (some d) v) w->Q (.panic c) a w:=by exact λ_ _ _ _ h=>h)
 (K:VV W w n D ((d,.int k ((m-p:Nat):Int))::σ) fs gs (ql P md ops Q (λb=>Mem W b gs) ex fuel (listed.setIfInBounds i true))):VV W w n D σ fs gs (ql P md ops Q (λb=>Mem W b gs) ex (fuel+1) listed):=by
 subst hz
 exact aaM i h e hy ht q rfl (YB _ _ _) (by rw [show ((m:Int)- (p:Int))=((m-p:Nat):Int) by omega,ER j hb.2]) K
def Vw (i:Nat) (k:ajn) {e:ajn} (h:gX ops σ n i=some (d,.convert t t2 x):=by exact rfl) (j:look σ x=some (.int e (m:Int)):=by exact rfl) (hk:(zH P t t2==some k&&p9 md ops ex listed i)=true:=by kernel_rfl) (q:kF k=some B:=by exact rfl) (hb:m<=B:=by omega) (r:∀c (a:Act) v w,Q (.panic c) (a.put (some d) v) w->Q (.panic c) a w:=by exact λ_ _ _ _ h=>h)
 (K:VV W w n D ((d,.int k (m:Int))::σ) fs gs (ql P md ops Q (λb=>Mem W b gs) ex fuel (listed.setIfInBounds i true))):VV W w n D σ fs gs (ql P md ops Q (λb=>Mem W b gs) ex (fuel+1) listed):=by
 rw [abH,beq_iff_eq] at hk
 obtain ⟨hk,ht⟩:=hk
 refine aaq h ht r (λo s _=>Yl.pure (by
  rw [s]
  unfold zH at hk
  split at hk
  ·rename_i A C u z
   injection hk with hk
   subst hk
   simp only [uq,u,z,j,ER q hb]
  ·cases hk)) K
end
def VA (i:Nat) (m:uF fs gs) (r:Array ajh) {e:ajj} (h:gX ops σ n i=some (d,.alloc e):=by exact rfl) (hz:yx P e=some r:=by kernel_rfl) (hr:Region.ready md ops listed=[i]:=by kernel_rfl)
 (k:∀c g,VV W c n D ((d,.pointer (some ⟨g,0,none⟩))::σ) (.blk g r e::fs) gs (ql P md ops Q (λj=>Mem W j gs) ex fuel (listed.setIfInBounds i true))):VV W w n D σ fs gs (ql P md ops Q (λj=>Mem W j gs) ex (fuel+1) listed):=
 aaJ h hr λ_ _ s u q Z b=>Qi Z b s hz u q λa c g Z b=>⟨λ_=>b.sel (.f m),k c g a Z b (b.sel (.f m))⟩
def VI (i:Nat) (m:uF fs gs) {f:FuncId} {xs:Array ajl} {ts:Array ajj} {vs:List ajh} (s:gX ops σ n i=some (d,.call {callee:= .value (.func f),args:=xs,argTypes:=ts}):=by exact rfl) (u:looks σ xs.toList=some vs:=by exact rfl) (h:Mem W w fs->Calls P f vs.toArray w (λr b=>r= .returned v/\Below w.heap.size w b)) (z:callable P f=true:=by kernel_rfl) (hr:Region.ready md ops listed=[i]:=by kernel_rfl)
 (k:∀b,Below w.heap.size w b->VV W b n D ((d,v)::σ) fs gs (ql P md ops Q (λj=>Mem W j gs) ex fuel (listed.setIfInBounds i true))):VV W w n D σ fs gs (ql P md ops Q (λj=>Mem W j gs) ex (fuel+1) listed):=
 aaJ s hr λ_ _ A C q Z c=>AQ Z A u z C q (h c) λ_ b ⟨E,e⟩=>⟨v,E,λa Z=>⟨λ_=>(c.call e).sel m,k b e a Z (c.call e) ((c.call e).sel m)⟩⟩
def VK (i:Nat) (m:uF fs gs) {f:FuncId} {xs:Array ajl} {ts:Array ajj} {vs:List ajh} {V:ajq->Nat->ajh} {l sz:Nat} {e:ajj} {ys:List ajh} (C:gX ops σ n i=some (d,.call {callee:= .value (.func f),args:=xs,argTypes:=ts}):=by exact rfl) (E:looks σ xs.toList=some vs:=by exact rfl) (h:Mem W w fs->Calls P f vs.toArray w (λr b=>(∃A c,r= .returned (V A c)/\b.ownsRow w.heap.size e sz (.slice A l c) l ys/\l<=c)/\Below w.heap.size w b)) (F:callable P f=true:=by kernel_rfl) (hr:Region.ready md ops listed=[i]:=by kernel_rfl)
 (k:∀A c b,l<=c->VV W b n D ((d,V A c)::σ) (.row (.slice A l c) l ys e sz::fs) gs (ql P md ops Q (λq=>Mem W q gs) ex fuel (listed.setIfInBounds i true))):VV W w n D σ fs gs (ql P md ops Q (λq=>Mem W q gs) ex (fuel+1) listed):=
 aaJ C hr λ_ _ G H s Z j=>AQ Z G E F H s (h j) λr b ⟨⟨A,c,I,u,J⟩,z⟩=>⟨_,I,λa Z=>⟨λ_=>(j.dh z u).sel (.f m),k A c b J a Z (j.dh z u) ((j.dh z u).sel (.f m))⟩⟩
end
structure Dl (x:Sm) (w:ajg) (r:ajk) (w':ajg):Prop where
 ret:r= .returned (.agg x.ev.cells)
 below:Below w.heap.size w w'
def zks (x:Sm):∀v∈x.cells.toList,v.oneCell'=true:=by intro v a;simp [Sm.cells] at a;rcases a with rfl|rfl|rfl|rfl|rfl|rfl|rfl|rfl|rfl|rfl|rfl<;>rfl
def zkt (t:Nat):abT .i64 (if (1:Int)>(t:Int) then 1 else (t:Int))= .int .i64 ((max t 1:Nat):Int):=by congr 1;split<;>omega
def Bg (hc:c<64):2^c<18446744073709551616:=by
 have:(2:Nat)^c<2^64:=Nat.pow_lt_pow_right om hc
 omega
def zo4 {m c:Nat} (hm:m<18446744073709551616) (hc:c<64):abT .u64 (IntKind.u64.wrap (abY IntKind.u64.bits (m:Int)|||abY IntKind.u64.bits ((2^c:Nat):Int)).toNat)= .int .u64 ((m|||2^c:Nat):Int):=X6 (m:=m) (n:=2^c) hm (Bg hc)
def zd2 {S:ajg->Prop} {σ:List (Nat×ajh)} {b:acB} (a:o.op= .binOp .shl t x y u) (d:look σ x=some (.int .u64 1)) (hy:look σ y=some (.int b (c:Int))) (hc:c<64):Yl abt S σ o (.int .u64 ((2^c:Nat):Int)):=by
 have h:=aaC (P:=abt) (S:=S) (σ:=σ) (m:=1) (n:=c) a d hy (by show c<=64;omega) (by show 1*2^c<=18446744073709551615;have:=Bg hc;omega)
 rwa [ahu] at h
abbrev ai7:Array ajh:=#[vI 0,vI 0,vB 0,vB 0,vI 0,vI 0,vI 0,vI 0,vI 0,vQ 0,vI 0]
def q6s (x:Sm) (h:x.Ok) (w:ajg):Calls abt 159 #[.agg x.cells] w (Dl x w):=by
 refine (fE Tryz.func159 110) ?_
 refine (JP∘JE) λY g1=>(JA ai7) λw2 g2=>(Jq) ?_
 obtain ⟨h1,h2,h3,h4,h5,h6,h7,h8,h9,M,s⟩:=h
 refine (JG∘JP∘Jg 2 O1∘Jw .i64∘Jp 1∘Jo (vI (1+x.seq:Nat)) (by exact q7 om om)∘Jg 3 O1∘Jw .i64∘Jg 1 O1∘Jp 1∘Jo (vB (x.cpu%64:Nat)) (by exact zi .u8 _ 64)∘Jg 0 O1∘Jp 1∘Jo (vB (x.kind%10:Nat)) (by exact zi .u8 _ 10)∘Jp 1∘Jo (vB (1+(x.kind%10):Nat)) (by exact XY om om)∘fu #[vI (1+x.seq:Nat),vI x.time,vB (x.cpu%64:Nat),vB (1+(x.kind%10):Nat),vI 0,vI 0,vI 0,vI 0,vI 0,vQ 0,vI 0]∘JA ai7) λw3 g3=>(JV ⟨kr,kr⟩ aN) λt=>(aI∘Jj) λa Z b=>?_
 refine wp_seq ?_
 refine Jb Z b ((Vs .n []) λN=>(Vf 0 4∘Vf 5 7∘Vf 10 9∘Vc 1 O2∘Vw 2 .i64∘Vp [3]∘Vo (vI (x.task%65535:Nat)) (by exact zi .i64 _ 65535)∘Vp [4]∘Vo (vI (1+(x.task%65535):Nat)) (by exact q7 om om)∘Vp [15]∘Vc 6 O2∘Vw 7 .i64∘Vp [8]∘Vo (vI (x.weight%65536:Nat)) (by exact zi .i64 _ 65536)∘Vp [9]∘Vo (vI (1+(x.weight%65536):Nat)) (by exact q7 om om)∘Vp [16]∘Vc 11 O2∘Vw 12 .i64∘Vp [13]∘Vo (vI (x.got%65535:Nat)) (by exact zi .i64 _ 65535)∘Vp [14]∘Vo (vI (1+(x.got%65535):Nat)) (by exact q7 om om)∘Vp [17]∘Vd∘fK∘JQ∘JP∘Jg 3 O0∘Jj∘JB∘aM 2∘aL∘Jj) (Je (λg=>?_) λg=>?_))
 ·
  refine (JT∘Vs (.f .n) [19]) λO=>(Vp [0]∘Vf 1 5∘Vp [5]∘Vf 6 10∘Vf 8 2∘Vc 2 O1∘Vw 3 .i64∘Vp [4]∘Vo (vI (x.group%256:Nat)) (by exact zi .i64 _ 256)∘Vc 7 O1) λa Z b d=>?_
  refine s_on Z 9 rfl ?_
  refine Yl.wp (S:=λu=>Mem w u _) (v:=vB (x.cpu%64:Nat)) (Pd rfl rfl kr (λ_ h=>h.cell (i:=0) rfl rfl)) Z b rfl de λa Z=>?_
  refine av d (λd=>?_)
  refine Vb Z b d ((Vf 12 4∘Vy 10 (v:=vQ (2^ (x.cpu%64):Nat)) (h:=by exact zd2 rfl rfl rfl (adJ _ de))∘Vp [11]∘Vo (vQ (x.mask|||2^ (x.cpu%64):Nat)) (by exact zo4 s (adJ _ de))) λa Z b d=>?_)
  refine s_on Z 13 rfl (eU Z b 0 λy b=>?_)
  refine av (b.pk [1,2]) (λd=>?_)
  refine Vb Z b d ((Vf 14 5) λa Z b d=>?_)
  refine s_on Z 15 rfl (eU Z b 0 λz b=>?_)
  refine av (b.pk [1,2]) (λd=>?_)
  refine Vb Z b d ((Vf 16 7) λa Z b d=>?_)
  refine s_on Z 17 rfl (eU Z b 0 λA b=>?_)
  refine av (b.pk [1,2]) (λd=>?_)
  refine Vb Z b d ((Vf 18 9) λa Z b d=>?_)
  refine s_on Z 19 rfl (eU Z b 0 λB b=>?_)
  refine dR kr ?_
  refine qe kr ?_
  refine Jb Z b ((JG∘JP∘Jy (v:= .agg #[vI (1+x.seq:Nat),vI x.time,vB (x.cpu%64:Nat),vB (1+(x.kind%10):Nat),vI (1+(x.task%65535):Nat),vI (x.group%256:Nat),vI 0,vI (1+(x.weight%65536):Nat),vI 0,vQ (x.mask|||2^ (x.cpu%64):Nat),vI 0]) (h:=by exact Pe rfl rfl ⟨kr,kr⟩ rfl (λ_ h=>qj (h.blk (i:=0) rfl)))∘JV ⟨kr,kr⟩ gu) λc=>(jh∘aQ) ?_)
  have e:x.kind%10=0:=by omega
  intro a Z b
  exact jc rfl Z (.cellS (i:=1) Z b rfl rfl ⟨kr,kr⟩ rfl) (⟨by simp [Sm.ev,Ev.cells,e],b.below⟩)
 refine (JF∘aM 2∘aL∘Jj) (Je (λj=>?_) λj=>?_)
 ·
  refine (JT∘JR∘Jp 1∘Jf 4∘JW aN qK) λJ=>(nO∘Jr∘eF ⟨kr,kr⟩ O0∘JV ⟨kr,kr⟩ gu) λc=>(mW∘aQ) ?_
  have e:x.kind%10=1:=by omega
  intro a Z b
  exact jc rfl Z (.cellS (i:=1) Z b rfl rfl ⟨kr,kr⟩ rfl) (⟨by simp [Sm.ev,Ev.cells,e],b.below⟩)
 refine (JF∘aM 2∘aL∘Jj) (Je (λk=>?_) λk=>?_)
 ·
  refine (JT∘JR∘Jg 8 O2∘Jw .i64∘Jy (v:=vI (if (1:Int)>(x.ticks:Int) then 1 else (x.ticks:Int))) (h:=by exact Yl.max rfl rfl rfl)∘Jo (vI (max x.ticks 1:Nat)) (by exact zkt _)∘Jp 2∘Jo (vI (x.got%65535:Nat)) (by exact q7 om om)∘Jf 8∘JW aN GA) λC=>(Jf 10) λa Z b=>?_
  refine fo Z 9 rfl rfl (eU Z b 0 λD b=>?_)
  refine Jb Z b ((jh∘Jr∘Jy (v:= .agg #[vI (1+x.seq:Nat),vI x.time,vB (x.cpu%64:Nat),vB (1+(x.kind%10):Nat),vI 0,vI 0,vI 0,vI 0,vI (max x.ticks 1:Nat),vQ 0,vI (x.got%65535:Nat)]) (h:=by exact Pe rfl rfl ⟨kr,kr⟩ rfl (λ_ h=>qj (h.blk (i:=0) rfl)))∘JV ⟨kr,kr⟩ gu) λc=>(nO∘aQ) ?_)
  have e:x.kind%10=4:=by omega
  intro a Z b
  exact jc rfl Z (.cellS (i:=1) Z b rfl rfl ⟨kr,kr⟩ rfl) (⟨by simp [Sm.ev,Ev.cells,e],b.below⟩)
 refine (JF∘aM 2∘aL∘Jj) (Je (λl=>?_) λl=>?_)
 ·
  refine (JT∘JR∘Jp 2∘Jo (vI (x.got%65535:Nat)) (by exact q7 om om)∘Jf 10) λa Z b=>?_
  refine fo Z 3 rfl rfl (eU Z b 0 λE b=>?_)
  refine Jb Z b ((oK∘Jr∘Jy (v:= .agg #[vI (1+x.seq:Nat),vI x.time,vB (x.cpu%64:Nat),vB (1+(x.kind%10):Nat),vI 0,vI 0,vI 0,vI 0,vI 0,vQ 0,vI (x.got%65535:Nat)]) (h:=by exact Pe rfl rfl ⟨kr,kr⟩ rfl (λ_ h=>qj (h.blk (i:=0) rfl)))∘JV ⟨kr,kr⟩ gu) λc=>(mW∘aQ) ?_)
  have e:x.kind%10=5:=by omega
  intro a Z b
  exact jc rfl Z (.cellS (i:=1) Z b rfl rfl ⟨kr,kr⟩ rfl) (⟨by simp [Sm.ev,Ev.cells,e],b.below⟩)
 refine (JF∘aM 2∘aL∘Jj) (Je (λm=>?_) λm=>?_)
 ·
  refine (JT∘JR∘Jp 2∘Jf 4∘JW aN qK) λF=>(Jf 7∘JW aN wo) λG=>(wu∘Jr∘eF ⟨kr,kr⟩ O0∘JV ⟨kr,kr⟩ gu) λc=>(mW∘aQ) ?_
  have e:x.kind%10=6:=by omega
  intro a Z b
  exact jc rfl Z (.cellS (i:=1) Z b rfl rfl ⟨kr,kr⟩ rfl) (⟨by simp [Sm.ev,Ev.cells,e],b.below⟩)
 refine (JF∘aM 2∘aL∘Jj) (Je (λo=>?_) λo=>?_)
 ·
  refine (JT∘JR∘Jg 5 O2∘Jw .i64∘Jp 1∘Jo (vI (x.group%255:Nat)) (by exact zi .i64 _ 255)∘Jp 1∘Jo (vI (1+(x.group%255):Nat)) (by exact q7 om om)∘Jp 1∘Jf 5∘JW aN rR) λH=>(Jf 7∘JW aN wo) λI=>(jh∘Jr∘eF ⟨kr,kr⟩ O0∘JV ⟨kr,kr⟩ gu) λc=>(nO∘aQ) ?_
  have e:x.kind%10=7:=by omega
  intro a Z b
  exact jc rfl Z (.cellS (i:=1) Z b rfl rfl ⟨kr,kr⟩ rfl) (⟨by simp [Sm.ev,Ev.cells,e],b.below⟩)
 refine (JF∘aM 2∘aL∘Jj) (Je (λp=>?_) λp=>?_)
 ·
  refine (JT∘Vs (.f .n) [14]) λK=>(Vp [0]∘Vf 1 2∘Vf 5 6∘Vc 6 O1∘Vw 7 .i64∘Vp [8]∘Vo (vI (x.to%63:Nat)) (by exact zi .i64 _ 63)) λa Z b d=>?_
  refine s_on Z 2 rfl ?_
  refine Yl.wp (S:=λu=>Mem w u _) (v:=vB (x.cpu%64:Nat)) (Pd rfl rfl kr (λ_ h=>h.cell (i:=0) rfl rfl)) Z b rfl de λa Z=>?_
  refine av d (λd=>?_)
  refine Vb Z b d ((Vf 11 4∘Vw 3 .i64∘zI 4 1∘Va 9∘Vp [10]∘Vo (vI ((x.cpu%64+1+(x.to%63))%64:Nat)) (by exact zi .i64 _ 64)) λa Z b d=>?_)
  refine s_on Z 12 rfl (eU Z b 0 λq b=>?_)
  refine av (b.pk [1,2]) (λd=>?_)
  refine Vb Z b d ((Vf 13 6) λa Z b d=>?_)
  refine s_on Z 14 rfl (eU Z b 0 λr b=>?_)
  refine dR kr ?_
  refine qe kr ?_
  refine Jb Z b ((JG∘JP∘Jy (v:= .agg #[vI (1+x.seq:Nat),vI x.time,vB (x.cpu%64:Nat),vB (1+(x.kind%10):Nat),vI (1+(x.task%65535):Nat),vI 0,vI ((x.cpu%64+1+(x.to%63))%64:Nat),vI 0,vI 0,vQ 0,vI 0]) (h:=by exact Pe rfl rfl ⟨kr,kr⟩ rfl (λ_ h=>qj (h.blk (i:=0) rfl)))∘JV ⟨kr,kr⟩ gu) λc=>(jh∘aQ) ?_)
  have e:x.kind%10=8:=by omega
  intro a Z b
  exact jc rfl Z (.cellS (i:=1) Z b rfl rfl ⟨kr,kr⟩ rfl) (⟨by simp [Sm.ev,Ev.cells,e],b.below⟩)
 refine (JF∘JR∘Jp 1∘Jf 10) λa Z b=>?_
 refine fo Z 2 rfl rfl (eU Z b 0 λL b=>?_)
 refine Jb Z b ((nO∘Jr∘Jy (v:= .agg #[vI (1+x.seq:Nat),vI x.time,vB (x.cpu%64:Nat),vB (1+(x.kind%10):Nat),vI 0,vI 0,vI 0,vI 0,vI 0,vQ 0,vI (1+(x.got%65535):Nat)]) (h:=by exact Pe rfl rfl ⟨kr,kr⟩ rfl (λ_ h=>qj (h.blk (i:=0) rfl)))∘JV ⟨kr,kr⟩ gu) λc=>(mW∘aQ) ?_)
 have P:x.kind%10≠0:=om;have Q:x.kind%10≠1:=om;have R:x.kind%10≠4:=om;have T:x.kind%10≠5:=om;have U:x.kind%10≠6:=om;have V:x.kind%10≠7:=om;have W:x.kind%10≠8:=om;have X:(x.kind%10=2\/x.kind%10=3\/x.kind%10=9):=by omega
 intro a Z b
 exact jc rfl Z (.cellS (i:=1) Z b rfl rfl ⟨kr,kr⟩ rfl) (⟨by simp [Sm.ev,Ev.cells,P,Q,R,T,U,V,W,X],b.below⟩)
section
variable {P:aji} {Q:ajp->Act->ajg->Prop} {a:Act} {W w w':ajg} {n d:Nat} {D:List ajo} {σ:List (Nat×ajh)} {o:ajm} {v:ajh} {K:Act->ajg->Prop} {fs:List ajr}
def run_copy_row (w:ajg) (p q r elem:ajj) (i:TypeInfo) (b off e h:Nat) (ad:Addr) (c f:Nat) (g:List ajh) (s:P.underlying p=some (.slice elem)) (hi:P.info? elem=some i) (t:abr g=agA c e*i.size)
  (k:∀j v,g[j]?=some v->w.cell? (ad.add j)=some v) (hc:w.there b off (abr g)) (h1:∀v∈g,v.oneCell'=true):
  (agX #[p,q] r #[.slice (some ⟨b,off,none⟩) e h,.slice (some ad) c f]).run P w= .ok (goInt (agA c e)) (w.setCells b off g):=by
 have u:=run_firstCells_some (P:=P) w i.size (agA c e) ad c f g t k
 have l:=run_storeCells_cells (P:=P) b off g 0 w (by simpa using λj m=>(hc j m).1) (by simpa using λj m=>(hc j m).2) h1
 simp only [acN] at l
 simp [agX,run_underlying s,afY,sizeOf,typeInfo,hi,u,l]
def NA (Z:Fr a n D σ) (s:Mem W w fs) {x y:ajl} {t e:ajj} {z:ajh} {size bytes i g off h u sn sc m c:Nat} {ad:Addr} {xs:List ajh} (news:List ajh) (l:o.op= .call {callee:= .builtin .copy,args:= #[x,y],argTypes:= #[t,t]}) (A:EI P t e z size bytes)
  (E:look σ x=some (.slice (some ⟨g,off,none⟩) h u)) (hy:look σ y=some (.slice (some ad) sn sc)) (hi:fs[i]?=some (.row (.slice (some ⟨g,0,none⟩) m c) m xs e size)) (hk:news.length=Nat.min sn h*size) (b:∀j v,news[j]?=some v->w.cell? (ad.add j)=some v) (h1:∀v∈news,v.oneCell'=true) (B:off+news.length<=xs.length)
  (F:o.dst=some d) (p:d<n) (k:∀C w',Fr C n D ((d,.int .i64 (Nat.min sn h:Nat))::σ)->Mem W w' (fs.set i (.row (.slice (some ⟨g,0,none⟩) m c) m (putAt xs off news) e size))->K C w'):o.wp P a w K Q:=by
 obtain ⟨G,q,hz,r,H⟩:=info_parts A.hi
 have f:=run_copy_row (P:=P) w t t o.type e G g off h u ad sn sc news A.ht q (by rw [r];exact hk) b (MR s hi off _ B) h1
 unfold acW execOp
 simp only [l,resolve,invoke,builtin,abJ,abR,abD,ac8,acE,adF,Z.eval E,Z.eval hy,f,acy,F]
 exact k _ _ (Z.put p _) (s.o9 hi B)
def qp8 (w:ajg) (t e i:ajj) (z:ajh) (ht:P.underlying t=some (.slice e)) (k:∀w,(zeroValue e).run P w= .ok z w) (b off n c:Nat) (l:0<n) (hc:w.there b off (ab2 z.cells n).toList.length) (h1:∀v∈(ab2 z.cells n).toList,v.oneCell'=true):
  (agS #[t] i #[.slice (some ⟨b,off,none⟩) n c]).run P w= .ok (.tuple #[]) (w.setCells b off (ab2 z.cells n).toList):=by
 have f:=run_storeCells_cells (P:=P) b off (ab2 z.cells n).toList 0 w (λj g=>by have h:=(hc j g).1;simpa only [acN] using h) (λj g=>by have h:=(hc j g).2;simpa only [acN] using h) h1
 simp only [acN] at f
 obtain ⟨m,rfl⟩:∃m,n=m+1:=⟨n-1,by omega⟩
 simp [agS,run_underlying ht,k,f]
def zk3 (Z:Fr a n D σ) (q:Mem W w fs) {x:ajl} {t e:ajj} {z:ajh} {size bytes i g off b r m c:Nat} {xs:List ajh} (j:o.op= .call {callee:= .builtin .clear,args:= #[x],argTypes:= #[t]}) (l:EI P t e z size bytes)
  (y:look σ x=some (.slice (some ⟨g,off,none⟩) b r)) (hi:fs[i]?=some (.row (.slice (some ⟨g,0,none⟩) m c) m xs e size)) (f:0<b) (h1:∀v∈(Builtin.zeroCells z.cells b).toList,v.oneCell'=true) (s:off+b*size<=xs.length)
  (A:o.dst=none) (k:∀w',Mem W w' (fs.set i (.row (.slice (some ⟨g,0,none⟩) m c) m (putAt xs off (Builtin.zeroCells z.cells b).toList) e size))->K a w'):o.wp P a w K Q:=by
 obtain ⟨E,p,hz,B,C⟩:=info_parts l.hi
 have u:(ab2 z.cells b).toList.length=b*size:=by rw [acD,size_zeroCells,l.hz]
 have h:=qp8 (P:=P) w t e o.type z l.ht (λw=>by simp [zeroValue,typeInfo,p,hz]) g off b r f (MR q hi off _ (by rw [u];exact s)) h1
 unfold acW execOp
 simp only [j,resolve,invoke,builtin,abJ,abR,abD,ac8,acE,adF,Z.eval y,h,acy,A]
 exact k _ (q.o9 hi (by rw [u];exact s))
def qkv (w:ajg) (t tn B e:ajj) (i:TypeInfo) (z:ajh) (k kn:ajn) (ht:P.underlying t=some (.slice e)) (q:P.underlying tn=some (.int kn)) (hi:P.info? e=some i) (hz:i.zero=some z)
  (b:Addr) (c f:Nat) (g:List ajh) (r:abr g=c*i.size) (holds:∀j v,g[j]?=some v->w.cell? (b.add j)=some v) (n:Nat) (F:0<n) (hs:0<i.size) (G:f<c+n) (h63:((c+n:Nat):Int)<=9223372036854775807) (y:agd (c+n) f*i.bytes<=281474976710656) (C:n*i.bytes<=281474976710656):
  (adf #[t, tn] B #[.slice (some b) c f, .int k n]).run P w =
   .ok (.slice (some ⟨w.heap.size,0,none⟩) (c+n) (grownCap w (c+n) f e)) (w.drew.alloc (.cells (g.toArray++ab2 z.cells n++ab2 z.cells (grownCap w (c+n) f e- (c+n))) e)):=by
 have A:n≠0:=by omega
 have E:IntKind.i64.wrap (n:Int)=n:=by rw [IntKind.wrap_i64];omega
 have s:¬(c+n<=f):=by omega
 have h:¬(9223372036854775807<((c:Int)+(n:Int))):=by omega
 have l:¬(281474976710656<agd (c+n) f*i.bytes):=by omega
 have m:¬(281474976710656<(n:Int)*(i.bytes:Int)):=by
  rw [<-Int.natCast_mul]
  omega
 have p:¬((n:Int)<0):=by omega
 have u:¬(n*i.size=0):=ahk A om
 have x:=run_firstCells_some (P:=P) w.drew i.size c b c f g r (by simpa using holds)
 simp [adf,run_underlying ht,run_underlying q,sizeOf,typeInfo,zeroValue,hi,hz,asInt,asIntOf,E,A,s,p,u,h,l,m,Question.forced,x,newRow,grownCap]
theorem qnq (Z:Fr a n D σ) (G:Mem W w fs) {s x:ajl} {t tn e:ajj} {z:ajh} {size bytes c cap m:Nat} {ad:Addr} {xs:List ajh} {kn k:ajn} (r:o.op= .call {callee:= .builtin .append,args:= #[s,x],argTypes:= #[t,tn]}) (f:EI P t e z size bytes) (u:P.underlying tn=some (.int kn))
  (hs:look σ s=some (.slice (some ad) c cap)) (H:look σ x=some (.int k (m:Int))) (b:xs.length=c*size/\∀j v,xs[j]?=some v->w.cell? (ad.add j)=some v) (hm:0<m) (C:cap<c+m) (hb:(c+m)*bytes<=140737488355328) (h63:c+m<=9223372036854775807)
  (I:o.dst=some d) (y:d<n) (J:∀E w' g A,Fr E n D ((d,.slice (some ⟨g,0,none⟩) (c+m) A)::σ)->Mem W w' (.row (.slice (some ⟨g,0,none⟩) (c+m) A) (c+m) (xs++(Builtin.zeroCells z.cells m).toList) e size::fs)->c+m<=A->K E w'):o.wp P a w K Q:=by
 obtain ⟨i,hi,hz,h,l⟩:=info_parts f.hi
 have L:=qkv (P:=P) w t tn o.type e i z k kn f.ht u hi hz ad c cap xs (by rw [h];exact b.1) b.2 m hm (by rw [h];exact f.hs) C om (by rw [l];exact growslice_fits C hb) (by rw [l];exact adg (acC _ (Nat.le_add_left _ _)) (adg hb de))
 have F:=grownCap_ge w (c+m) cap e
 have M:=grownCap_le_maxLen w (c+m) cap e (by unfold maxLen;omega)
 have B:(ab2 z.cells m).size=m*size:=by rw [size_zeroCells,f.hz]
 have p:abr (xs++(ab2 z.cells m).toList)=(c+m)*size:=by rw [abu,b.1,aez];show c*size+(ab2 z.cells m).toList.length=_;rw [acD (xs:=ab2 z.cells m),B]
 have q:(w.drew.alloc (.cells (xs.toArray++ab2 z.cells m++ab2 z.cells (grownCap w (c+m) cap e- (c+m))) e)).ownsRow w.heap.size e size (.slice (some ⟨w.heap.size,0,none⟩) (c+m) (grownCap w (c+m) cap e)) (c+m) (xs++(ab2 z.cells m).toList):=by
  refine ⟨p,.inr ⟨w.heap.size,_,_,rfl,abx _,aef w.drew _,F,M,?_,?_⟩⟩
  ·simp only [aff,adj,size_zeroCells,f.hz,b.1,<-aez]
   congr 1
   omega
  ·grind
 unfold acW execOp
 simp only [r,resolve,invoke,builtin,abJ,abR,abD,ac8,acE,adF,Z.eval hs,Z.eval H,L]
 rw [acy,I]
 exact J _ _ w.heap.size _ (Z.put y _) (G.dh ((aeb _ _).drew.alloc (by simp) _) q) F
theorem Mem.pG (h:Mem W w fs) {i g m m' c size:Nat} {e:ajj} {xs:List ajh} (hi:fs[i]?=some (.row (.slice (some ⟨g,0,none⟩) m c) m xs e size)) (h1:m<=m') (r:m'<=c):∃s:List ajh,abr s=(m'-m)*size/\Mem W w (fs.set i (.row (.slice (some ⟨g,0,none⟩) m' c) m' (xs++s) e size)):=by
 have t:=h.own hi
 obtain ⟨B,u⟩:=t
 rcases u with ⟨x,_⟩|⟨y,cap,cur,b,j,k,z,l,f,ht⟩
 ·cases x
 ·injection b with b A p
  injection b with b
  injection b with b
  subst b;subst p
  have e1:m'*size=m*size+(m'-m)*size:=by rw [<-aez];congr 1;omega
  have e2:m'*size<=abr cur.toList:=by rw [acD,f];exact acC _ r
  refine ⟨(cur.toList.drop (m*size)).take ((m'-m)*size),by rw [abA,abE];omega,?_⟩
  have e3:xs++(cur.toList.drop (m*size)).take ((m'-m)*size)=cur.toList.take (m'*size):=by rw [<-ht,e1,List.take_add]
  rw [e3]
  refine h.turn hi h.below (λ_ _ _=>rfl) ⟨by rw [abA];omega,.inr ⟨g,c,cur,rfl,j,k,r,l,f,rfl⟩⟩ (λy q=> .inl q)
theorem Mem.Ik (h:Mem W w fs) {i g m m' c size:Nat} {e:ajj} {xs ys:List ajh} (hi:fs[i]?=some (.row (.slice (some ⟨g,0,none⟩) m c) m xs e size)) (h1:m'<=m) (hy:xs.take (m'*size)=ys):Mem W w (fs.set i (.row (.slice (some ⟨g,0,none⟩) m' c) m' ys e size)):=by
 subst hy
 have b:=h.shrink hi h1 (λe=>by cases e)
 exact b
theorem qv8 (Z:Fr a n D σ) (U:Mem W w fs) {s x:ajl} {t e:ajj} {z:ajh} {size bytes i b m c r g:Nat} {ad:Addr} {xs news:List ajh} (L:o.op= .call {callee:= .builtin .append,args:= #[s,x],argTypes:= #[t,t]}) (V:EI P t e z size bytes)
  (hs:look σ s=some (.slice (some ⟨g,0,none⟩) b r)) (Y:look σ x=some (.slice (some ad) m c)) (hi:fs[i]?=some (.row (.slice (some ⟨g,0,none⟩) b r) b xs e size)) (M:news.length=m*size) (f:∀j v,news[j]?=some v->w.cell? (ad.add j)=some v) (p:b+m<=r) (h1:∀u∈news,u.oneCell'=true)
  (hd:o.dst=some d) (N:d<n) (k:∀X w',Fr X n D ((d,.slice (some ⟨g,0,none⟩) (b+m) r)::σ)->Mem W w' (fs.set i (.row (.slice (some ⟨g,0,none⟩) (b+m) r) (b+m) (xs++news) e size))->K X w'):o.wp P a w K Q:=by
 obtain ⟨J,O,hz,l,hby⟩:=info_parts V.hi
 have B:=U.own hi
 obtain ⟨C,h2⟩:=B
 rcases h2 with ⟨h3,_⟩|⟨g',cap,cur,y,hbb,hgg,hnc,hcm,hcs,ht⟩
 ·cases h3
 ·injection y with y hv2 R
  injection y with y
  injection y with y
  subst y;subst R
  have S:abr news=m*J.size:=by rw [l];exact M
  obtain ⟨ys,E,F⟩:=U.pG hi (adC b m) p
  have G:abr xs=b*size:=C
  have A:=F.o9 (off:=b*size) (vs:=news) (adk (abF.1 hi).1) (by rw [abu,E,G,M];rw [acM];exact abx _)
  have H:=MR F (adk (abF.1 hi).1) (b*size) (abr news) (by rw [abu,E,G,M];rw [acM];exact abx _)
  have hf:=run_firstCells_some (P:=P) w J.size m ad m c news S f
  have I:=run_storeCells_cells (P:=P) g (b*J.size) news 0 w (λj T=>by rw [l];have h:=(H j T).1;simpa only [acN] using h) (λj T=>by rw [l];have h:=(H j T).2;simpa only [acN] using h) h1
  simp only [acN] at I
  have q:(adf #[t,t] o.type #[.slice (some ⟨g,0,none⟩) b r,.slice (some ad) m c]).run P w= .ok (.slice (some ⟨g,0,none⟩) (b+m) r) (w.setCells g (b*J.size) news):=by
   simp [adf,run_underlying V.ht,sizeOf,typeInfo,O,afY,p,hf,acL,I]
  rw [List.set_set] at A
  have e2:putAt (xs++ys) (b*size) news=xs++news:=by
   unfold putAt
   simp_all
  rw [e2] at A
  rw [l] at q
  unfold acW execOp
  simp only [L,resolve,invoke,builtin,abJ,abR,abD,ac8,acE,adF,Z.eval hs,Z.eval Y,q,acy,hd]
  exact k _ _ (Z.put N _) A
theorem zd9 (Z:Fr a n D σ) (j:Mem W w fs) {f:FuncId} {xs:Array ajl} {ts:Array ajj} {vs:List ajh} (c:o.op= .call {callee:= .value (.func f),args:=xs,argTypes:=ts}) (h:looks σ xs.toList=some vs) (b:(callFunc f vs.toArray).run P w= .ok (.value v) w) (i:o.dst=some d) (e:d<n)
  (k:∀g,Fr g n D ((d,v)::σ)->K g w):o.wp P a w K Q:=by
 have e1:xs.map a.eval=vs.toArray:=by
  have:=AP Z h
  grind
 unfold acW execOp
 simp only [c,resolve,ahq,adI,invoke,abJ,abR,abD]
 have e3: #[]++adB a.eval xs++ #[]=vs.toArray:=by simp [e1]
 show af9 P o a K Q (((callFunc f (#[]++adB a.eval xs++ #[])).run P w))
 rw [e3,b,acy,i]
 exact k _ (Z.put e _)
def qta (q:Mem W w fs) {i j k g off L M m c:Nat} {C:Array ajh} {xs:List ajh} {t e r u:ajj} {size:Nat} {z:ajh} {bytes:Nat} (s:EI P t e z size bytes) (N:fs[i]?=some (.blk k C u)) (hi:fs[j]?=some (.row (.slice (some ⟨g,0,none⟩) m c) m xs e size)) (x:i≠j) (hm:0<c) (ln lc:Nat):
  (ad6 #[t,t] #[r] #[.slice (some ⟨k,0,none⟩) ln lc,.slice (some ⟨g,off,none⟩) L M]).run P w= .ok (.bool false) w:=by
 obtain ⟨Z,y,hz,A,R⟩:=info_parts s.hi
 have B:=q.blk N
 obtain ⟨hl,S⟩:=q.own hi
 rcases S with ⟨T,_⟩|⟨g',cap,cur,E,U,F,V,X,G,ht⟩
 ·cases T
 ·injection E with b Y H
  injection b with b
  injection b with b
  subst b;subst H
  have I:k≠g:=by
   intro e
   subst e
   obtain ⟨f,h⟩:=abF.1 N
   obtain ⟨l,p⟩:=abF.1 hi
   rcases Nat.lt_or_gt_of_ne x with J|J
   ·have:=acF.1 q.apart i j f l J
    rw [h,p] at this
    exact this k rfl rfl
   ·have:=acF.1 q.apart j i l f J
    rw [h,p] at this
    exact this k rfl rfl
  have O:=s.hs
  exact Lib.run_overlaps_apart w t r e s.ht size (λw=>by simp [sizeOf,typeInfo,y,A]) ⟨k,0,none⟩ ⟨g,off,none⟩ ln lc L M I u e C.size cur.size (by simp [agc,B]) (by simp [agc,F]) (by rw [G];exact ahk om om) (by simp [afZ,B]) (by simp [afZ,B])
end
def NC {a b c:List ajh}:putAt (a++b) (abr a) c=a++c++b.drop (abr c):=by
 unfold putAt
 rw [adP,<-acH,afP]
def q16 {a b c:List ajh} {k:Nat}:putAt (a++b) (abr a+k) c=a++putAt b k c:=by
 unfold putAt
 rw [afD,abM (adC _ _),acM,show abr a+k+abr c=abr a+(k+abr c) by omega,afE,acu (adC _ _),acX,acM]
 simp only [aby]
def fU (x:Gr):List ajh:=[.int .i64 x.parent,.int .i64 x.weight]
def bZ (x:Tk):List ajh:=[.int .i64 x.id,.int .i64 x.group,.int .i64 x.weight,.int .i64 x.cpu,.int .u64 (x.mask:Int),.bool x.ready,.int .u64 (x.v:Int),.int .u32 (x.r:Int)]
def ji (x:Sp):List ajh:=[.int .u64 (x.v:Int),.int .u32 (x.r:Int),.int .u64 (x.floor:Int)]
def Gr.cells (x:Gr):Array ajh:= #[.int .i64 x.parent,.int .i64 x.weight]
def Tk.cells (x:Tk):Array ajh:= #[.int .i64 x.id,.int .i64 x.group,.int .i64 x.weight,.int .i64 x.cpu,.int .u64 (x.mask:Int),.bool x.ready,.int .u64 (x.v:Int),.int .u32 (x.r:Int)]
def Sp.cells (x:Sp):Array ajh:= #[.int .u64 (x.v:Int),.int .u32 (x.r:Int),.int .u64 (x.floor:Int)]
def qC (x:Gr):abr (fU x)=2:=rfl
def qm (x:Tk):abr (bZ x)=8:=rfl
def zP (x:Sp):abr (ji x)=3:=rfl
def zid (x:Gr):∀v∈x.cells.toList,v.oneCell'=true:=by simp [Gr.cells,abV]
def Il (x:Tk):∀v∈x.cells.toList,v.oneCell'=true:=by simp [Tk.cells,abV]
def zie (x:Sp):∀v∈x.cells.toList,v.oneCell'=true:=by simp [Sp.cells,abV]
structure Rw where
 A:ajq
 c:Nat
 l:List Sp
def Rw.zero:Rw:=⟨none,0,[]⟩
def aac (x:Rw):ajh:= .slice x.A (abr x.l) x.c
def Rw.own (x:Rw):Own:=⟨x.A,abr x.l,x.c,x.l.flatMap ji⟩
structure aF where
 au:Int
 aj:Nat
 gA:ajq
 gc:Nat
 gs:List Gr
 lA:ajq
 lc:Nat
 cl:List Int
 uA:ajq
 uc:Nat
 cu:List Int
 tA:ajq
 tc:Nat
 ts:List Tk
 sA:ajq
 sc:Nat
 rs:List Rw
def aF.ay (x:aF):bI:=⟨x.au,x.aj,x.gs,x.cl,x.cu,x.ts,x.rs.map Rw.l⟩
def aF.cells (x:aF):Array ajh:= #[.int .i64 x.au,.int .u64 (x.aj:Int),.slice x.gA (abr x.gs) x.gc,.slice x.lA (abr x.cl) x.lc,.slice x.uA (abr x.cu) x.uc,.slice x.tA (abr x.ts) x.tc,.slice x.sA (abr x.rs) x.sc]
def Fg (x:aF):∀v∈x.cells.toList,v.oneCell'=true:=by simp [aF.cells,abV]
structure fC (w:ajg) (x:aF):Prop where
 g:Rd w w.heap.size 2 x.gA (abr x.gs) (x.gs.flatMap fU)
 l:Rd w w.heap.size 1 x.lA (abr x.cl) (x.cl.map aZ)
 u:Rd w w.heap.size 1 x.uA (abr x.cu) (x.cu.map aZ)
 t:Rd w w.heap.size 8 x.tA (abr x.ts) (x.ts.flatMap bZ)
 s:Rd w w.heap.size 1 x.sA (abr x.rs) (x.rs.map aac)
 r:∀y∈x.rs,Rd w w.heap.size 3 y.A (abr y.l) (y.l.flatMap ji)
structure gD (x:aF):Prop where
 g:abr x.gs<=x.gc
 l:abr x.cl<=x.lc
 u:abr x.cu<=x.uc
 t:abr x.ts<=x.tc
 s:abr x.rs<=x.sc
 r:∀y∈x.rs,abr y.l<=y.c
structure cZ (x:aF):Prop where
 g:abr x.gs<=1000000
 l:abr x.cl<=1000000
 u:abr x.cu<=1000000
 t:abr x.ts<=1000000
 s:abr x.rs<=1000000
 r:∀y∈x.rs,abr y.l<=1000000
theorem fC.old {x:aF} (h:fC W x) (a:Mem W w fs):fC w x:=⟨a.old h.g,a.old h.l,a.old h.u,a.old h.t,a.old h.s,λy b=>a.old (h.r y b)⟩
theorem kH {x:aF} (h:g<abr x.rs):x.ay.sp.getD g []=(x.rs.getD g Rw.zero).l:=by
 show (x.rs.map Rw.l).getD g []=_
 rw [abw,abw,acQ,abv h]
 rfl
theorem fC.row {x:aF} (h:fC w x) {g:Nat} (a:g<abr x.rs):Rd w w.heap.size 3 (x.rs.getD g Rw.zero).A (x.rs.getD g Rw.zero).l.length ((x.rs.getD g Rw.zero).l.flatMap ji):=h.r _ (qf Rw.zero a)
def kI:SI abt 198 2:=⟨by kernel_rfl,by kernel_rfl⟩
def fH:SI abt 232 8:=⟨by kernel_rfl,by kernel_rfl⟩
def mh:SI abt 200 3:=⟨by kernel_rfl,by kernel_rfl⟩
def zQ:SI abt 44 3:=⟨by kernel_rfl,by kernel_rfl⟩
def eX:SI abt 48 7:=⟨by kernel_rfl,by kernel_rfl⟩
def qp:SI abt 333 3:=⟨by kernel_rfl,by kernel_rfl⟩
def zr:SI abt 50 8:=⟨by kernel_rfl,by kernel_rfl⟩
def jE:EI abt 42 198 (.agg Gr.zero.cells) 2 16:=⟨by kernel_rfl,by kernel_rfl,rfl,by omega⟩
def dL:EI abt 45 232 (.agg Tk.zero.cells) 8 64:=⟨by kernel_rfl,by kernel_rfl,rfl,by omega⟩
def mo:EI abt 176 200 (.agg Sp.zero.cells) 3 24:=⟨by kernel_rfl,by kernel_rfl,rfl,by omega⟩
def oO:EI abt 46 176 (.slice none 0 0) 1 24:=⟨by kernel_rfl,by kernel_rfl,rfl,by omega⟩
section
variable {w w':ajg} {p q:Prop} [Decidable p] [Decidable q]
def Bn (h:q↔p) (hb:Below w.heap.size w w'):Is w (.bool (decide p)) (.returned (.bool (decide q))) w':=⟨by rw [decide_eq_decide.2 h],hb⟩
def Fh (h:p) (hb:Below w.heap.size w w'):Is w (.bool (decide p)) (.returned (.bool true)) w':=⟨by rw [decide_eq_true h],hb⟩
def eH (h:¬p) (hb:Below w.heap.size w w'):Is w (.bool (decide p)) (.returned (.bool false)) w':=⟨by rw [decide_eq_false h],hb⟩
def dA {a b:Bool} (h:a=b) (hb:Below w.heap.size w w'):Is w (.bool b) (.returned (.bool a)) w':=h▸ ⟨rfl,hb⟩
end
def R4 {l:List Gr} (h:¬(1<=abr l/\abr l<=256/\l.getD 0 Gr.zero=⟨0,1⟩)):dO l=false:=by unfold dO;rw [decide_eq_false h,adz]
def NI {l:List Gr} (a:g<abr l) (h:qQ l g=false):dO l=false:=by unfold dO;rw [Bl a h,adA]
def zea {l:List Gr} (h:1<=abr l/\abr l<=256/\l.getD 0 Gr.zero=⟨0,1⟩) (a:gK (abr l) (qQ l)):dO l=true:=by unfold dO;rw [decide_eq_true h,a.all];rfl
def zeb (l:List Gr):qQ l 0=true:=rfl
theorem NJ {l:List Gr} (a:0<g) (h:¬(0<=(l.getD g Gr.zero).parent/\(l.getD g Gr.zero).parent<g/\(1<=(l.getD g Gr.zero).weight/\(l.getD g Gr.zero).weight<=65536)/\jq l g<=4)):qQ l g=false:=by grind [qQ,mK]
theorem zk4 {l:List Gr} (h:0<=(l.getD g Gr.zero).parent/\(l.getD g Gr.zero).parent<g/\(1<=(l.getD g Gr.zero).weight/\(l.getD g Gr.zero).weight<=65536)/\jq l g<=4):qQ l g=true:=by grind [qQ,mK]
def q69 {l:List Gr} (b:gK g (qQ l)) (h:0<=(l.getD g Gr.zero).parent/\(l.getD g Gr.zero).parent<g):∀i,0<i->i<=g->fA l i:=λi c hi=>by
 rcases ab0 i g with a|a
 ·exact ND (b i a) c
 ·obtain rfl:i=g:=by omega
  exact h
def zR {l:List Gr} (h:dO l=true) {g:Nat} (b:g<abr l):∀i,0<i->i<=g->fA l i:=λi a hi=>ND ((qt h).2.2.2 i om) a
def qyz (x y:Gr):nY abt 4 198 (.agg x.cells) (.agg y.cells)=some (decide (x=y)):=by
 have h:nY abt 4 198 (.agg x.cells) (.agg y.cells)=some ((x.parent==y.parent)&& ((x.weight==y.weight)&&true)):=by kernel_rfl
 refine h.trans (congrArg some ?_)
 obtain ⟨a,b⟩:=x
 obtain ⟨c,d⟩:=y
 rw [ab3]
 simp only [abH,beq_iff_eq,decide_eq_true_eq,Gr.mk.injEq,and_true]
def zk5 {m n:Nat} (h:1<=n):(((m/2^ (n-1)/2:Nat):Int) !=(0:Int))=decide (2^n<=m):=by
 have e:m/2^ (n-1)/2=m/2^n:=by rw [Nat.div_div_eq_div_mul,<-Nat.pow_succ,show (n-1).succ=n by omega]
 rw [e,ab3,bne_iff_ne,decide_eq_true_eq]
 have a:= @Nat.div_pos_iff m (2^n)
 have c:0<2^n:=ahi n
 generalize m/2^n=q at*
 constructor
 ·intro b
  exact (a.1 om).2
 ·intro b
  have:=a.2 ⟨c,b⟩
  omega
section
variable {x:aF} {t:Tk}
def Fj (h:¬(1<=t.id/\t.id<=65535/\0<=t.group/\t.group<abr x.rs/\0<=t.cpu/\t.cpu<x.au)):eG x.ay t=false:=by
 unfold eG
 rw [decide_eq_false (by rwa [show abr x.ay.sp=abr x.rs from abz ..]),adz]
theorem zo9 (h:¬(1<=t.weight/\t.weight<=65536)):eG x.ay t=false:=by grind [eG,mK]
def zpa (h:2^x.au.toNat<=t.mask):eG x.ay t=false:=by
 unfold eG yN
 rw [show decide (2^x.ay.au.toNat<=t.mask)=true from decide_eq_true h]
 simp
def zpb (h:¬t.mask/2^t.cpu.toNat%2=1):eG x.ay t=false:=by unfold eG;rw [decide_eq_false h];simp
def zpc (h:1<=t.id/\t.id<=65535/\0<=t.group/\t.group<abr x.rs/\0<=t.cpu/\t.cpu<x.au) (a:1<=t.weight/\t.weight<=65536) (b:¬2^x.au.toNat<=t.mask) (c:t.mask/2^t.cpu.toNat%2=1):eG x.ay t=cO t.v t.r t.weight:=by
 unfold eG mK yN
 rw [decide_eq_true (by rwa [show abr x.ay.sp=abr x.rs from abz ..]),decide_eq_true a,show decide (2^x.ay.au.toNat<=t.mask)=false from decide_eq_false b,decide_eq_true c]
 simp
def R5 (h:¬(1<=x.au/\x.au<=64/\x.aj<=1099511627776)):gL x.ay=false:=by unfold gL;rw [show decide (1<=x.ay.au/\x.ay.au<=64/\x.ay.aj<=1099511627776)=false from decide_eq_false h];rfl
def zk6 (h:1<=x.au/\x.au<=64/\x.aj<=1099511627776):gL x.ay=dO x.gs:=by unfold gL;rw [show decide (1<=x.ay.au/\x.ay.au<=64/\x.ay.aj<=1099511627776)=true from decide_eq_true h];rfl
def mX (h:gL x.ay=true):1<=x.au/\x.au<=64/\x.aj<=1099511627776/\dO x.gs=true:=by
 unfold gL at h
 rw [abH,decide_eq_true_eq] at h
 exact ⟨h.1.1,h.1.2.1,h.1.2.2,h.2⟩
end
def wL (w:ajg) (n:Nat) (p:Nat->Bool) (r:ajk) (w':ajg):Prop:=(∃i:Int,r= .returned (.int .i64 i)/\decide (i>=0)= !iO n p)/\Below w.heap.size w w'
def q17 {k:Nat} {p:Nat->Bool} (hk:k<n) (h:p k=false) (hb:Below w.heap.size w w'):wL w n p (.returned (.int .i64 (k:Int))) w':=⟨⟨k,rfl,by rw [Bl hk h,decide_eq_true om];rfl⟩,hb⟩
def q18 {p:Nat->Bool} (a:gK n p) (hb:Below w.heap.size w w'):wL w n p (.returned (.int .i64 (-1))) w':=⟨⟨-1,rfl,by rw [a.all];rfl⟩,hb⟩
def R6 (w:ajg) (l:List Gr) (r:ajk) (w':ajg):Prop:=(∃i e:Int,r= .returned (.tuple #[.int .i64 i,.int .i64 e])/\((e==0)=dO l))/\Below w.heap.size w w'
def Dm {l:List Gr} {i e:Int} (h:dO l=false) (a:e≠0) (hb:Below w.heap.size w w'):R6 w l (.returned (.tuple #[.int .i64 i,.int .i64 e])) w':=⟨⟨i,e,rfl,by rw [h];exact beq_false_of_ne a⟩,hb⟩
def qv9 {l:List Gr} {i:Int} (h:dO l=true) (hb:Below w.heap.size w w'):R6 w l (.returned (.tuple #[.int .i64 i,.int .i64 0])) w':=⟨⟨i,0,rfl,by rw [h];rfl⟩,hb⟩
section
variable {x:aF} {g c i:Nat}
theorem lX:abr x.ay.sp=abr x.rs:=abz ..
theorem R7:NG x.ay=decide ((abr x.cl:Int)=x.au/\(abr x.cu:Int)=x.au/\abr x.rs=abr x.gs):=by unfold NG;rw [lX];rfl
def zpd (h:gL x.ay=false):og x.ay=false:=by unfold og;rw [h];rfl
theorem R8 (h:¬((abr x.cl:Int)=x.au/\(abr x.cu:Int)=x.au/\abr x.rs=abr x.gs)):og x.ay=false:=by grind [R7,og]
def Im (h:iO (abr x.cl) (λc=>iV (x.cl.getD c 0))=false):og x.ay=false:=by unfold og;rw [show iO (abr x.ay.cl) (λc=>iV (x.ay.cl.getD c 0))=false from h];simp
theorem zif (a:g<abr x.rs) (h:rowOk x.ay g=false):og x.ay=false:=by grind [Bl,og,lX]
def Io (hi:i<abr x.ts) (h:jD x.ay i=false):og x.ay=false:=by unfold og;rw [Bl (n:=abr x.ay.ts) hi h];simp
def zpe (h1:gL x.ay=true) (a:(abr x.cl:Int)=x.au/\(abr x.cu:Int)=x.au/\abr x.rs=abr x.gs) (b:iO (abr x.cl) (λc=>iV (x.cl.getD c 0))=true) (d:gK (abr x.rs) (rowOk x.ay)) (e:gK (abr x.ts) (jD x.ay)):og x.ay=true:=by
 unfold og
 rw [h1,R7,decide_eq_true a,show iO (abr x.ay.cl) (λc=>iV (x.ay.cl.getD c 0))=true from b,lX,d.all,show iO (abr x.ay.ts) (jD x.ay)=true from e.all]
 rfl
structure ShAt (x:aF):Prop where
 cfg:gL x.ay=true
 cl:(abr x.cl:Int)=x.au
 cu:(abr x.cu:Int)=x.au
 rs:abr x.rs=abr x.gs
 cls:∀c,c<abr x.cl->iV (x.cl.getD c 0)=true
 row:∀g,g<abr x.rs->rowOk x.ay g=true
 tk:∀i,i<abr x.ts->jD x.ay i=true
def wM (h:og x.ay=true):ShAt x:=by
 unfold og at h
 simp only [abH] at h
 obtain ⟨⟨d,a⟩,e,b,f⟩:=h
 rw [R7,decide_eq_true_eq] at a
 rw [lX] at b
 exact ⟨d,a.1,a.2.1,a.2.2,λc hc=>wJ e hc,λg j=>wJ b j,λi hi=>wJ f hi⟩
theorem NK (a:g<abr x.rs):rowOk x.ay g=(decide (((x.rs.getD g Rw.zero).l.length:Int)=x.au)&&iO (x.rs.getD g Rw.zero).l.length λc=>fq x.ay g ((x.rs.getD g Rw.zero).l.getD c Sp.zero)):=by
 unfold rowOk bI.spot
 rw [kH a]
 rfl
def zk7 (a:g<abr x.rs) (h:((x.rs.getD g Rw.zero).l.length:Int)≠x.au):rowOk x.ay g=false:=by rw [NK a,decide_eq_false h];rfl
def zk8 (a:g<abr x.rs) (hc:c<(x.rs.getD g Rw.zero).l.length) (h:fq x.ay g ((x.rs.getD g Rw.zero).l.getD c Sp.zero)=false):rowOk x.ay g=false:=by rw [NK a,Bl hc h,adA]
def q7c (a:g<abr x.rs) (h:((x.rs.getD g Rw.zero).l.length:Int)=x.au) (b:gK (x.rs.getD g Rw.zero).l.length (λc=>fq x.ay g ((x.rs.getD g Rw.zero).l.getD c Sp.zero))):rowOk x.ay g=true:=by rw [NK a,decide_eq_true h,b.all];rfl
theorem Dn (a:g<abr x.rs) (h:rowOk x.ay g=true):((x.rs.getD g Rw.zero).l.length:Int)=x.au/\∀c,c<(x.rs.getD g Rw.zero).l.length->fq x.ay g ((x.rs.getD g Rw.zero).l.getD c Sp.zero)=true:=by grind [wJ,NK]
variable {z:Sp}
def zpf (h:cO z.v z.r (x.gs.getD g Gr.zero).weight=false):fq x.ay g z=false:=by unfold fq;rw [show cO z.v z.r (x.ay.gs.getD g Gr.zero).weight=false from h];rfl
def zpg (a:g=0) (h:¬(z.v=0/\z.r=0)):fq x.ay g z=false:=by unfold fq;rw [decide_eq_false h,a];simp
def zk9 (h:cO z.v z.r (x.gs.getD g Gr.zero).weight=true) (a:g≠0):fq x.ay g z=true:=by unfold fq;rw [show cO z.v z.r (x.ay.gs.getD g Gr.zero).weight=true from h];simp [a]
def zla (h:cO z.v z.r (x.gs.getD g Gr.zero).weight=true) (a:g=0) (b:z.v=0):((z.r:Int) !=(0:Int))= !fq x.ay g z:=by
 unfold fq
 rw [show cO z.v z.r (x.ay.gs.getD g Gr.zero).weight=true from h,a,b]
 rw [ab3,bne_iff_ne]
 simp
def q7d (a:i=0\/(x.ts.getD (i-1) Tk.zero).id<(x.ts.getD i Tk.zero).id):jD x.ay i=eG x.ay (x.ts.getD i Tk.zero):=by
 unfold jD
 rw [show (i==0||decide ((x.ay.ts.getD (i-1) Tk.zero).id<(x.ay.ts.getD i Tk.zero).id))=true from by rw [adD,beq_iff_eq,decide_eq_true_eq];exact a]
 rfl
def zec (a:0<i) (h:¬(x.ts.getD (i-1) Tk.zero).id<(x.ts.getD i Tk.zero).id):jD x.ay i=false:=by
 unfold jD
 rw [show decide ((x.ay.ts.getD (i-1) Tk.zero).id<(x.ay.ts.getD i Tk.zero).id)=false from decide_eq_false h,show (i==0)=false from by rw [beq_eq_false_iff_ne];omega]
 rfl
def Fp (h:jD x.ay i=true):(i=0\/(x.ts.getD (i-1) Tk.zero).id<(x.ts.getD i Tk.zero).id)/\eG x.ay (x.ts.getD i Tk.zero)=true:=by
 unfold jD at h
 rw [abH,adD,beq_iff_eq,decide_eq_true_eq] at h
 exact h
end
theorem qR {l:List Gr} (h:dO l=true) {g:Nat} (a:g<abr l):1<=(l.getD g Gr.zero).weight/\(l.getD g Gr.zero).weight<=65536:=by grind [qQ,qt,mK]
def ko (a b:Int):Int:=if a<b then -1 else if b<a then 1 else 0
theorem q7e {a b:Int}:decide (ko a b<0)=decide (a<b):=by grind [ko]
theorem q7f {a b:Int}:(ko a b==0)=decide (a=b):=by grind [ko]
def zlb {a b:Int}:(ko a b !=0)=decide (a≠b):=by
 rw [bne,q7f,decide_not]
def fO (l:List Tk):Prop:=∀i j,i<j->j<abr l->(l.getD i Tk.zero).id<(l.getD j Tk.zero).id
theorem q7g {x:aF} (h:ShAt x):fO x.ts:=by
 have step:∀i,i+1<abr x.ts->(x.ts.getD i Tk.zero).id<(x.ts.getD (i+1) Tk.zero).id:=λi hi=>by
  have:=(Fp (h.tk (i+1) hi)).1
  grind
 intro i j a
 induction j with
 |zero=>omega
 |succ j b=>
  grind
theorem R9 {l:List Tk} {id:Int} (hi:i<abr l) (h:(l.getD i Tk.zero).id=id) (b:∀k,k<i->(l.getD k Tk.zero).id≠id):gQ l id=some i:=by
 unfold gQ
 rw [afl]
 have e:∀k (a:k<abr l),l.getD k Tk.zero=l[k]:=λk a=>by rw [abw,abv a];rfl
 grind
theorem qte {l:List Tk} {id:Int} (a:∀k,k<abr l->(l.getD k Tk.zero).id≠id):gQ l id=none:=by grind [gQ,List.findIdx?_eq_none_iff,abv,acn]
theorem Sc {l:List Tk} {id:Int} (h:gQ l id=some i):i<abr l/\(l.getD i Tk.zero).id=id:=by grind [gQ,afl,abv]
def fidx (l:List Tk) (id:Int):Int:=match gQ l id with
 |some i=>(i:Int)
 |none=> -1
def NP (w:ajg) (l:List Tk) (id:Int) (r:ajk) (a:ajg):Prop:=(∃(i:Nat) (b:Bool),r= .returned (.tuple #[.int .i64 (i:Int),.bool b])/\i<=abr l/\(if b=true then (i:Int) else -1)=fidx l id)/\Below w.heap.size w a
def q7h {l:List Tk} {id:Int} (hs:fO l) (hi:i<abr l) (h1:∀k,k<i->(l.getD k Tk.zero).id<id) (e:∀k,i<=k->k<abr l->id<=(l.getD k Tk.zero).id) (hb:Below w.heap.size w W):NP w l id (.returned (.tuple #[.int .i64 (i:Int),.bool (decide ((l.getD i Tk.zero).id=id))])) W:=by
 refine ⟨⟨i,_,rfl,by omega,?_⟩,hb⟩
 unfold fidx
 by_cases h:(l.getD i Tk.zero).id=id
 ·rw [decide_eq_true h,if_pos rfl,R9 hi h (λk a=>by have:=h1 k a;omega)]
 ·rw [decide_eq_false h,if_neg de,qte (λk a=>?_)]
  rcases ab0 k i with b|b
  ·have:=h1 k b;omega
  ·have f:=e i (abx _) hi
   rcases ab0 i k with d|d
   ·have:=hs i k d a;omega
   ·obtain rfl:k=i:=by omega
    exact h
theorem search_end {l:List Tk} {id:Int} (h1:∀k,k<abr l->(l.getD k Tk.zero).id<id) (hb:Below w.heap.size w W):NP w l id (.returned (.tuple #[.int .i64 (abr l:Int),.bool false])) W:=by
 refine ⟨⟨_,_,rfl,abx _,?_⟩,hb⟩
 grind [fidx,qte]
def qy3 {x:aF} (a:x.cu.getD c 0≠0) {i:Nat} (hi:gQ x.ts (x.cu.getD c 0)=some i):fB x.ay c=((x.ts.getD i Tk.zero).ready&&decide ((x.ts.getD i Tk.zero).cpu=c)):=by
 unfold fB
 rw [show gQ x.ay.ts (x.ay.cu.getD c 0)=some i from hi,show decide (x.ay.cu.getD c 0=0)=false from decide_eq_false a]
 rfl
def qoo {x:aF} (a:x.cu.getD c 0≠0) (hi:gQ x.ts (x.cu.getD c 0)=none):fB x.ay c=false:=by
 unfold fB
 rw [show gQ x.ay.ts (x.ay.cu.getD c 0)=none from hi,show decide (x.ay.cu.getD c 0=0)=false from decide_eq_false a]
 rfl
def q19 {x:aF} (a:x.cu.getD c 0=0):fB x.ay c=true:=by
 unfold fB
 rw [show decide (x.ay.cu.getD c 0=0)=true from decide_eq_true a]
 rfl
theorem Sd (l:List Tk) (id:Int):(fidx l id= -1/\gQ l id=none)\/∃i:Nat,fidx l id=i/\gQ l id=some i/\i<abr l/\(l.getD i Tk.zero).id=id:=by grind [fidx,gQ,Sc]
def Mb.nums (m:Mb):List Nat:=[m.v,m.k,m.id]
def Mb.cells (m:Mb):Array ajh:= #[.int .u64 (m.v:Int),.int .u64 (m.k:Int),.int .u64 (m.id:Int)]
def Dp (x:Mb):∀v∈x.cells.toList,v.oneCell'=true:=by simp [Mb.cells,abV]
theorem zed {b:Mb} {k:Nat} (hk:k<3) (d:∀i,i<k->a.nums.getD i 0=b.nums.getD i 0) (e:a.nums.getD k 0≠b.nums.getD k 0):decide (ko (a.nums.getD k 0:Int) (b.nums.getD k 0:Int)<0)=a.lt b:=by
 rw [q7e]
 obtain ⟨f,j,l⟩:=a
 obtain ⟨n,o,p⟩:=b
 unfold Mb.lt
 rw [decide_eq_decide]
 dsimp only
 rcases k with _|_|_|k
 ·simp [Mb.nums] at e⊢;omega
 ·grind [Mb.nums]
 ·have q:=d 0 om
  grind [Mb.nums]
 ·omega
theorem zee {b:Mb} (d:∀i,i<3->a.nums.getD i 0=b.nums.getD i 0):a.lt b=false:=by
 obtain ⟨e,f,j⟩:=a
 obtain ⟨k,l,n⟩:=b
 have o:=d 0 om
 have p:=d 1 om
 have q:=d 2 om
 grind [Mb.lt,Mb.nums]
def wN (w:ajg) (a b:Mb) (r:ajk) (d:ajg):Prop:=(∃c:Int,r= .returned (.int .i64 c)/\decide (c<0)=a.lt b)/\Below w.heap.size w d
def q2a (b:Mb) (l:List Mb) (m:Mb):aO b (l++[m])=if m.lt (aO b l) then m else aO b l:=by unfold aO;rw [afS];rfl
def qed {α β:Type} {f:α->Option β} {l:List α} {k:Nat} (d:α) (hk:k<abr l):(l.take (k+1)).filterMap f=(l.take k).filterMap f++(f (l.getD k d)).toList:=by
 rw [takeSnoc' d hk,List.filterMap_append]
 congr 1
where
 takeSnoc' {α:Type} {l:List α} {k:Nat} (d:α) (hk:k<abr l):l.take (k+1)=l.take k++[l.getD k d]:=by
  rw [adx,abv hk,abw,abv hk]
  rfl
def zef {b:Mb} {k:Nat} (hk:k<3) (d:∀i,i<k->a.nums.getD i 0=b.nums.getD i 0) (e:a.nums.getD k 0≠b.nums.getD k 0) (hb:Below w.heap.size w W):wN w a b (.returned (.int .i64 (ko (a.nums.getD k 0:Int) (b.nums.getD k 0:Int)))) W:=⟨⟨_,rfl,zed hk d e⟩,hb⟩
def zeg {b:Mb} (d:∀i,i<3->a.nums.getD i 0=b.nums.getD i 0) (hb:Below w.heap.size w W):wN w a b (.returned (.int .i64 0)) W:=⟨⟨_,rfl,by rw [zee d];rfl⟩,hb⟩
theorem qwc {h:Nat} (h1:g+1<=h) (a:h<n):((acw n).drop (g+1)).getD (h- (g+1)) 0=h/\h- (g+1)<abr ((acw n).drop (g+1)):=by grind
theorem zeh {β:Type} {f:Nat->Option β} {h:Nat} (h1:g+1<=h) (a:h<n):(((acw n).drop (g+1)).take (h+1- (g+1))).filterMap f=(((acw n).drop (g+1)).take (h- (g+1))).filterMap f++(f h).toList:=by
 obtain ⟨e,b⟩:=qwc h1 a
 have:=qed (f:=f) 0 b
 grind
def zlc {β:Type} {f:Nat->Option β} {n g:Nat}:(((acw n).drop (g+1)).take (n- (g+1))).filterMap f=((acw n).drop (g+1)).filterMap f:=by rw [abM (by simp)]
section
variable {x:aF} {g c h:Nat} {m:Nat->List Mb}
def q7i (a:(x.gs.getD h Gr.zero).parent≠g):lV x.ay c m g h=none:=if_neg (λb=>a b.1)
def q7j (hm:m h=[]):lV x.ay c m g h=none:=if_neg (λa=>a.2 hm)
def zei (hr:h<abr x.rs) (a:(x.gs.getD h Gr.zero).parent=g) (hm:m h≠[]):lV x.ay c m g h=some ⟨((x.rs.getD h Rw.zero).l.getD c Sp.zero).v,1,h⟩:=by
 unfold lV
 rw [if_pos ⟨a,hm⟩]
 unfold bI.spot
 rw [kH hr]
def Ir (a:og x.ay=false):lM x.ay=false:=by unfold lM;rw [a];rfl
def Iu (hc:c<abr x.cu) (h:fB x.ay c=false):lM x.ay=false:=by unfold lM;rw [Bl (n:=abr x.ay.cu) hc (by rw [h];rfl),adA]
def Iw (hc:c<abr x.cu) (a:g<abr x.rs) (h:kY x.ay g c=false):lM x.ay=false:=by
 unfold lM
 rw [Bl (n:=abr x.ay.cu) hc (by rw [Bl (n:=abr x.ay.sp) (p:=λg=>kY x.ay g c) (i:=g) (by rwa [lX]) h,adA]),adA]
def Iy (a:og x.ay=true) (b:gK (abr x.cu) λc=>fB x.ay c&&iO (abr x.rs) λg=>kY x.ay g c):lM x.ay=true:=by
 unfold lM
 rw [a,lX,show iO (abr x.ay.cu) _=true from b.all]
 rfl
def zld (h:aU x.ay g c=[]):kY x.ay g c=true:=decide_eq_true (.inl h)
theorem zph (h:aU x.ay g c≠[]):kY x.ay g c=decide ((aO bP (aU x.ay g c)).v<=(x.ay.spot g c).floor):=by grind [kY]
theorem Sg (hr:g<abr x.rs):x.ay.spot g c=(x.rs.getD g Rw.zero).l.getD c Sp.zero:=by unfold bI.spot;rw [kH hr]
end
section
variable {P:aji} {S:ajg->Prop} {σ:List (Nat×ajh)} {o:ajm}
end
section
variable {P:aji} {Q:ajp->Act->ajg->Prop} {W:ajg} {a:Act} {w:ajg} {n d:Nat} {D:List ajo} {σ:List (Nat×ajh)} {fs:List ajr} {o:ajm} {K:Act->ajg->Prop}
end
def zlf {l:List Gr} (h:∀i,0<i->i<=g->fA l i):jq l g<=g:=by
 induction g using ae8 with
 | _ g b =>
  rcases ach g with a|a
  ·subst a;exact abx _
  ·have c:=h g a (abx _)
   unfold fA at c
   have:=b (l.getD g Gr.zero).parent.toNat om (λi d e=>h i d om)
   rw [RY h a]
   omega
def qtg (x:Int) (w:ajg):Calls abt 301 #[vI x] w (Is w (.bool (decide (1<=x/\x<=65536)))):=by
 refine (fE Tryz.func301 9) ?_
 refine (aM 1∘bg 3) (Ji (λa=>?_) λa=>?_)
 ·
  exact (Jp 4∘aI∘aQ∘aW) λb=>Bn om b.below
 exact (Jp 4∘aI∘aQ∘aW) λb=>eH om b.below
def qko (x:Int) (w:ajg):Calls abt 267 #[vI x] w (Is w (.bool (decide (1<=x/\x<=65536)))):=by
 refine (fE Tryz.func267 9) ?_
 refine (aM 1∘bg 3) (Ji (λa=>?_) λa=>?_)
 ·
  exact (Jp 4∘aI∘aQ∘aW) λb=>Bn om b.below
 exact (Jp 4∘aI∘aQ∘aW) λb=>eH om b.below
def NR (x:Int) (w:ajg):Calls abt 198 #[vI x] w (Is w (.bool (decide (1<=x/\x<=65536)))):=by
 refine (fE Tryz.func198 9) ?_
 refine (aM 1∘bg 3) (Ji (λa=>?_) λa=>?_)
 ·
  exact (Jp 4∘aI∘aQ∘aW) λb=>Bn om b.below
 exact (Jp 4∘aI∘aQ∘aW) λb=>eH om b.below
abbrev ah9:=λa b=>(.blk a #[vI b] 3:ajr)
abbrev aik:=λa=>((0,.func (.yield a) #[] #[]):(Nat×ajh))
def zlg (W w:ajg) (d e h:Nat) (A:ajq) (c:Nat) (l:List Gr) (g:Nat) (Inv:Nat->List ajr->Prop) (o:List ajr) (hr:Rd W W.heap.size 2 A (abr l) (l.flatMap fU)) (M:abr l<=1000000) (N:g<abr l) (B:∀i,0<i->i<=g->fA l i)
    (hy:qyx abt W h (jq l g+1) Inv) (p:Inv 0 o) (b:Mem W w (.blk d #[vI g] 3:: .blk e #[abo A l c] 42::o)):
    Calls abt 320 (.func (.yield h) #[] #[]:: [vP d 0,vP e 0]).toArray w (q68 W (Inv (jq l g+1))):=by
 refine nZ Tryz.func320 [.func (.yield h) #[] #[],vP d 0,vP e 0] [aik h,(1,vP d 0),(2,vP e 0)] λa Z=>?_
 refine Jb Z b ((JB) λa Z b=>?_)
 refine qg (λC E G=>∃(x:Nat) (i:Nat) (F:List ajr),(Inv i F)/\(x<=g)/\(jq l x+i=jq l g)/\C=0+x/\Fr E 16 [] [aik h,(1,vP d 0),(2,vP e 0)]/\Mem W G (ah9 d x::.blk e #[abo A l c] 42::F)) (m:=0+g) ⟨g,0,o,p,abx _,acN _,rfl,Z.sub kr,b.pt 2 [0,1]⟩ ?_
 clear Z b;rintro C a O ⟨x,i,F,H,q,P,rfl,Z,b⟩
 refine Jb Z b ((JQ) λa Z b=>?_)
 refine wp_seq ?_
 refine Gv (i:=2) ?_
 refine Jb Z b ((Jp 1∘Jc O0∘Jq) λa Z b=>?_)
 refine vv Z (i:=2) (vs:=[vI x]) rfl rfl rfl rfl rfl rfl de (hy i F [ah9 d x,.blk e #[abo A l c] 42] _ (x:Int) H om (aag (es:=F) b)) zt ?_
 clear Z b;rintro v r a ⟨s,b,t,f⟩ Z;injection t with t;subst t
 replace b:Mem W r (ah9 d x::.blk e #[abo A l c] 42::s):=aag (es:=[ah9 d x,.blk e #[abo A l c] 42]) b
 refine Jb Z b ((Jp 1∘Jc O0∘Jp 2∘aI∘Jq) (Ji (λj=>?_) λj=>?_))
 ·
  have k:0<x:=by omega
  obtain ⟨I,J⟩:=B x k q
  obtain ⟨y,n⟩:∃y:Nat,(l.getD x Gr.zero).parent=(y:Int):=⟨(l.getD x Gr.zero).parent.toNat,by omega⟩
  have u:=RY (l:=l) (g:=x) (λi K hi=>B i K om) k
  rw [n,abI] at u
  refine (JT∘ET∘JB∘JR∘Jc O1∘Jc O0) ?_
  obtain ⟨gA,Q,rfl,_⟩:=hr.sat x
  refine (iF x 2∘Jf 0∘ES qC hr x Gr.zero∘Jo (vI y) (by rw [n])∘JW aN aN) λD=>(qL∘Jq) λa Z b=>?_
  exact ⟨_,om,y,i+1,s,f,by omega,by omega,rfl,Z.sub kr,b.pt 2 [0,1]⟩
 obtain rfl:x=0:=by omega
 have L:=q65 l
 refine (JF∘JX) ?_
 have z:i+1=jq l g+1:=by omega
 rw [z] at f
 intro a Z b
 exact iD rfl Z ⟨_,rfl,s,aam [.blk d #[vI 0] 3,.blk e #[abo A l c] 42] b,f⟩
def zpi (A:ajq) (n c:Nat) (g:Int) (w:ajg):
    Calls abt 314 #[.slice A n c,vI g] w λr d=>∃a b,r= .returned (.func (.func 320) #[] #[vP a 0,vP b 0])/\Mem w d [ah9 a g,.blk b #[.slice A n c] 42]:=by
 refine (iQ Tryz.func314 6) ?_
 exact (JP∘uH) λj e=>(uH) λk f=>(Jp 1∘Jr∘Jy (h:=by exact Yl.makeFunc (fst:=[]) (caps:=[vP f 0,vP e 0]) rfl rfl rfl)∘Jp 1∘aL∘aQ∘aW) λi=>by exact ⟨_,_,rfl,i.pk [0,1]⟩
abbrev ahY:=λa=>(.obj a (.deferred (some [])):ajr)
def q7m (A:ajq) (c:Nat) (l:List Gr) (g:Nat) (w:ajg) (hr:Rd w w.heap.size 2 A (abr l) (l.flatMap fU)) (q:abr l<=1000000) (s:g<abr l) (n:∀i,0<i->i<=g->fA l i):
    Calls abt 302 #[abo A l c,vI g] w (Is w (vI (jq l g:Int))):=by
 have j:=zlf n
 refine Cz (vs:=[abo A l c,vI g]) Tryz.func302 rfl rfl kr (σ0:=[(0,abo A l c),(1,vI g)]) rfl ?_
 intro a Z
 have b:=Mem.start w
 refine Jb Z b ((aM 1∘Jr∘JA #[vI 0]) λt e=>(JW aN aN) λo=>(Jj∘bM 2∘JL (h:=by exact λb=>zpi A (abr l) c (g:Int) _)) ?_)
 rintro b _ E ⟨u,y,rfl,hm⟩
 refine ⟨_,rfl,_,b.join hm,?_⟩
 refine (bU∘Jj∘JB) λa Z b=>?_
 refine Cy Z b (λF=>F=[ah9 e (((jq l g+1):Int)-1)]) (λ_ _=>False) rfl kr ?_ ?_ (λ_ _ _ _ _ h=>h.elim)
 ·
  clear Z b;intro f B d z k b
  have C:qyx abt w f (jq l g+1) (λi F=>F=(.obj f (.loop (d .ready none)):: .obj B (.deferred (some [])):: [ah9 e ((i:Int)-1)])):=by
   rintro i F fr G x rfl hi b
   replace b:Mem w _ (ah5 f (d .ready none)::ahY B::ah9 e ((i:Int)-1)::fr):=b
   refine qtc (v1:=vI x) k b de λa Z=>?_
   refine wpIn_skip ?_
   refine ⟨(ahY B::ah9 e ((i:Int)-1)::fr),b.pt (fs':=(ah5 f (d .ready none)::ahY B::ah9 e ((i:Int)-1)::fr)) 3 [0,1,2],λH b=>?_⟩
   refine wpIn_block ?_
   refine qk ?_
   refine Jb Z b ((Jc O2∘Jp 1∘Jo (vI (((i+1:Nat):Int)-1)) (by have D:=j;exact (nN ⟨by omega,by omega⟩).trans (congrArg (abT .i64) om))∘JW iE aN) λp=>(oK∘Jq) λa Z b=>?_)
   refine ⟨(ahY B::ah9 e (((i+1:Nat):Int)-1)::fr),b.pt (fs':=(ah5 f (d .busy none)::ahY B::ah9 e (((i+1:Nat):Int)-1)::fr)) 3 [0,1,2],λt b=>?_⟩
   exact ⟨(ah5 f (d .ready none)::ahY B::ah9 e (((i+1:Nat):Int)-1)::[]),b,rfl,rfl⟩
  refine (zlg w z u y f A c l g _ _ hr q s n C rfl (b.pk [2,3,0,1,4])).mono ?_
  rintro r I ⟨v,rfl,J,m,rfl⟩
  exact ⟨v,rfl,.inl ⟨_,rfl,m⟩⟩
 clear Z b;rintro B a K _ rfl Z b
 refine Jb Z b ((JG∘JP∘Jc O1∘Jp 1∘aL∘aQ) λa Z b=>?_)
 refine yH Z b (i:=0) rfl λa L Z b=>?_
 exact l8 rfl Z rfl (⟨by congr 2;omega,b.below⟩)
def q2b (A:ajq) (c:Nat) (l:List Gr) (t:∀x∈l,x.Ok) (w:ajg) (hr:Rd w w.heap.size 2 A (abr l) (l.flatMap fU)) (G:abr l<=1000000):
    Calls abt 261 #[abo A l c] w (R6 w l):=by
 refine (fE Tryz.func261 58) ?_
 refine (cB 2∘JQ∘JB∘aM 1∘Jl∘Jp 2∘eO∘Jj) (Ji (λu=>?_) λu=>?_)
 ·
  exact (JT∘bB 2∘bW) λb=>Dm (R4 om) de b.below
 refine (JF∘aM 1∘Jl∘Jp 2) (Je (λf=>?_) λf=>?_)
 ·
  exact (Jp 7∘aI∘Jj∘JT∘bB 2∘bW) λb=>Dm (R4 om) de b.below
 obtain ⟨gA,s,rfl,_⟩:=hr.sat 0
 refine (Jp 1∘Jy (v:=vP gA s) (h:=by exact Yl.indexAddr (ad:=⟨gA,s,none⟩) (y:=0) (sz:=2) rfl rfl rfl om kr)∘qM Gr.cells qC hr kI 0 Gr.zero∘fu #[vI 0,vI 1]∘Jy (v:= .bool (!(decide ((l.getD 0 Gr.zero)=⟨0,1⟩)))) (h:=by exact aax rfl rfl rfl (qyz (l.getD 0 Gr.zero) ⟨0,1⟩))∘Jp 2∘aI∘Jj) (Ju (λe=>?_) λe=>?_)
 ·
  have z:=of_decide_eq_false ((acP _).mp e)
  exact (JT∘bB 2∘bW) λb=>Dm (R4 (λh=>by rw [h.2.2] at e;simp at e)) de b.below
 have z:=of_decide_eq_true ((aem _).mp e)
 refine (aP∘JQ∘cB 1∘JB) λa Z b=>?_
 refine qg (λF H I=>∃(g:Nat),(1<=g)/\(g<=abr l)/\(gK g (qQ l))/\F=abr l-g/\Fr H 58 [] [(4,vI g),(9,.bool false),(5,.bool false),(3,vI 0),(2,vI 0),(0,abo (some ⟨gA,s,none⟩) l c)]/\Mem w I []) (m:=abr l-1) ⟨1,abx _,by omega,gK.zero.succ (zeb l),rfl,Z.sub kr,b.pk []⟩ ?_
 clear Z b;rintro F a N ⟨g,J,K,B,rfl,Z,b⟩
 refine Jb Z b ((bM 2∘Jl∘Jp 1∘eO∘Jj) (Ji (λj=>?_) λj=>?_))
 ·
  have d:g<abr l:=by omega
  have k:=t _ (qf Gr.zero d)
  have C:=k.parent
  intro a Z b
  unfold aX at C
  have D:=k.weight
  unfold aX at D
  refine Jb Z b ((eP∘JB∘aM 2∘iF g 2∘Jf 0∘ES qC hr g Gr.zero∘Jp 2) (Ji (λn=>?_) λn=>?_))
  ·
   exact (Jv 9 [(26,.bool true)]∘aI∘Jj∘JT∘bB 3∘bW) λb=>Dm (NI d (NJ om om)) de b.below
  refine (Jp 2∘iF g 2∘Jf 0∘ES qC hr g Gr.zero∘Jp 4∘aI∘Jj) (Ji (λo=>?_) λo=>?_)
  ·
   exact (JT∘bB 3∘bW) λb=>Dm (NI d (NJ om om)) de b.below
  have E:=q69 B ⟨by omega,by omega⟩
  refine (JF∘aM 2∘iF g 2∘Jf 1∘QC qC hr 1 g Gr.zero∘JL (h:=by exact λb=>qtg ((l.getD g Gr.zero).weight) _)) ?_
  rintro b _ L ⟨rfl,p⟩
  refine ⟨_,rfl,_,b.call p,?_⟩
  refine (Jp 2∘aI∘Jj) (nQ (λq=>?_) λq=>?_)
  ·
   exact (JT∘bB 3∘bW) λb=>Dm (NI d (NJ om om)) de b.below
  refine (JF∘aM 2∘JI (h:=by exact λb=>q7m (some ⟨gA,s,none⟩) c l g _ (b.old hr) G om E)) λM p=>(Jp 2∘fK∘Jj) (Ji (λr=>?_) λr=>?_)
  ·
   exact (JT∘bB 3∘bW) λb=>Dm (NI d (NJ om om)) de b.below
  refine (aP∘JR∘Jp 1∘dx 1∘Jp 1∘bU∘Jq) λa Z b=>?_
  exact ⟨_,om,g+1,by omega,by omega,B.succ (zk4 ⟨by omega,by omega,by omega,by omega⟩),rfl,Z.sub kr,b.pk []⟩
 exact (JF∘JX∘JG∘bB 2∘bW) λb=>by exact qv9 (zea ⟨by omega,by omega,by simpa using e⟩ (λi hi=>B i om)) b.below
def q2c (A:ajq) (c:Nat) (l:List Gr) (b:∀x∈l,x.Ok) (w:ajg) (hr:Rd w w.heap.size 2 A (abr l) (l.flatMap fU)) (f:abr l<=1000000):
    Calls abt 191 #[abo A l c] w (Is w (.bool (dO l))):=by
 refine (fE Tryz.func191 12) ?_
 refine (aM 1∘bg 1∘JL (h:=by exact λa=>q2b A c l b _ (a.old hr) f)) ?_
 rintro a _ j ⟨⟨i,e,rfl,g⟩,d⟩
 refine ⟨_,rfl,_,a.call d,?_⟩
 exact (Jp 1∘Jx∘Jx∘Jp 2∘aI∘bg 3∘eO∘aQ∘aW) λa=>dA g a.below
def Sj (v r:Nat) (b:Int) (g:v<18446744073709551616) (hr:r<4294967296) (i:0<=b/\b<4294967296) (w:ajg):
    Calls abt 218 #[.agg #[vQ v,vW r,vW b]] w (Is w (.bool (cO v r b))):=by
 obtain ⟨z,rfl⟩:∃z:Nat,b=(z:Int):=⟨b.toNat,by omega⟩
 refine (fE Tryz.func218 24) ?_
 refine (JP∘JE) λj g1=>(Jp 1∘Jr∘Jg 2 O0∘Jw .i64∘JL (h:=by exact λa=>qko (z:Int) _)) ?_
 rintro a _ k ⟨rfl,e⟩
 refine ⟨_,rfl,_,a.call e,?_⟩
 refine (Jp 1) (Ji (λf=>?_) λf=>?_)
 ·
  refine (Jg 1 O0∘Jg 2 O0∘Jp 3) (Ji (λc=>?_) λc=>?_)
  ·
   refine (Jg 0 O0∘Jp 2) (Ji (λd=>?_) λd=>?_)
   ·
    exact (Jp 6∘aI∘aQ∘aW) λa=>Fh om a.below
   exact (Jg 1 O0∘Jp 4∘aI∘aQ∘aW) λa=>Bn om a.below
  exact (Jv 10 [(2,.bool false)]∘aI∘aQ∘aW) λa=>eH om a.below
 exact (Jv 17 [(2,.bool false)]∘fK∘aQ∘aW) λa=>eH om a.below
def zk (v r:Nat) (b:Int) (e:0<=b/\b<4294967296) (w:ajg):
    Calls abt 208 #[vQ v,vW r,vI b] w (Is w (.agg #[vQ v,vW r,vW b])):=by
 obtain ⟨z,rfl⟩:∃z:Nat,b=(z:Int):=⟨b.toNat,by omega⟩
 refine (vC Tryz.func208 12) ?_
 refine (JP∘JA #[vQ 0,vW 0,vW 0]) λf g=>(bg 3∘Jv 1 [(10,vW (IntKind.u32.wrap (z:Int)))]∘Jo (vW z) (by exact Cv rfl om)∘fu #[vQ v,vW r,vW z]∘JV qp aN) λc=>(qL∘aQ) λa Z d=>?_
 exact jc rfl Z (.cellS (i:=0) Z d rfl rfl qp rfl) (⟨rfl,d.below⟩)
def qy4 (m n:Nat) (hm:m<18446744073709551616) (a:1<=n/\n<=64) (w:ajg):
    Calls abt 199 #[vQ m,vI n] w (Is w (.bool (decide (2^n<=m)))):=by
 refine (iQ Tryz.func199 11) ?_
 exact (aM 1∘bg 2∘zG 1∘Jy (v:=vQ (m/2^ (n-1):Nat)) (h:=by exact aat (m:=m) (n:=(n-1)) rfl rfl rfl (by show _<=64;omega))∘Jp 1∘Jo (vQ ((m/2^ (n-1))/2:Nat)) (by exact vo .u64 (m/2^ (n-1)) (j:=1) (q:=2) rfl rfl)∘Jp 2∘aI∘aQ∘aW) λb=>dA (zk5 a.1) b.below
abbrev aiH:(Nat×ajh):=(4,.bool false)
def qip (x : aF) (t : Tk) (c : t.Ok) (I : 1 <= x.au /\ x.au <= 64) (J : abr x.rs <= 1000000) (w : ajg) :
    Calls abt 219 #[.agg x.cells,.agg t.cells] w (Is w (.bool (eG x.ay t))):=by
 obtain ⟨n,y⟩:∃n:Nat,x.au=(n:Int):=⟨x.au.toNat,by omega⟩
 have f:1<=n/\n<=64:=by omega
 have K:=c.v
 have L:=c.r
 have hi:=c.id
 have B:=c.group
 have hc:=c.cpu
 have C:=c.weight
 have hm:=c.mask
 unfold aX at hi B hc C
 refine (iQ Tryz.func219 72) ?_
 refine (JP∘JE) λM N=>(JE) λO P=>(Jp 1∘Jr∘Jg 0 O0∘Jp 2) (Ji (λz=>?_) λz=>?_)
 ·
  refine (Jg 0 O0∘Jp 3) (Ji (λg=>?_) λg=>?_)
  ·
   refine (Jg 1 O0∘Jp 3) (Ji (λi=>?_) λi=>?_)
   ·
    refine (Jg 1 O0∘Jg 6 O1∘Jl∘Jp 3) (Ji (λl=>?_) λl=>?_)
    ·
     refine (Jg 3 O0∘Jp 3) (Ji (λo=>?_) λo=>?_)
     ·
      refine (Jg 3 O0∘Jf 0∘Jg 0 O1∘Jp 3) (Ji (λp=>?_) λp=>?_)
      ·
       obtain ⟨k,A⟩:∃k:Nat,t.cpu=(k:Int):=⟨t.cpu.toNat,by omega⟩
       refine (Jg 2 O0∘JL (h:=by exact λb=>NR t.weight _)) ?_
       rintro b _ D ⟨rfl,e⟩
       refine ⟨_,rfl,_,b.call e,?_⟩
       refine (Jp 2) (Ji (λq=>?_) λq=>?_)
       ·
        refine (Jg 4 O0∘Jf 0∘Jf 0∘Jc O1∘Jo (vI n) (by rw [y])∘JI (h:=by exact λb=>qy4 t.mask n c.mask f _)) λE e=>(Jp 3) (Ju (λd=>?_) λd=>?_)
        ·
         have s:=of_decide_eq_false ((acP _).mp d)
         have F:=ae7 t.mask (2^k)
         refine (Jg 4 O0∘Jf 3∘Jc O0∘Jo (vI k) (by rw [A])∘Jy (v:=vQ (t.mask/2^k:Nat)) (h:=by exact aat (m:=t.mask) (n:=k) rfl rfl rfl (by show _<=64;omega))∘Jp 1∘Jo (vQ ((t.mask/2^k)%2:Nat)) (by exact MU (n:=1) (j:=1) rfl de om)∘Jp 3) (Je (λu=>?_) λu=>?_)
         ·
          refine (Jg 6 O0∘Jg 7 O0∘Jg 2 O0∘JI (h:=by exact λb=>zk t.v t.r t.weight om _)) λG e=>(JI (h:=by exact λb=>Sj t.v t.r t.weight om om om _)) λH e=>(Jp 2∘aI∘Jq) λa Z b=>?_
          replace Z:=Z.to [(4,.bool (cO t.v t.r t.weight))]
          exact Jb Z b ((JG∘JZ∘aW) λb=>dA (zpc om om (by rw [y,abI];simpa using d) (by rw [A,abI];omega)).symm b.below)
         refine (Jv 10 [aiH]∘aI∘Jq) λa Z b=>?_
         replace Z:=Z.to [aiH]
         exact Jb Z b ((JG∘JZ∘aW) λb=>dA (zpb (by rw [A,abI];omega)).symm b.below)
        have s:=of_decide_eq_true ((aem _).mp d)
        exact (Jv 19 [aiH]∘aI∘aQ∘aW) λb=>dA (zpa (by rw [y,abI];simpa using d)).symm b.below
       exact (Jv 28 [aiH]∘aI∘aQ∘aW) λb=>dA (zo9 om).symm b.below
      exact (Jv 33 [aiH]∘aI∘aQ∘aW) λb=>dA (Fj om).symm b.below
     exact (Jv 41 [aiH]∘aI∘aQ∘aW) λb=>dA (Fj om).symm b.below
    exact (Jv 46 [aiH]∘aI∘aQ∘aW) λb=>dA (Fj om).symm b.below
   exact (Jv 54 [aiH]∘aI∘aQ∘aW) λb=>dA (Fj om).symm b.below
  exact (Jv 59 [aiH]∘aI∘aQ∘aW) λb=>dA (Fj om).symm b.below
 exact (Jv 64 [aiH]∘eO∘aQ∘aW) λb=>dA (Fj om).symm b.below
def qf7 (x:aF) (b:x.ay.Ok) (i:cZ x) (w:ajg) (j:fC w x):
    Calls abt 146 #[.agg #[vI x.au,vQ (x.aj:Int),abo x.gA x.gs x.gc]] w (Is w (.bool (gL x.ay))):=by
 have hc:=b.au
 have c:=b.aj
 replace hc:aX x.au:=hc
 replace c:x.aj<18446744073709551616:=c
 unfold aX at hc
 refine (fE Tryz.func146 21) ?_
 refine (JP∘JE) λm g1=>(Jp 1∘Jr∘Jg 0 O0∘Jp 2) (Ji (λf=>?_) λf=>?_)
 ·
  refine (Jg 0 O0∘Jp 3) (Ji (λd=>?_) λd=>?_)
  ·
   refine (Jg 1 O0∘Jp 3) (Ji (λe=>?_) λe=>?_)
   ·
    exact (Jg 2 O0∘JI (h:=by exact λa=>q2c x.gA x.gc x.gs b.gs _ (a.old j.g) i.g)) λk l=>(Jp 2∘aI∘aQ∘aW) λa=>dA (zk6 om).symm a.below
   exact (Jp 5∘aI∘aQ∘aW) λa=>dA (R5 om).symm a.below
  exact (Jv 10 [(2,.bool false)]∘aI∘aQ∘aW) λa=>dA (R5 om).symm a.below
 exact (Jv 15 [(2,.bool false)]∘eO∘aQ∘aW) λa=>dA (R5 om).symm a.below
def q7n (t:Int) (w:ajg):Calls abt 217 #[vI t] w (Is w (.bool (!iV t))):=by
 refine (fE Tryz.func217 9) ?_
 refine (aM 1∘bg 3) (Ji (λa=>?_) λa=>?_)
 ·
  exact (Jp 4∘aI∘aQ∘aW) λb=>dA (by first|(unfold iV;rw [decide_eq_false om];rfl)|(unfold iV;rw [<-decide_not];exact decide_eq_decide.2 om)) b.below
 exact (Jp 4∘aI∘aQ∘aW) λb=>dA (by first|(unfold iV;rw [decide_eq_false om];rfl)|(unfold iV;rw [<-decide_not];exact decide_eq_decide.2 om)) b.below
abbrev ah8:=λa b c d e=>((a,vI b)::(c,vI d)::e:List (Nat×ajh))
def qwh (A:ajq) (c:Nat) (l:List Int) (w:ajg) (hr:Rd w w.heap.size 1 A (abr l) (l.map aZ)) (s:abr l<=1000000):
    Calls abt 270 #[abo A l c,.func (.func 217) #[] #[]] w (wL w (abr l) (λc=>iV (l.getD c 0))):=by
 refine (iQ Tryz.func270 19) ?_
 refine (cB 1∘bM 1∘Jl∘bO 1∘JB) λa Z b=>?_
 refine qg (λn p q=>∃(k:Nat),(k<=abr l)/\(gK k (λc=>iV (l.getD c 0)))/\n=abr l-k/\Fr p 19 [] (ah8 8 k 7 (abr l) [(4,vI 0),(0,abo A l c),(1,.func (.func 217) #[] #[])])/\Mem w q []) (m:=abr l-0) ⟨0,abC _,gK.zero,rfl,Z.sub kr,b.pk []⟩ ?_
 clear Z b;rintro n a t ⟨k,u,o,rfl,Z,b⟩
 refine Jb Z b ((cB 1∘JQ) (Ji (λe=>?_) λe=>?_))
 ·
  have g:k<abr l:=by omega
  refine (eP∘aM 2∘aL∘bg 3) ?_
  obtain ⟨gA,v,rfl,_⟩:=hr.sat k
  refine (iF k 1∘Jy (h:=by exact aad hr k 0 om rfl rfl)) λa Z b=>?_
  refine fo Z 5 rfl rfl ?_
  refine zl Z (f:=217) (vs:=[vI (l.getD k 0)]) (fst:=[]) (caps:=[]) rfl rfl rfl kr rfl de (q7n (l.getD k 0) _) ?_
  rintro _ r ⟨rfl,j⟩
  refine ⟨_,rfl,?_⟩
  replace b:=b.call j
  clear Z;intro a Z
  refine Jb Z b ((kV∘Jj) (Ju (λd=>?_) λd=>?_))
  ·
   exact (JT∘aM 2∘aL∘aQ∘aW) λb=>q17 g (by simpa using d) b.below
  refine (aP∘JR∘dx 1∘Jp 1∘aL∘Jq) λa Z b=>?_
  exact ⟨_,om,k+1,by omega,o.succ (by simpa using d),rfl,Z.sub kr,b.pk []⟩
 exact (JF∘JX∘JG∘bB 1∘aW) λb=>q18 (λi hi=>o i om) b.below
def qnr (A:ajq) (c:Nat) (l:List Int) (w:ajg) (hr:Rd w w.heap.size 1 A (abr l) (l.map aZ)) (d:abr l<=1000000):
    Calls abt 216 #[abo A l c,.func (.func 217) #[] #[]] w (Is w (.bool (!iO (abr l) (λc=>iV (l.getD c 0))))):=by
 refine (iQ Tryz.func216 9) ?_
 refine (aM 1∘bg 2∘JL (h:=by exact λa=>qwh A c l _ (a.old hr) d)) ?_
 rintro a _ f ⟨⟨i,rfl,e⟩,b⟩
 refine ⟨_,rfl,_,a.call b,?_⟩
 exact (Jp 2∘fK∘aQ∘aW) λa=>dA e a.below
end Go.Proofs.YtekiimhdnigmcaaGreatDoor
