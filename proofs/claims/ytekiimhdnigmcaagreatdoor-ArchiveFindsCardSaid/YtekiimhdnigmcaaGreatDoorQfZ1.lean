/- Parts. -/
import Derived.Test.YtekiimhdnigmcaaGreatDoorQfSep4
import Derived.Deep.DeepAppendWide
import Derived.Deep.Upon
import Derived.MapKept
import Derived.IntWalk
import Derived.Maps.RangeRun
import Derived.Test.YtekiimhdnigmcaaGreatDoorQfRnd
import Derived.RangeFuncLeaves
import Derived.Recover
import Derived.Test.YtekiimhdnigmcaaGreatDoorQfConv
import Derived.Lib.AppendZeros
import Derived.Test.YtekiimhdnigmcaaGreatDoorQfVarint
import Derived.Test.YtekiimhdnigmcaaGreatDoorQfCrcP
import Derived.Test.YtekiimhdnigmcaaGreatDoorQfNum
import Derived.ChangeKeysEq
import Derived.Laws.StructEq
import Derived.Laws.Slices
import Derived.Test.YtekiimhdnigmcaaGreatDoorQfPick
import Derived.Laws.IdiomCopy
import Derived.Lib.Overlaps
import Derived.Test.YtekiimhdnigmcaaGreatDoorQfSta
import Derived.Deep.AppendSrc
set_option linter.all false
set_option maxRecDepth 100000
set_option maxHeartbeats 1000000
namespace Go.Proofs.YtekiimhdnigmcaaGreatDoor
open Go.RowKit
open List renaming length→abl
open _root_.Go.Proofs.Tryz renaming prog→abm
open _root_.List renaming length_append→abn,getD_eq_getElem?_getD→abo,getElem?_eq_getElem→abp,length_take→abr,length_map→abu,getElem?_eq_some_iff→abv,append_assoc→aby,replicate→abD,mem_of_getElem?→abM,length_drop→abN,length_set→abO,take_of_length_le→abP,flatMap_cons→abT,append_nil→abU,map_append→abV,mem_of_mem_drop→abZ,mem_append→ab5,mem_map→ab6,take_append_drop→ab9,mem_cons_of_mem→aci,drop_eq_getElem_cons→acn,drop_of_length_le→acp,mem_cons_self→acs,pairwise_iff_getElem→acu,getElem_of_mem→acB,all_eq_true→acC,lookup_cons→acL,getElem?_set_self→acO,map_cons→acS,map_toArray→acT,drop_drop→acV,range→acW,eq_nil_of_length_eq_zero→acY,size_toArray→ac2,getElem?_map→ac3,nil_append→ac4,perm_append_comm→ac7,map_nil→ade,getElem?_take→ado,getElem?_cons_succ→adC,set_getElem_self→adE,take_left→adG,take_add_one→adP,setIfInBounds_toArray→adT,getElem?_toArray→ael,findIdx?_eq_some_iff_getElem→aeC,take_append→aeO,drop_append→aeP,map_drop→aeQ,mem_filterMap→aeV,set_cons_zero→aeW,toArray_replicate→afu,length_singleton→afF,mem_iff_getElem?→afH,pairwise_append→afO,map_take→afU,set_cons_succ→afZ,ext_getElem?→af7,foldl_append→aga,count_cons→agn,drop_left→agw
open Nat renaming le_refl→abq,zero_le→abw,lt_or_ge→ab7,eq_zero_or_pos→ach,zero_add→acj,mul_le_mul_right→acD,add_zero→acF,add_sub_cancel_left→acH,le_trans→acM,mul_one→acX,min_eq_left→adb,succ_mul→adj,mod_lt→adr,sub_self→adK,le_add_right→adS,add_mul→adY,add_comm→aeu,div_le_self→aew,or_lt_two_pow→aeF,sub_zero→aeG,strongRecOn→ae0,zero_mul→afC,min→afP,lt_of_le_of_lt→af4,two_pow_pos→agv,mul_ne_zero→agx,add_assoc→agG,one_mul→agS
open Result renaming andThen_ok→abx
open Bool renaming and_eq_true→abF,eq_iff_iff→ace,or_eq_true→adw,not_eq_true'→adA,and_false→adH,not_eq_false'→aeX,false_and→afK,false_or→agD
open Int renaming toNat_natCast→abG
open Sem renaming run_bind→abL,run_pure→abR,run→ae4
open Value renaming int→abQ,bool→abX,oneCell'→acd
open BitVec renaming ofInt→abW
open Builtin renaming zeroCells→abY,append_→ac0,lenOf→ae5,nextslicecap→afn,clear_→agb,copy_→agh
open Fence renaming wide→ab8
open Go renaming IntKind→acf
open Oper renaming upon_value→aco,wp→acR,upon_skip→afE,upon→agc,upon_enter→agl,semAt_none→agm
open _root_.Array renaming length_toList→acv,getD_eq_getD_getElem?→acG,toArray_toList→acQ,toList_map→adl,getElem?_eq_some_iff→adq,map→adu,getElem?_append→adD,getElem_toList→adN,size_append→aez,getElem?_modify→afs,toList_append→afN,range→agH
open Region renaming ready→acA,wanted→acU,Mode→adJ
open Op renaming equalIn→acJ,equal→ac9
open Addr renaming add_mid→acN
open Go.IntKind renaming wrap→ac8
open Instr renaming sliceAt→adg,buildSlice→adn,build→adW,typeAssert→aei,fill→aes,lookup→aeA,sliceBounds→aeT,sliceBound→ae1,slice→af5,mapUpdate→agd,enterLoop→agf,findNow→agu
open Code renaming wp→adp,region→aee,cond→afk,wp_mono→agI
open Option renaming bind_eq_some_iff→adv,map_eq_some_iff→ady,map_some→adO,map_none→aed
open Deferred renaming ofValue→adB
open Extern.SlicesOverlaps renaming overlaps→adF
open Below renaming refl→adI
open World renaming alloc_heap_new→adM,cell?→aeh,freeze→afl,shape?→afm,frozen?→agq
open MapKept renaming run_getObj_map→ad4
open Pure renaming pure→ad8
open _root_.Go.ByteArray renaming toList_eq→aff
open IntWalk renaming i64_in→af9
open List.Sublist renaming refl→agE
open Min renaming min→agP
variable {e t tb u:TypeId} {m N c i g B n k j d:Nat} {xs vs caps:List Value} {f:FuncId} {R:Ending→World→Prop} {C ys tmps:Array Value} {r1:ResultVar} {v2 z:Value} {x y p:Operand} {w W w':World} {α β:Type} {fs F:List Fact} {A:Option Addr} {l:List Nat} {P:Program} {S:World→Prop} {σ:List (Nat×Value)} {o:Oper} {ps:Array (Nat×Operand)} {ops:Array Oper}
section
variable {P:Program} {Q:Exit→Act→World→Prop} {a:Act} {W w:World} {n d:Nat} {D:List Deferred} {σ:List (Nat×Value)} {o:Oper} {v:Value} {K:Act→World→Prop} {fs:List Fact}
def zhw {base:Nat} {size:Nat} (h:w.ownsRow base e size v m xs) (hm:0<m):∃g c,v= .slice (some ⟨g,0,none⟩) m c∧m≤c:=by
 rcases h.2 with ⟨_,h2⟩|⟨g,cap,cur,h1,_,_,h2,_⟩
 ·omega
 ·exact ⟨g,cap,h1,h2⟩
def CO {base:Nat} {size:Nat} (h:w.ownsRow base e size v m xs):∃A c,v= .slice A m c∧m≤c:=by
 rcases h.2 with ⟨h1,h2⟩|⟨g,cap,cur,h1,_,_,h2,_⟩
 ·subst h2;exact ⟨_,_,h1,abq _⟩
 ·exact ⟨_,cap,h1,h2⟩
def p9 (Z:Fr a n D σ) (h:Mem W w fs) {s x:Operand} {t e:TypeId} {z:Value} {size bytes i b m c B:Nat} {A:Option Addr} {xs news:List Value} (j:o.op= .call {callee:= .builtin .append,args:= #[s,x],argTypes:= #[t,t]}) (E:EI P t e z size bytes)
  (hs:look σ s=some v) (F:look σ x=some (.slice A m c)) (hi:fs[i]?=some (.row v b xs e size)) (hr:Rd w B size A m news) (h1:∀u∈news,u.oneCell'=true) (hb:(b+m)*bytes≤140737488355328) (h63:b+m≤9223372036854775807)
  (G:o.dst=some d) (l:d<n) (k:∀y p q f,Fr y n D ((d,.slice q (b+m) f)::σ)→Mem W p (fs.set i (.row (.slice q (b+m) f) (b+m) (xs++news) e size))→b+m≤f→K y p):o.wp P a w K Q:=
 TG j E (h.own hi) (Z.eval hs) hr (Z.eval F) h1 hb h63 h.size λq f p C H r=>by
  rw [G]
  refine k _ _ _ _ (Z.put l _) (h.append hi C H r) ?_
  rcases C.2 with ⟨h2,h3⟩|⟨g,cap,cur,h2,_,_,h3,_⟩
  ·omega
  ·injection h2 with _ _ h4;omega
def wB (σ:List (Nat×Value)):List (Nat×Operand)→Option (List (Nat×Value))
 |[]=>some []
 |(i,x)::r=>match look σ x,wB σ r with
  |some v,some b=>some ((i,v)::b)
  |_,_=>none
theorem Uj (Z:Fr a n D σ):∀{ps:List (Nat×Operand)} {b:List (Nat×Value)},wB σ ps=some b→ps.map (λp=>(p.1,a.eval p.2))=b
 |[],b,h=>by cases h;rfl
 | (i, x) :: r, b, h => by
  unfold wB at h
  split at h
  ·rename_i v f c e
   injection h with h
   subst h
   rw [acS,Z.eval c,Uj Z e]
  ·cases h
def M0 (Z:Fr a n D σ) {ps:Array (Nat×Operand)} {vs:List (Nat×Value)} (h:wB σ ps.toList=some vs):ps.map (λp=>(p.1,a.eval p.2))=vs.toArray:=by
 rw [←Uj Z h,←adl,acQ]
def J4 (z:Array Value) (m:Nat):Array Value:=(agH m).map (z[· %z.size]!)
def Uk (Z:Fr a n D σ) (x:Mem W w fs) {t len e:Nat} {ps:Array (Nat×Operand)} {vs:List (Nat×Value)} {z:Value} {size bytes:Nat} {C:Array Value} (f:o.op= .buildSlice t len ps) (h:EI P t e z size bytes) (q:decide (0<len∧len*size≤16777216)=true) (y:wB σ ps.toList=some vs)
  (r:aes (λi=>some (i*size,size)) (J4 z.cells (len*size)) vs=some C) (A:o.dst=some d) (j:d<n)
  (k:∀s u g,Fr s n D ((d,.slice (some ⟨g,0,none⟩) len len)::σ)→Mem W u (.blk g C e::fs)→K s u):o.wp P a w K Q:=by
 obtain ⟨i,hi,hz,l,_⟩:=info_parts h.hi
 have b:=h.hs
 simp only [decide_eq_true_eq] at q
 have h0:¬len*size=0:=by
  have:=Nat.mul_pos q.1 b
  omega
 have h2:¬len*size>2^24:=by omega
 have c:(execOp a.eval o).run P w= .ok (.value (.slice (some ⟨w.heap.size,0,none⟩) len len)) (w.alloc (.cells C e)):=by
  unfold execOp
  have m:=M0 Z y
  unfold J4 at r
  simp only [f]
  have e1:(adn t len (ps.map λp=>(p.1,a.eval p.2))).run P w= .ok (.slice (some ⟨w.heap.size,0,none⟩) len len) (w.alloc (.cells C e)):=by
   rw [m]
   unfold adn
   simp only [abL,run_underlying h.ht,abx,sizeOf,typeInfo,program,ae4,hi,abR,l,if_neg h2,if_neg h0,zeroValue,hz,r,newRow,newObj]
   rfl
  simp only [abL,abR]
  show ((adn t len (ps.map λp=>(p.1,a.eval p.2))).run P w).andThen _=_
  rw [e1]
  rfl
 unfold acR
 rw [c,aco,A]
 exact k _ _ _ (Z.put j _) (x.alloc C e)
theorem Mem.J5 (h:Mem W w fs) {i g m c:Nat} {e:TypeId} {size:Nat} {xs:List Value} (hi:fs[i]?=some (.row (.slice (some ⟨g,0,none⟩) m c) m xs e size)) (off:Nat) {ys:List Value} (hy:∀j u,ys[j]?=some u→xs[off+j]?=some u):w.rangeAt g off ys:=λj u b=>by
 have f:=h.own hi
 have:=f.cells (g:=g) rfl (off+j) u (hy j u b)
 rw [acN,acj] at this
 exact this
theorem Mem.zj5 (h:Mem W w fs) {i g m c:Nat} {e:TypeId} {size:Nat} {xs:List Value} (hi:fs[i]?=some (.row (.slice (some ⟨g,0,none⟩) m c) m xs e size)):w.rangeAt g 0 xs:=h.J5 hi 0 (λj u b=>by rw [acj];exact b)
def J6 (Z:Fr a n D σ) (m:Mem W w fs) {t e:Nat} {z:Value} {size bytes:Nat} (c:o.op= .buildSlice t 0 #[]) (h:EI P t e z size bytes) (p:o.dst=some d) (f:d<n)
  (k:∀j l g,Fr j n D ((d,.slice (some ⟨g,0,none⟩) 0 0)::σ)→Mem W l (.row (.slice (some ⟨g,0,none⟩) 0 0) 0 [] e size::fs)→K j l):o.wp P a w K Q:=by
 obtain ⟨i,hi,hz,q,_⟩:=info_parts h.hi
 have b:(execOp a.eval o).run P w= .ok (.value (.slice (some ⟨w.heap.size,0,none⟩) 0 0)) (w.alloc (.cells #[] e)):=by
  unfold execOp
  simp only [c]
  have e1:(adn t 0 #[]).run P w= .ok (.slice (some ⟨w.heap.size,0,none⟩) 0 0) (w.alloc (.cells #[] e)):=by
   unfold adn
   simp only [abL,run_underlying h.ht,abx,sizeOf,typeInfo,program,ae4,hi,abR,newRow,newObj]
   simp [aes,show agH 0= #[] from rfl]
   rfl
  simp only [abL,abR,acT,ade]
  show ((adn t 0 #[]).run P w).andThen _=_
  rw [e1]
  rfl
 unfold acR
 rw [b,aco,p]
 refine k _ _ w.heap.size (Z.put f _) ?_
 have:=(m.alloc #[] e).dY (i:=0) (size:=size) (n:=0) rfl (by simp) om
 exact this
def qc5:Nat→List Value→List (Nat×Value)
 |_,[]=>[]
 |i,v::r=>(i,v)::qc5 (i+1) r
def Ep:∀(b:List Value) (i t:Nat) (v:Value),(qc5 i b).lookup t=some v→i≤t∧b[t-i]?=some v
 |[],_,_,_,h=>by cases h
 | u :: r, i, t, v, h => by
  rw [qc5,acL] at h
  split at h
  ·rename_i e
   rw [beq_iff_eq] at e
   subst e
   exact ⟨abq _,by simpa using h⟩
  ·obtain ⟨h1,h2⟩:=Ep r (i+1) t v h
   refine ⟨by omega,?_⟩
   rw [show t-i=(t- (i+1))+1 by omega,adC]
   exact h2
def wZ {f:Nat} {fn:Func} {c:Code} (e:P.funcs[f]?=some fn) (hb:fn.body=some c) (g:fn.ntmps=N) (h:decide (abl vs≤N)=true) {σ0:List (Nat×Value)} (h0:qc5 0 vs=σ0)
  (k:∀a,Fr a N [] σ0→c.wp P (bodyPost P fn R) a w):Calls P f vs.toArray w R:=by
 subst h0
 rw [decide_eq_true_eq] at h
 refine calls_of_wp e hb (k _ ⟨by simp [g];omega,rfl,λt v i=>?_⟩)
 obtain ⟨_,h1⟩:=Ep vs 0 t v i
 rw [aeG] at h1
 have b:=(abv.1 h1).1
 simp only [acG,adD,ac2,if_pos b]
 simp [h1]
def tK (c:Array Value):ResultVar→Sem Value
 | .tmp t=>pure (c.getD t undef)
 | .cell b t=>do loadVar t (←asAddr (c.getD b undef))
def lW (P:Program) (a:Act) (w:World) (r:ResultVar) (v:Value):Prop:=(tK a.tmps r).run P w= .ok v w
theorem Aw (fn:Func) (b:Array Value):results fn b=(do
 let c←fn.results.mapM (tK b)
 pure (if h:c.size=1 then c[0] else .tuple c)):=by
 unfold results
 have:tK b=(λ| .tmp t=>pure (b.getD t undef)| .cell a t=>do loadVar t (←asAddr (b.getD a undef))):=by
  funext r;cases r<;>rfl
 rw [this]
 rfl
theorem lW.tmp {t:Nat} (Z:Fr a n D σ) (h:σ.lookup t=some v):lW P a w (.tmp t) v:=by
 unfold lW tK
 simp only [Z.slot t v h]
 rfl
theorem lW.cellS {b:Nat} (Z:Fr a n D σ) (e:Mem W w fs) (h:σ.lookup b=some (.pointer (some ⟨g,0,none⟩))) (hi:fs[i]?=some (.blk g C tb)) (c:SI P t m) (hm:C.size=m):lW P a w (.cell b t) (.agg C):=by
 obtain ⟨f,j,k⟩:=c.desc
 have l:=run_loadVar_mid (P:=P) w g 0 t C.toList f (qi (e.blk hi)) j k (by rw [c.size,←hm];simp)
 unfold lW tK
 simp only [Z.slot b _ h]
 simp [asAddr,l]
theorem lW.cell1 {b:Nat} (Z:Fr a n D σ) (c:Mem W w fs) (h:σ.lookup b=some (.pointer (some ⟨g,0,none⟩))) (hi:fs[i]?=some (.blk g C tb)) (ht:fQ P t=true) (hc:C[0]?=some v):lW P a w (.cell b t) v:=by
 unfold lW tK
 simp only [Z.slot b _ h]
 simp [asAddr,loadVar,J3 ht,load,ae4,c.cell hi hc]
section
variable {fn:Func} {R:Ending→World→Prop}
def iq {v1:Value} (hr:fn.results= #[r1]) (Z:Fr a n [] σ) (h1:lW P a w r1 v1) (b:R (.returned v1) w):bodyPost P fn R .ret a w:=
 bodyPost_ret (v:=v1) (by
  unfold lW at h1
  rw [Aw,hr]
  generalize tK a.tmps=f at*
  simp [h1]) Z.defers b
def eZ {b:ResultVar} {v1:Value} (hr:fn.results= #[r1,b]) (Z:Fr a n [] σ) (h1:lW P a w r1 v1) (h2:lW P a w b v2) (c:R (.returned (.tuple #[v1,v2])) w):bodyPost P fn R .ret a w:=
 bodyPost_ret (v:= .tuple #[v1,v2]) (by
  unfold lW at h1 h2
  rw [Aw,hr]
  generalize tK a.tmps=f at*
  simp [h1,h2]) Z.defers c
def mR {b c:ResultVar} {v1:Value} (hr:fn.results= #[r1,b,c]) (Z:Fr a n [] σ) (h1:lW P a w r1 v1) (h2:lW P a w b v2) (h3:lW P a w c z) (e:R (.returned (.tuple #[v1,v2,z])) w):bodyPost P fn R .ret a w:=
 bodyPost_ret (v:= .tuple #[v1,v2,z]) (by
  unfold lW at h1 h2 h3
  rw [Aw,hr]
  generalize tK a.tmps=f at*
  simp [h1,h2,h3]) Z.defers e
end
def q09 {c:Operand} {x y:Code} (Z:Fr a n D σ) (hc:look σ c=some (.bool true)) (h:x.wp P Q a w):(afk c x y).wp P Q a w:=wp_cond_true (Z.eval hc) h
def M4 {c:Operand} {x y:Code} (Z:Fr a n D σ) (hc:look σ c=some (.bool false)) (h:y.wp P Q a w):(afk c x y).wp P Q a w:=wp_cond_false (Z.eval hc) h
theorem Fr.as {u:Value} {t:Nat} (h:Fr a n D σ) (c:σ.lookup t=some v) (e:v=u):Fr a n D ((t,u)::σ):=by
 subst e
 refine ⟨h.size,h.defers,λs x b=>?_⟩
 rw [acL] at b
 split at b
 ·rename_i hs
  rw [beq_iff_eq] at hs
  subst hs
  injection b with b
  subst b
  exact h.slot s v c
 ·exact h.slot s x b
def q9 {x y:Code} (R:Act→World→Prop) (h:x.wp P (Exit.then R Q) a w) (k:∀a w,R a w→y.wp P Q a w):(Code.seq x y).wp P Q a w:=
 wp_seq (agI (λe a w b=>by cases e<;>first|exact k _ _ b|exact b) h)
def qg {c:Code} (J:Nat→Act→World→Prop) {m:Nat} (h0:J m a w) (round:∀k a w,J k a w→c.wp P (Exit.then (λi j=>∃z,z<k∧J z i j) Q) a w):(Code.loop c).wp P Q a w:=by
 intro b r s
 have key:∀m a w,J m a w→∃e i j,Q e i j∧Arrives P (lone (b.at a (.code c:: .inLoop c::r)) s w) b r s e i j:=by
  intro m
  induction m using ae0 with
  | _ m A =>
   intro a w B
   obtain ⟨e,p,q,g,f⟩:=round m a w B b (.inLoop c::r) s
   cases e with
   |normal=>
    obtain ⟨C,t,u⟩:=g
    obtain ⟨e2,E,F,y,h⟩:=A C t p q u
    exact ⟨e2,E,F,y,.of_steps (Steps.trans f (.one step_inLoop)) h⟩
   |exit id=>exact ⟨_,p,q,g,.pass (x:= .inLoop c) rfl (λ_ _=> .inl (by simp)) f⟩
   |goto l=>exact ⟨_,p,q,g,.pass (x:= .inLoop c) rfl (λ_ _=> .inl (by simp)) f⟩
   |ret=>exact ⟨_,p,q,g,.pass (x:= .inLoop c) rfl (λ_ _=> .inl (by simp)) f⟩
   |panic G=>exact ⟨_,p,q,g,.pass (x:= .inLoop c) rfl (λ_ _=> .inl (by simp)) f⟩
   |outgrown=>exact ⟨_,p,q,g,.pass (x:= .inLoop c) rfl (λ_ _=> .inl (by simp)) f⟩
 obtain ⟨e,i,j,g,f⟩:=key m a w h0
 exact ⟨e,i,j,g,.of_steps (.one step_loop) f⟩
end
def putAt (xs:List Value) (off:Nat) (vs:List Value):List Value:=xs.take off++vs++xs.drop (off+abl vs)
theorem J7 {off:Nat} (h:off+abl vs≤abl xs):abl (putAt xs off vs)=abl xs:=by grind [putAt]
theorem J8 {off:Nat} (h:off+abl vs≤abl xs) (j:Nat):(putAt xs off vs)[j]?=if off≤j∧j<off+abl vs then vs[j-off]? else xs[j]?:=by grind [putAt,aby,List.getElem?_append_left,List.getElem?_append_right,abr,ab7]
theorem qh1 {cur:Array Value} (hb:w.heap[g]?=some (.cells cur e (0,0))) (off:Nat) (vs:List Value) (b:off+abl vs≤cur.size):
  (w.setCells g off vs).heap[g]?=some (.cells (putAt cur.toList off vs).toArray e (0,0)):=by
 have h1:cur=(cur.toList.take off++(cur.toList.drop off).take (abl vs)++cur.toList.drop (off+abl vs)).toArray:=by
  apply Array.toList_inj.1
  simp only [aby]
  rw [←acV,ab9,ab9]
 have h2:=ME g e vs w (cur.toList.take off) (cur.toList.drop (off+abl vs)) ((cur.toList.drop off).take (abl vs)) (by rw [←h1];exact hb) (by simp only [abr,abN,acv];omega)
 rw [abr,acv,adb om] at h2
 exact h2
section
variable {P:Program} {Q:Exit→Act→World→Prop} {a:Act} {W w:World} {n d:Nat} {D:List Deferred} {σ:List (Nat×Value)} {o:Oper} {v:Value} {K:Act→World→Prop} {fs:List Fact}
theorem Mem.nP (h:Mem W w fs) {i g m c:Nat} {e:TypeId} {size:Nat} {xs:List Value} (hi:fs[i]?=some (.row (.slice (some ⟨g,0,none⟩) m c) m xs e size)) {off:Nat} {vs:List Value} (q:off+abl vs≤abl xs):
  Mem W (w.setCells g off vs) (fs.set i (.row (.slice (some ⟨g,0,none⟩) m c) m (putAt xs off vs) e size)):=by
 have A:=h.own hi
 obtain ⟨f,h2⟩:=A
 rcases h2 with ⟨h3,_⟩|⟨B,cap,cur,b,y,C,l,r,p,ht⟩
 ·cases h3
 ·injection b with b E s
  injection b with b
  injection b with b
  subst b;subst s
  have z:m*size≤cur.size:=by rw [p];exact acD _ l
  refine h.turn hi (below_setCells h.below y off vs) (λk F t=>D7 _ _ _ _ _ (λe=>t (by rw [e];rfl))) ?_ (λB u=> .inl u)
  refine ⟨by rw [J7 q];exact f,.inr ⟨g,c,_,rfl,y,qh1 C off vs om,l,r,?_,?_⟩⟩
  ·rw [ac2,J7 (by simpa using (by omega:off+abl vs≤cur.size)),acv,p]
  ·show (putAt cur.toList off vs).take (m*size)=putAt xs off vs
   subst ht
   have x:off+abl vs≤abl cur.toList∧off+abl vs≤m*size:=by
    rw [abr,acv] at q
    rw [acv]
    omega
   apply af7
   intro j
   rw [J8 q,ado,ado,J8 x.1]
   by_cases h3:off≤j∧j<off+abl vs
   ·rw [if_pos h3,if_pos om,if_pos h3]
   ·rw [if_neg h3,if_neg h3]
theorem J9 (h:Mem W w fs) {i g m c:Nat} {e:TypeId} {size:Nat} {xs:List Value} (hi:fs[i]?=some (.row (.slice (some ⟨g,0,none⟩) m c) m xs e size)) (off k:Nat) (x:off+k≤abl xs):w.there g off k:=by
 have r:=h.own hi
 obtain ⟨p,h2⟩:=r
 rcases h2 with ⟨h3,_⟩|⟨y,cap,cur,b,z,s,f,t,j,ht⟩
 ·cases h3
 ·injection b with b u l
  injection b with b
  injection b with b
  subst b;subst l
  have q:m*size≤cur.size:=by rw [j];exact acD _ f
  exact TJ s off k om
def zd (Z:Fr a n D σ) (f:Mem W w fs) {t:TypeId} {x y:Operand} {i g off m c:Nat} {xs:List Value} {e:TypeId} {size:Nat} (b:o.op= .store t x y) (j:o.dst=none) (l:look σ x=some (.pointer (some ⟨g,off,none⟩))) (hy:look σ y=some v) (hs:(P.info? t).map (·.size)=some 1) (p:v.oneCell'=true)
  (hi:fs[i]?=some (.row (.slice (some ⟨g,0,none⟩) m c) m xs e size)) (q:off<abl xs) (k:∀h,Mem W h (fs.set i (.row (.slice (some ⟨g,0,none⟩) m c) m (putAt xs off [v]) e size))→K a h):o.wp P a w K Q:=by
 have ht:=J9 f hi off 1 om 0 om
 rw [acF] at ht
 obtain ⟨u,r⟩:=Option.isSome_iff_exists.1 ht.1
 unfold acR execOp
 simp only [b,Z.eval l,Z.eval hy,abL,Uh hs p r ht.2,abx,abR,afE,j]
 exact k _ (f.nP hi (vs:=[v]) q)
def Ul (Z:Fr a n D σ) (Y:Mem W w fs) {s x:Operand} {t e:TypeId} {z:Value} {size bytes f cap m c B B':Nat} {A E:Option Addr} {xs news:List Value} (M:o.op= .call {callee:= .builtin .append,args:= #[s,x],argTypes:= #[t,t]}) (L:EI P t e z size bytes)
  (hs:look σ s=some (.slice A f cap)) (hx:look σ x=some (.slice E m c)) (l:Rd w B size A f xs) (hr:Rd w B' size E m news) (hm:0<m) (V:cap<f+m) (r:A=none→f=0∧cap=0) (hb:(f+m)*bytes≤140737488355328) (h63:f+m≤9223372036854775807)
  (hd:o.dst=some d) (N:d<n) (k:∀X F g p,Fr X n D ((d,.slice (some ⟨g,0,none⟩) (f+m) p)::σ)→Mem W F (.row (.slice (some ⟨g,0,none⟩) (f+m) p) (f+m) (xs++news) e size::fs)→f+m≤p→K X F):o.wp P a w K Q:=by
 obtain ⟨i,hi,hz,y,G⟩:=info_parts L.hi
 obtain ⟨O,R,_,h⟩:=hr.row hm
 subst R
 have q:abl (xs++news)=(f+m)*size:=by rw [abn,l.len,hr.len,adY]
 obtain ⟨p,F,H,S⟩:∃p F,(ac0 #[t,t] o.type #[.slice A f cap,.slice (some O) m c]).run P w= .ok (.slice (some ⟨w.heap.size,0,none⟩) (f+m) p) F∧
   (f+m≤p∧p≤maxLen∧F=w.drew.alloc (.cells (xs.toArray++news.toArray++abY z.cells (p- (f+m))) e)):=by
  cases A with
  |none=>
   obtain ⟨rfl,rfl⟩:=r rfl
   have T:xs=[]:=acY (by simpa using l.len)
   subst T
   have C:=run_append_nil (P:=P) w t o.type e i z L.ht hi hz O m c news (by rw [y];exact hr.len) h hm om (by rw [G];rw [acj] at hb;omega)
   refine ⟨_,_,by rw [acj];exact C,?_,?_,?_⟩
   ·rw [acj];exact grownCap_ge w m 0 e
   ·exact grownCap_le_maxLen w m 0 e (by unfold maxLen;omega)
   ·simp
  | some b =>
   have holds:∀j u,xs[j]?=some u→w.cell? (b.add j)=some u:=by
    intro j u U
    rcases ach f with h0|h0
    ·have I:=l.len
     rw [h0,afC] at I
     rw [acY I] at U
     simp at U
    ·obtain ⟨ad',h1,_,h2⟩:=l.row h0
     injection h1 with h1
     subst h1
     exact h2 j u U
   have C:=run_append_grow (P:=P) w t o.type e i z L.ht hi hz b f cap xs (by rw [y];exact l.len) holds O m c news (by rw [y];exact hr.len) h V om (by rw [G];exact growslice_fits V hb)
   exact ⟨_,_,C,grownCap_ge w (f+m) cap e,grownCap_le_maxLen w (f+m) cap e (by unfold maxLen;omega),rfl⟩
 obtain ⟨h1,h2,rfl⟩:=S
 have J:(w.drew.alloc (.cells (xs.toArray++news.toArray++abY z.cells (p- (f+m))) e)).ownsRow w.heap.size e size (.slice (some ⟨w.heap.size,0,none⟩) (f+m) p) (f+m) (xs++news):=by
  refine ⟨q,.inr ⟨w.heap.size,_,_,rfl,abq _,adM w.drew _,h1,h2,?_,?_⟩⟩
  ·simp only [aez,ac2,size_zeroCells,L.hz,l.len,hr.len,←adY]
   congr 1
   omega
  ·simp only [afN,aby]
   rw [←aby,←q]
   exact adG
 unfold acR execOp
 simp only [M,resolve,invoke,builtin,abL,abR,abx,acT,acS,ade,Z.eval hs,Z.eval hx,H]
 rw [aco,hd]
 exact k _ _ w.heap.size p (Z.put N _) (Y.bL ((adI _ _).drew.alloc (by simp) _) J) h1
theorem Mem.bR (h:Mem W w fs) {i m:Nat} {e:TypeId} {size:Nat} {xs ys:List Value} (hi:fs[i]?=some (.row v m xs e size)) (b:xs=ys):Mem W w (fs.set i (.row v m ys e size)):=by grind [abv,adE]
end
theorem M5 (f:α→List Value) (sz:Nat) (b:∀x,abl (f x)=sz):∀(l:List α) (k:Nat) (x:α),k<abl l→putAt (l.flatMap f) (k*sz) (f x)=(l.set k x).flatMap f
 |[],k,x,h=>by simp at h
 |y::r,0,x,h=>by
  unfold putAt
  rw [afC,acj,b,abT,aeW,abT,List.take_zero,ac4,List.drop_append_of_le_length (by rw [b];exact abq _),acp (by rw [b];exact abq _),ac4]
 | y :: r, k + 1, x, h => by
  have c:=M5 f sz b r k x (by simpa using h)
  unfold putAt at c⊢
  rw [abT,afZ,abT,←c,adj]
  have e1:(f y++r.flatMap f).take (k*sz+sz)=f y++(r.flatMap f).take (k*sz):=by
   rw [aeO,abP (by rw [b];omega),b,Nat.add_sub_cancel]
  have e2:(f y++r.flatMap f).drop (k*sz+sz+abl (f x))=(r.flatMap f).drop (k*sz+abl (f x)):=by
   rw [aeP,acp (by rw [b];omega),ac4,b y]
   congr 1
   omega
  rw [e1,e2]
  simp only [aby]
theorem tL (f:α→List Value) (sz:Nat) (b:∀x,abl (f x)=sz) (l:List α) (k:Nat) (y x:α) (hk:l[k]?=some y) (off:Nat) (i:off<sz) (v:Value) (m:f x=(f y).set off v):putAt (l.flatMap f) (k*sz+off) [v]=(l.set k x).flatMap f:=by
 obtain ⟨g,p⟩:=abv.1 hk
 rw [←M5 f sz b l k x g,m]
 have h:=pO f sz b l
 have q:k*sz+sz≤abl l*sz:=by rw [←adj];exact acD _ g
 have c:abl ((f y).set off v)=sz:=by rw [abO,b]
 apply af7
 intro j
 rw [J8 (by rw [afF];omega),J8 (by rw [c];omega),c,afF]
 by_cases h1:k*sz≤j∧j<k*sz+sz
 ·rw [if_pos h1]
  have e:=yM f sz b l k (j-k*sz) g om
  rw [p,show k*sz+(j-k*sz)=j by omega] at e
  by_cases h2:k*sz+off≤j∧j<k*sz+off+1
  ·obtain rfl:j=k*sz+off:=by omega
   rw [if_pos h2,adK,show k*sz+off-k*sz=off by omega,acO (by rw [b];exact i)]
   rfl
  ·rw [if_neg h2,e,List.getElem?_set_ne om]
 ·rw [if_neg h1,if_neg om]
theorem Mem.qq (h:Mem W w fs) {α:Type} {f:α→List Value} {sz:Nat} (p:∀x,abl (f x)=sz) {i g m c:Nat} {e:TypeId} {l:List α} (hi:fs[i]?=some (.row (.slice (some ⟨g,0,none⟩) m c) m (l.flatMap f) e sz)) {k off:Nat} {x:α} {v:Value} (hk:l[k]?=some x) (q:(f x)[off]?=some v):w.cell? ⟨g,k*sz+off,none⟩=some v:=by
 obtain ⟨r,s⟩:=abv.1 hk
 have t:off<sz:=by have:=(abv.1 q).1;rwa [p] at this
 have:=h.J5 hi (k*sz+off) (ys:=[v]) (λj u b=>by
  cases j with
  |zero=>
   injection b with b
   subst b
   rw [acF,yM f sz p l k off r t,s]
   exact q
  |succ j=>cases b)
 exact this 0 v rfl
section
variable {P:Program} {Q:Exit→Act→World→Prop} {a:Act} {W w:World} {n d:Nat} {D:List Deferred} {σ:List (Nat×Value)} {o:Oper} {K:Act→World→Prop} {fs:List Fact}
def Xu (w:World) (a:Addr) (n k:Nat) (h:k≠a.block):(w.freeze a n).heap[k]?=w.heap[k]?:=by
 unfold afl
 split
 ·rfl
 ·simp only [afs]
  rw [if_neg om]
def below_freeze {W w:World} (h:Below B W w) {a:Addr} (b:B≤a.block) (n:Nat):Below B W (w.freeze a n):=by
 refine h.trans ⟨?_,?_,?_,?_,λk c=>Xu _ _ _ _ om⟩<;>unfold afl<;>split<;>simp
theorem qtl {w:World} (hb:w.heap[g]?=some (.cells C e (0,0))):(w.freeze ⟨g,m,none⟩ 1).heap[g]?=some (.cells C e (m,m+1)):=by
 unfold afl
 rw [if_neg de]
 simp [afs,hb]
def Xv (Z:Fr a n D σ) (b:Mem W w fs) (i:Nat) {t e:TypeId} {x:Operand} {g m c:Nat} {C:Array Value} {te:TypeId} (f:o.op= .convert t t x) (v:look σ x=some (.slice (some ⟨g,0,none⟩) m c)) (hi:fs[i]?=some (.blk g C te)) (ht:P.underlying t=some (.slice e)) (y:P.underlying e=some (.int .u8)) (z:o.dst=some d) (h:d<n)
  (k:∀q r,Fr q n D ((d,.slice (some ⟨g,0,none⟩) m c)::σ)→Mem W r (fs.set i (.obj g (.cells C te (C.size,C.size+1))))→K q r):o.wp P a w K Q:=by
 have s:=b.blk hi
 have u:=b.holds _ (abM hi)
 have j:w.shape? g=some (te,C.size):=by unfold afm;rw [s]
 have A:(execOp a.eval o).run P w= .ok (.value (.slice (some ⟨g,0,none⟩) m c)) (w.freeze ⟨g,C.size,none⟩ 1):=by
  unfold execOp
  simp [f,Z.eval v,convert,run_underlying ht,run_underlying y,markStringish,j]
 unfold acR
 rw [A,aco,z]
 refine k _ _ (Z.put h _) (b.turn hi (below_freeze b.below u.1 1) (λk B l=>Xu _ _ _ _ (λe=>l (by rw [e];rfl))) ⟨u.1,qtl s⟩ (λE p=> .inl p))
theorem Mem.uM (h:Mem W w fs) {i g:Nat} {C:Array Value} {t:TypeId} {q:Nat×Nat} {size n:Nat} (hi:fs[i]?=some (.obj g (.cells C t q))) (c:C.size=n*size):Rd w w.heap.size size (some ⟨g,0,none⟩) n C.toList:=
 have b:w.heap[g]?=some (.cells C t q):=(h.holds _ (abM hi)).2
 ⟨by simpa using c,λ_=>⟨_,rfl,rJ b,λj u e=>by
  rw [acN,acj]
  simp only [aeh,b]
  simpa using e⟩⟩
end
section
variable {w:World} {B size n:Nat} {A:Option Addr} {xs:List Value} {g o:Nat}
theorem Rd.Um (h:Rd w B size A n xs) (e:0<n) (hs:0<size):∃g o,A=some ⟨g,o,none⟩∧g<B:=by
 obtain ⟨f,rfl,i,hc⟩:=h.row e
 have j:=h.len
 have h1:n*size≥1*1:=Nat.mul_le_mul e hs
 have b:=TK (hc 0 _ (abp om))
 have c:f.spot=none:=by simpa [Addr.add] using b
 obtain ⟨g,o,sp⟩:=f
 cases c
 exact ⟨g,o,rfl,i⟩
theorem Rd.sat (h:Rd w B size A n xs) (k:Nat) (hk:k<n:=by omega) (hs:0<size:=by decide):∃g o,A=some ⟨g,o,none⟩∧g<B:=h.Um (af4 (abw _) hk) hs
theorem Rd.range (h:Rd w B size (some ⟨g,o,none⟩) n xs):w.rangeAt g o xs:=λj u b=>by
 have f:=(abv.1 b).1
 rcases ach n with rfl|c
 ·have:=h.len;omega
 ·obtain ⟨i,e,k,hc⟩:=h.row c
  injection e with e
  subst e
  have:=hc j u b
  rwa [acN] at this
theorem Rd.Er (h:Rd w B 1 (some ⟨g,o,none⟩) n xs) {k:Nat} {u:Value} (b:xs[k]?=some u):w.cell? ⟨g,o+k*1,none⟩=some u:=by rw [acX];exact h.range k u b
theorem Rd.Ay {f:α→List Value} (b:∀x,abl (f x)=size) {l:List α} (h:Rd w B size (some ⟨g,o,none⟩) n (l.flatMap f)) {k:Nat} {x:α} (hk:l[k]?=some x):w.rangeAt g (o+k*size) (f x):=λj u c=>by
 obtain ⟨e,i⟩:=abv.1 hk
 have m:j<size:=by have:=(abv.1 c).1;rwa [b] at this
 have h1:=h.range (k*size+j) u ((yM f size b l k j e m).trans (by rw [i];exact c))
 rw [←agG] at h1
 exact h1
theorem Rd.partAt {f:α→List Value} (b:∀x,abl (f x)=size) {l:List α} (h:Rd w B size (some ⟨g,o,none⟩) n (l.flatMap f)) {k j:Nat} {x:α} {u:Value} (hk:l[k]?=some x) (c:(f x)[j]?=some u):w.cell? ⟨g,o+k*size+j,none⟩=some u:=h.Ay b hk j u c
end
section
variable {W w:World} {fs:List Fact}
theorem Mem.Un (h:Mem W w fs) {i g m c:Nat} {e:TypeId} {xs:List Value} (hi:fs[i]?=some (.row (.slice (some ⟨g,0,none⟩) m c) m xs e 1)) {k:Nat} {u:Value} (b:xs[k]?=some u):w.cell? ⟨g,k*1,none⟩=some u:=by
 have h1:=h.zj5 hi k u b
 rwa [acj,←acX k] at h1
theorem iy (h:n=m):Value.slice A n c= .slice A m c:=by rw [h]
theorem Mem.aY (h:Mem W w fs) {i n m:Nat} {A:Option Addr} {c size:Nat} {e:TypeId} {xs ys:List Value} (hi:fs[i]?=some (.row (.slice A n c) n xs e size)) (b:n=m) (f:xs=ys):Mem W w (fs.set i (.row (.slice A m c) m ys e size)):=by grind [abv,adE]
end
theorem xg {F:α→Value} {l:List α} {x:α} (h:l[k]?=some x):(l.map F)[k]?=some (F x):=by rw [ac3,h];rfl
section
variable {P:Program} {Q:Exit→Act→World→Prop} {a:Act} {W w:World} {n d:Nat} {D:List Deferred} {σ:List (Nat×Value)} {o:Oper} {K:Act→World→Prop} {fs:List Fact}
def zd0 (Z:Fr a n D σ) (E:Mem W w fs) {t e:Nat} {l c:Operand} {z:Value} {size bytes m:Nat} {v x:IntKind} (p:o.op= .makeSlice t l c) (y:EI P t e z size bytes) (F:look σ l=some (.int v 0)) (hc:look σ c=some (.int x (m:Int))) (hb:bytes*m≤281474976710656) (h63:m≤9223372036854775807) (G:o.dst=some d) (q:d<n)
  (k:∀C j g,Fr C n D ((d,.slice (some ⟨g,0,none⟩) 0 m)::σ)→Mem W j (.row (.slice (some ⟨g,0,none⟩) 0 m) 0 [] e size::fs)→K C j):o.wp P a w K Q:=by
 obtain ⟨i,hi,hz,r,s⟩:=info_parts y.hi
 obtain ⟨j,b,f,u⟩:=run_make_own (P:=P) w w.heap.size t e i z size y.ht hi hz r v x m (by rw [s];exact hb) h63 (abq _)
 have e1:(execOp a.eval o).run P w= .ok (.value (.slice (some ⟨w.heap.size,0,none⟩) 0 m)) j:=by
  unfold execOp
  simp only [p,Z.eval F,Z.eval hc,abL]
  rw [b]
  rfl
 unfold acR
 rw [e1,aco,G]
 exact k _ _ _ (Z.put q _) (E.bL ((adI _ _).grown u (abq _) (λ_ h=>by cases h)) f)
def wC (Z:Fr a n D σ) (E:Mem W w fs) {t e:Nat} {l c:Operand} {z:Value} {size bytes m:Nat} {v x:IntKind} (p:o.op= .makeSlice t l c) (y:EI P t e z size bytes) (F:look σ l=some (.int v (m:Int))) (hc:look σ c=some (.int x (m:Int))) (hb:bytes*m≤281474976710656) (h63:m≤9223372036854775807) (G:o.dst=some d) (q:d<n)
  (k:∀C j g,Fr C n D ((d,.slice (some ⟨g,0,none⟩) m m)::σ)→Mem W j (.row (.slice (some ⟨g,0,none⟩) m m) m (madeCells z.cells (m*size)).toList e size::fs)→K C j):o.wp P a w K Q:=by
 obtain ⟨i,hi,hz,r,s⟩:=info_parts y.hi
 obtain ⟨j,b,f,u⟩:=run_make_full (P:=P) w w.heap.size t e i z size y.ht hi hz r v x m (by rw [s];exact hb) h63 (abq _)
 have e1:(execOp a.eval o).run P w= .ok (.value (.slice (some ⟨w.heap.size,0,none⟩) m m)) j:=by
  unfold execOp
  simp only [p,Z.eval F,Z.eval hc,abL]
  rw [b]
  rfl
 unfold acR
 rw [e1,aco,G]
 exact k _ _ _ (Z.put q _) (E.bL ((adI _ _).grown u (abq _) (λ_ h=>by cases h)) f)
end
theorem Rd.pre {r:List Nat} (h:Rd w B 1 A m ((l++r).map B8)) (b:abl l=n) (hm:n≤m):Rd w B 1 A n (l.map B8):=by
 have h1:=h.upto hm
 rwa [acX,abV,List.take_append_of_le_length (by simp [b]),abP (by simp [b])] at h1
theorem Mem.sub (h:Mem W w fs) {i g:Nat} {C:Array Value} {t:TypeId} (hi:fs[i]?=some (.blk g C t)) (off:Nat) {ds:Array Value} (b:(C.toList.drop off).take ds.size=ds.toList):w.rangeAt g off ds.toList:=λj u a=>by
 have c:w.rangeAt g 0 C.toList:=qi (h.blk hi)
 have hc:C.toList[off+j]?=some u:=by
  rw [←b,ado] at a
  split at a
  ·rwa [List.getElem?_drop] at a
  ·cases a
 have:=c (off+j) u hc
 rwa [acj] at this
def Ka (F:α→Value) (l:List α) (k:Nat) (x:α) (hk:k<abl l):putAt (l.map F) (k*1) [F x]=(l.set k x).map F:=by
 have h1:∀l:List α,l.map F=l.flatMap λx=>[F x]:=λl=>by induction l with
  |nil=>rfl
  |cons a r b=>rw [acS,abT,b];rfl
 rw [h1,h1,←M5 (λx=>[F x]) 1 (λ_=>rfl) l k x hk]
section
variable {P:Program} {S:World→Prop} {σ:List (Nat×Value)} {o:Oper}
end
theorem Rd.Az (h:Rd w B 1 A n (l.map B8)) (hk:k≤n):Rd w B 1 A k ((l.take k).map B8):=by
 have h1:=h.upto hk
 rwa [acX,←afU] at h1
def aP (x:Int):Value:= .int .i64 x
theorem Mem.Uo {fs':List Fact} (h:Mem W w fs) (n:Nat) (c:List Nat) (o:c.Nodup) (d:(c.all (· <n))=true) (p:Go.Proofs.YtekiimhdnigmcaaGreatDoor.picks fs c++fs.drop n=fs'):Mem W w fs':=by
 subst p
 refine ⟨h.below,λf a=>?_,afO.2 ⟨Jt h.apart o,?_,?_⟩⟩
 ·rcases ab5.1 a with a|a
  ·obtain ⟨j,_,e⟩:=aeV.1 a
   exact h.holds f (abM e)
  ·exact h.holds f (abZ a)
 ·exact h.apart.sublist (List.drop_sublist _ _)
 ·intro f a g q
  obtain ⟨j,e,k⟩:=aeV.1 a
  have r:j<n:=by simpa using acC.1 d j e
  obtain ⟨i,hi,b⟩:=acB q
  rw [List.getElem_drop] at b
  rw [abN] at hi
  obtain ⟨l,m⟩:=abv.1 k
  have:=acu.1 h.apart j (n+i) l om om
  rwa [m,b] at this
section
open Go.MapKept
section
variable {P:Program} {Q:Exit→Act→World→Prop} {a:Act} {W w:World} {n d:Nat} {D:List Deferred} {σ:List (Nat×Value)} {o:Oper} {K:Act→World→Prop} {fs:List Fact} {S:World→Prop}
theorem Mem.iV (h:Mem W w fs) {i g:Nat} {b:Obj} (hi:fs[i]?=some (.obj g b)):w.heap[g]?=some b:=(h.holds _ (abM hi)).2
theorem Mem.setObj (h:Mem W w fs) {i g:Nat} {q:Obj} (hi:fs[i]?=some (.obj g q)) (c:Obj):Mem W {w with heap:=w.heap.setIfInBounds g c} (fs.set i (.obj g c)):=by
 have f:=h.holds _ (abM hi)
 have j:=rJ f.2
 have b:∀k,k≠g→(w.heap.setIfInBounds g c)[k]?=w.heap[k]?:=λk l=>Array.getElem?_setIfInBounds_ne (Ne.symm l)
 refine h.turn hi ⟨h.below.os,h.below.tape,h.below.output,by simpa using h.below.size,λk l=>?_⟩ (λk _ m=>b k (λe=>m (by rw [e];rfl))) ⟨f.1,?_⟩ (λr p=> .inl p)
 ·have:=f.1
  exact (b k om).trans (h.below.block k l)
 ·show (w.heap.setIfInBounds g c)[g]?=some c
  rw [Array.getElem?_setIfInBounds_self]
  simp [j]
def q1a (Z:Fr a n D σ) (h:Mem W w fs) {t:TypeId} (b:o.op= .makeMap t none) (i:o.dst=some d) (c:d<n)
  (k:∀e f g,Fr e n D ((d,.map (some g))::σ)→Mem W f (.obj g (.map #[] 0)::fs)→K e f):o.wp P a w K Q:=by
 have e1:(execOp a.eval o).run P w= .ok (.value (.map (some w.heap.size))) (w.alloc (.map #[] 0)):=by
  unfold execOp
  simp only [b,abL]
  rfl
 unfold acR
 rw [e1,aco,i]
 exact k _ _ _ (Z.put c _) (h.l6 _)
def Uq (Z:Fr a n D σ) (e:Mem W w fs) {t kt et:TypeId} {kd:TypeDesc} {m x y:Operand} {i g clock:Nat} {es:Array MapEntry} {key val:Value} (b:o.op= .mapUpdate t m x y∨o.op= .insert t m x y) (j:o.dst=none) (ht:P.underlying t=some (.map kt et)) (hk:P.underlying kt=some kd)
  (hm:look σ m=some (.map (some g))) (l:look σ x=some key) (hy:look σ y=some val) (hi:fs[i]?=some (.obj g (.map es clock))) (c:IsKey kd key) (p:Instr.findNow kd key es.toList 0=some none)
  (k:∀f,Mem W f (fs.set i (.obj g (.map (es.push {key,val,born:=clock}) (clock+1))))→K a f):o.wp P a w K Q:=by
 have h:=e.iV hi
 have e1:(agd t (.map (some g)) key val).run P w= .ok () {w with heap:=w.heap.setIfInBounds g (.map (es.push {key,val,born:=clock}) (clock+1))}:=by
  unfold agd
  simp only [abL,run_underlying ht,abx,ad4 h,run_checkKey hk c,run_findKey hk p,MapKept.run_setObj_map _ h]
 unfold acR execOp
 rcases b with b|b<;>simp only [b,Z.eval hm,Z.eval l,Z.eval hy,abL,e1,abx,abR,afE,j]
 ·exact k _ (e.setObj hi _)
 ·exact k _ (e.setObj hi _)
def aaL {kt et:TypeId} {kd:TypeDesc} {m:Operand} {clock:Nat} {es:Array MapEntry} {key v:Value} (c:o.op= .lookup t m x false) (ht:P.underlying t=some (.map kt et)) (hk:P.underlying kt=some kd) (hm:look σ m=some (.map (some g))) (e:look σ x=some key) (hb:∀w,S w→w.heap[g]?=some (.map es clock)) (b:IsKey kd key) (f:agu kd key es.toList 0=some (some (j,v))):
  Yl P S σ o v:=λa n D Z w h=>by
 have e1:(aeA t (.map (some g)) key false).run P w= .ok v w:=by
  unfold aeA
  simp only [abL,run_underlying ht,abx,ad4 (hb w h),abR,run_checkKey hk b,run_findKey hk f]
  rfl
 unfold execOp
 simp only [c,Z.eval hm,Z.eval e,abL,e1,abx,abR]
def abe {kt et:TypeId} {kd:TypeDesc} {m:Operand} {clock:Nat} {es:Array MapEntry} {key:Value} (c:o.op= .lookup t m x false) (ht:P.underlying t=some (.map kt et)) (hk:P.underlying kt=some kd) (hm:look σ m=some (.map (some g))) (f:look σ x=some key) (hb:∀w,S w→w.heap[g]?=some (.map es clock)) (b:IsKey kd key) (h:agu kd key es.toList 0=some none) (hz:(P.info? et).bind (·.zero)=some z):
  Yl P S σ o z:=λa n D Z w i=>by
 obtain ⟨j,hi,e⟩:=adv.1 hz
 have e1:(aeA t (.map (some g)) key false).run P w= .ok z w:=by
  unfold aeA
  simp only [abL,run_underlying ht,abx,ad4 (hb w i),abR,run_checkKey hk b,run_findKey hk h,zeroValue,typeInfo,program,ae4,hi,e]
  rfl
 unfold execOp
 simp only [c,Z.eval hm,Z.eval f,abL,e1,abx,abR]
theorem Yl.makeFunc {fn:Fn} {xs ys:Array Operand} {fst:List Value} (b:o.op= .makeFunc fn xs ys) (c:looks σ xs.toList=some fst) (hy:looks σ ys.toList=some caps):Yl P S σ o (.func fn fst.toArray caps.toArray):=λa n D Z w e=>by
 have e1:xs.map a.eval=fst.toArray:=by
  have:=yR Z c
  rw [←this,←adl,acQ]
 have e2:ys.map a.eval=caps.toArray:=by
  have:=yR Z hy
  rw [←this,←adl,acQ]
 unfold execOp
 simp only [b,Instr.makeFunc,abL,abR,abx]
 show Result.ok (Next.value (.func fn (adu a.eval xs) (adu a.eval ys))) w=_
 rw [e1,e2]
def mU (Z:Fr a n D σ) {fo:Operand} {f:FuncId} {xs:Array Operand} {ts:Array TypeId} {vs fst caps:List Value} {R:Ending→World→Prop} (c:o.op= .call {callee:= .value fo,args:=xs,argTypes:=ts}) (g:look σ fo=some (.func (.func f) fst.toArray caps.toArray)) (j:looks σ xs.toList=some vs) (l:callable P f=true) (m:o.dst=some d) (h:d<n)
  (p:Calls P f (fst++vs++caps).toArray w R) (k:∀e b,R e b→∃v,e= .returned v∧∀i,Fr i n D ((d,v)::σ)→K i b):o.wp P a w K Q:=by
 have e1:xs.map a.eval=vs.toArray:=by
  have:=yR Z j
  rw [←this,←adl,acQ]
 unfold acR execOp
 simp only [c,resolve,Z.eval g,adB,invoke,abL,abR,abx]
 have e3:fst.toArray++adu a.eval xs++caps.toArray=(fst++vs++caps).toArray:=by simp [e1]
 show agc P o a K Q (((callFunc f (fst.toArray++adu a.eval xs++caps.toArray)).run P w))
 rw [e3,CK l,agl]
 refine p.mono λe b q=>?_
 obtain ⟨v,rfl,h2⟩:=k e b q
 show K (a.put o.dst v) b
 rw [m]
 exact h2 _ (Z.put h v)
end
end
def j6:acf→Nat
 | .i8=>127| .i16=>32767| .i32=>2147483647| .i64=>9223372036854775807
 | .u8=>255| .u16=>65535| .u32=>4294967295| .u64=>18446744073709551615
theorem wD (k:acf) {m:Nat} (h:m≤j6 k):ac8 k (m:Int)=(m:Int):=by
 cases k<;>simp only [j6] at h
 ·exact IntWalk.i8_in _ om
 ·exact IntWalk.i16_in _ om
 ·exact IntWalk.i32_in _ om
 ·exact af9 _ om
 ·exact IntWalk.u8_in _ om
 ·exact IntWalk.u16_in _ om
 ·exact IntWalk.u32_in _ om
 ·exact IntWalk.u64_in _ om
theorem q7 {x:Int} (h:x=(m:Int)) (hb:m≤9223372036854775807):abQ .i64 (Go.IntKind.i64.wrap x)= .int .i64 (m:Int):=by subst h;rw [wD .i64 hb]
theorem wE {x:Int} (h:x=(m:Int)) (hb:m≤18446744073709551615):abQ .u64 (Go.IntKind.u64.wrap x)= .int .u64 (m:Int):=by subst h;rw [wD .u64 hb]
theorem AA {x:Int} (h:x=(m:Int)) (hb:m≤4294967295):abQ .u32 (Go.IntKind.u32.wrap x)= .int .u32 (m:Int):=by subst h;rw [wD .u32 hb]
def zhx {x:Int} (h:x=(m:Int)) (hb:m≤255):abQ .u8 (Go.IntKind.u8.wrap x)= .int .u8 (m:Int):=by subst h;rw [wD .u8 hb]
def CP (m:Nat):abQ .u8 (Go.IntKind.u8.wrap (m:Int))= .int .u8 ((m%256:Nat):Int):=by
 rw [Go.IntKind.wrap_u8];simp
def Us (m:Nat):abQ .u32 (Go.IntKind.u32.wrap (m:Int))= .int .u32 ((m%4294967296:Nat):Int):=by
 rw [Go.IntKind.wrap_u32];simp
theorem za (k:acf) (m n:Nat):abQ k (Int.tmod (m:Int) (n:Int))= .int k ((m%n:Nat):Int):=by rw [Int.tmod_eq_emod_of_nonneg om];rfl
def q7o (k:acf) {m:Nat} (n:Nat) (h:m≤j6 k):abQ k (ac8 k (Int.tdiv (m:Int) (n:Int)))= .int k ((m/n:Nat):Int):=by
 rw [Int.tdiv_eq_ediv_of_nonneg om,show ((m:Int)/ (n:Int))=((m/n:Nat):Int) from rfl,wD k (acM (aew _ _) h)]
theorem sN (k:acf) (m:Nat) {j:Nat} {p:Int} {q:Nat} (a:p=(j:Int)) (b:2^ (min p.toNat k.bits)=q):abQ k (Int.fdiv (m:Int) (2^ (min p.toNat k.bits)))= .int k ((m/q:Nat):Int):=by grind
theorem M6 (w:Nat) {m:Nat} (h:m<2^w):(abW w (m:Int)).toNat=m:=by grind
theorem zd1 (k:acf) {m n:Nat} (hm:m<2^k.bits) (a:n<2^k.bits) (hr:m&&&n≤j6 k):abQ k (ac8 k (abW k.bits (m:Int)&&&abW k.bits (n:Int)).toNat)= .int k ((m&&&n:Nat):Int):=by grind [M6,wD]
def M7 (k:acf) {m n:Nat} (hm:m<2^k.bits) (a:n<2^k.bits) (hr:m|||n≤j6 k):abQ k (ac8 k (abW k.bits (m:Int)|||abW k.bits (n:Int)).toNat)= .int k ((m|||n:Nat):Int):=by grind [M6,wD]
def zd2 (k:acf) {m n:Nat} (hm:m<2^k.bits) (a:n<2^k.bits) (hr:m^^^n≤j6 k):abQ k (ac8 k (abW k.bits (m:Int)^^^abW k.bits (n:Int)).toNat)= .int k ((m^^^n:Nat):Int):=by grind [M6,wD]
def Ut (k:acf) {m j n:Nat} (b:n=2^j-1) (c:2^j-1≤j6 k) (hm:m<2^k.bits) (a:n<2^k.bits):abQ k (ac8 k (abW k.bits (m:Int)&&&abW k.bits (n:Int)).toNat)= .int k ((m%2^j:Nat):Int):=by
 subst b
 have h:=Nat.and_two_pow_sub_one_eq_mod m j
 rw [zd1 k hm a (by rw [h];have:=adr m (agv j);omega),h]
def zhy {m n:Nat} (hm:m<4294967296) (a:n<4294967296):abQ .u32 (Go.IntKind.u32.wrap (abW Go.IntKind.u32.bits (m:Int)|||abW Go.IntKind.u32.bits (n:Int)).toNat)= .int .u32 ((m|||n:Nat):Int):=
 M7 .u32 (by show m<4294967296;omega) (by show n<4294967296;omega) (by have h:m|||n<4294967296:=aeF (n:=32) (by simpa using hm) (by simpa using a);show _≤4294967295;omega)
theorem Kc {m n:Nat} (hm:m<4294967296) (a:n<4294967296):abQ .u32 (Go.IntKind.u32.wrap (abW Go.IntKind.u32.bits (m:Int)^^^abW Go.IntKind.u32.bits (n:Int)).toNat)= .int .u32 ((m^^^n:Nat):Int):=
 zd2 .u32 (by show m<4294967296;omega) (by show n<4294967296;omega) (by have h:m^^^n<4294967296:=Nat.xor_lt_two_pow (n:=32) (by simpa using hm) (by simpa using a);show _≤4294967295;omega)
def Uu (a:n=2^j-1) (b:n<4294967296) (hm:m<4294967296):abQ .u32 (Go.IntKind.u32.wrap (abW Go.IntKind.u32.bits (m:Int)&&&abW Go.IntKind.u32.bits (n:Int)).toNat)= .int .u32 ((m%2^j:Nat):Int):=
 Ut .u32 a (by rw [←a];show n≤4294967295;omega) (by show m<4294967296;omega) (by show n<4294967296;omega)
theorem Uv {m n:Nat} (hm:m<18446744073709551616) (a:n<18446744073709551616):abQ .u64 (Go.IntKind.u64.wrap (abW Go.IntKind.u64.bits (m:Int)|||abW Go.IntKind.u64.bits (n:Int)).toNat)= .int .u64 ((m|||n:Nat):Int):=
 M7 .u64 (by show m<18446744073709551616;omega) (by show n<18446744073709551616;omega) (by have h:m|||n<18446744073709551616:=aeF (n:=64) (by simpa using hm) (by simpa using a);show _≤18446744073709551615;omega)
theorem Ke (a:n=2^j-1) (b:n<18446744073709551616) (hm:m<18446744073709551616):abQ .u64 (Go.IntKind.u64.wrap (abW Go.IntKind.u64.bits (m:Int)&&&abW Go.IntKind.u64.bits (n:Int)).toNat)= .int .u64 ((m%2^j:Nat):Int):=
 Ut .u64 a (by rw [←a];show n≤18446744073709551615;omega) (by show m<18446744073709551616;omega) (by show n<18446744073709551616;omega)
def zhz {m n:Nat} (hm:m<9223372036854775808) (a:n<9223372036854775808):abQ .i64 (Go.IntKind.i64.wrap (abW Go.IntKind.i64.bits (m:Int)|||abW Go.IntKind.i64.bits (n:Int)).toNat)= .int .i64 ((m|||n:Nat):Int):=
 M7 .i64 (by show m<18446744073709551616;omega) (by show n<18446744073709551616;omega) (by have h:m|||n<9223372036854775808:=aeF (n:=63) (by simpa using hm) (by simpa using a);show _≤9223372036854775807;omega)
theorem getD_at {l:List α} (d:α) (h:k<abl l):l[k]?=some (l.getD k d):=by
 rw [abo,abp h];rfl
theorem qe {l:List α} (d:α) (h:k<abl l):l.getD k d∈l:=abM (getD_at d h)
theorem getD_lt (a:∀b∈l,b<m) {k:Nat} (h:k<abl l):l.getD k 0<m:=a _ (qe 0 h)
def Zh (P:Program) (t:TypeId):Option Nat:=match P.underlying t with
 |some (.array n e)=>if fQ P e=true∧(P.info? e).map (·.size)=some 1 then some n else none
 |_=>none
theorem Yl.Zi {ix:Operand} {y:Nat} {k:acf} {v:Value} (c:o.op= .index t x ix) (f:look σ x=some (.agg C)) (hi:look σ ix=some (.int k (y:Int))) (b:Zh P t=some m) (hy:y<m) (g:C[y]?=some v):Yl P S σ o v:=λa n D Z w j=>by
 unfold Zh at b
 split at b
 ·rename_i l e h
  split at b
  ·rename_i h1
   obtain ⟨h1,h2⟩:=h1
   obtain ⟨i,d,h2⟩:=ady.1 h2
   injection b with b
   subst b
   unfold execOp
   simp [c,Z.eval f,Z.eval hi,Instr.index,asIntOf,run_underlying h,hy,sizeOf,typeInfo,d,h2,part,J3 h1,g]
  ·cases b
 ·cases b
section
open Go.MapKept
def IX (p:Nat×Nat) (b:Nat):MapEntry:={key:= .int .i64 (p.1:Int),val:= .int .i64 (p.2:Int),born:=b}
def Ak:Nat→List (Nat×Nat)→List MapEntry
 |_,[]=>[]
 |b,p::l=>IX p b::Ak (b+1) l
def mapA (l:List (Nat×Nat)):Array MapEntry:=(Ak 0 l).toArray
section
variable {P:Program} {Q:Exit→Act→World→Prop} {a:Act} {W w:World} {n d:Nat} {D:List Deferred} {σ:List (Nat×Value)} {o:Oper} {K:Act→World→Prop} {fs:List Fact} {S:World→Prop}
end
structure Mx (l:List (Nat×Nat)) (seen:Array Nat) (c:Nat):Prop where
 odd:(c:Int)%2=seenSum (mapA l).toList seen%2
 few:c+(leftOf (mapA l) seen).size≤abl l
end
section
variable {W w w':World} {fs gs fs':List Fact}
theorem Mem.perm (h:Mem W w fs) (c:fs.Perm fs'):Mem W w fs':=
 ⟨h.below,λf d=>h.holds f (c.mem_iff.2 d),(c.pairwise_iff (λ{_ _} b=>b.symm)).1 h.apart⟩
theorem Mem.mV (h:Mem W w fs) (hs:fs'.Sublist fs):Mem W w fs':=
 ⟨h.below,λf b=>h.holds f (hs.subset b),h.apart.sublist hs⟩
theorem Fact.holds.base {b:Nat} {f:Fact} (h:f.holds b w) (hb:c≤b):f.holds c w:=by
 cases f with
 |blk g d t=>exact ⟨acM hb h.1,h.2⟩
 |obj g o=>exact ⟨acM hb h.1,h.2⟩
 |row v n xs e size=>exact MB h hb
theorem Mem.join (h:Mem W w fs) (k:Mem w w' gs):Mem W w' (gs++fs):=by
 have e:=h.call k.below
 refine ⟨e.below,?_,?_⟩
 ·intro f hm
  rcases ab5.1 hm with hm|hm
  ·exact (k.holds f hm).base h.size
  ·exact e.holds f hm
 ·refine afO.2 ⟨k.apart,h.apart,?_⟩
  intro f b g c x i d
  have h1:=((k.holds f b).lt i).1
  have h2:=((h.holds g c).lt d).2
  omega
theorem Mem.jO {size:Nat} (h:Mem W w fs) (b:Fact.row (.slice A n c) n xs e size∈fs):Rd w w.heap.size size A n xs:=by
 obtain ⟨i,hi⟩:=afH.1 b
 exact h.rd hi
theorem Mem.dL {W w:World} {fs:List Fact} (h:Mem W w fs) {i g:Nat} {C ds:Array Value} {t:TypeId} (hi:fs[i]?=some (.blk g C t)) (b:C=ds):Mem W w (fs.set i (.blk g ds t)):=by grind [abv,adE]
structure Own where
 A:Option Addr
 n:Nat
 c:Nat
 xs:List Value
def aa4 (e:TypeId) (size:Nat) (p:Own):Fact:= .row (.slice p.A p.n p.c) p.n p.xs e size
def iW (e:TypeId) (size:Nat) (ps:List Own):List Fact:=ps.map (aa4 e size)
theorem Mem.zj9 {size:Nat} {ps:List Own} (h:Mem W w (.row (.slice A n c) n xs e size::(fs++iW e size ps))):Mem W w (fs++iW e size (ps++[⟨A,n,c,xs⟩])):=by
 refine h.perm ?_
 unfold iW
 rw [abV,←aby]
 exact (List.perm_append_singleton _ _).symm
theorem Mem.nQ (h:Mem W w fs) (e:TypeId) (size:Nat):Mem W w (fs++iW e size []):=by unfold iW;simpa using h
end
section
variable {P:Program} {ops:Array Oper} {Q:Exit→Act→World→Prop} {a:Act} {w:World}
end
section
variable {P:Program} {ops:Array Oper} {Q:Exit→Act→World→Prop} {a:Act} {W w:World} {l n N i d:Nat} {D:List Deferred} {σ σ':List (Nat×Value)} {K:Act→World→Prop} {fs:List Fact} {o:Oper}
def Nb (e:¬LetsOut Q):∀(os:List Oper),(∀o∈os,∀c,o.op≠ .defer c)→∀a w,wpList P ops Q os a w→wpListIn (Fence.wide.inRound l) 0 P ops Q os a w
 |[],_,_,_,h=>h
 | o :: os, b, a, w, h => by
  unfold wpList at h
  unfold wpListIn
  split at h
  ·rename_i f
   rw [if_pos f]
   exact q0z (b o acs) e (λa w h=>Nb e os (λo g=>b o (aci _ g)) a w h) h
  ·rename_i f
   rw [if_neg f]
   exact ⟨λ_ _=>trivial,Nb e os (λo g=>b o (aci _ g)) _ _ h⟩
def qy {id:Nat} (h:qh P ops Q 0 a w) (b:TY ops=true:=by kernel_rfl) (c:¬LetsOut Q:=by intro ⟨_,_,h⟩;exact h):(aee id ops false).wpIn (Fence.wide.inRound l) 0 P Q a w:=
 wpIn_region_list (Nb c _ (λo e=>by
  obtain ⟨j,f⟩:=afH.1 e
  exact qxt b (i:=j) (by simpa using f)) a w (by simpa [qh] using h))
def UE {F:Fence} {c:Operand} {x y:Code} (Z:Fr a n D σ) (hc:look σ c=some (.bool true)) (h:x.wpIn F 0 P Q a w):(afk c x y).wpIn F 0 P Q a w:=wpIn_cond_true (Z.eval hc) h
def UF {F:Fence} {c:Operand} {x y:Code} (Z:Fr a n D σ) (hc:look σ c=some (.bool false)) (h:y.wpIn F 0 P Q a w):(afk c x y).wpIn F 0 P Q a w:=wpIn_cond_false (Z.eval hc) h
def sO (fn:FuncId) (tmps:Array Value) (ps:Array Tmp) (assign body:Code) (D:Nat) (st:LoopState) (b:Option Code):Loop:={state:=st,pending:=b,fn,tmps,params:=ps,assign,body,defers:=D}
def roundEnd (W:World) (l:Nat) (b:LoopState→Option Code→Loop) (R:Ending→World→Prop):Exit→Act→World→Prop
 | .normal,_,w=>∃F,Mem W w (.obj l (.loop (b .busy none))::F)∧∀c,Mem W c (.obj l (.loop (b .ready none))::F)→R (.returned (.bool true)) c
 | .ret,_,w=>∃F,Mem W w (.obj l (.loop (b .busy none))::F)∧∀c,Mem W c (.obj l (.loop (b .done (some .ret)))::F)→R (.returned (.bool false)) c
 | .exit id,_,w=>∃F,Mem W w (.obj l (.loop (b .busy none))::F)∧∀c,Mem W c (.obj l (.loop (b .done (some (.exit id))))::F)→R (.returned (.bool false)) c
 |_,_,_=>False
def UG {fn:FuncId} {ps:Array Tmp} {assign body:Code} {args:Array Value} (q:Mem W w (.obj l (.loop (sO fn tmps ps assign body B .ready none))::F)) (hs:args.size=ps.size)
  (h : assign.wpIn (Fence.wide.inRound l) 0 P (Exit.then (λj k => ∃ f, Mem W k (.obj l (.loop (sO fn tmps ps assign body B .ready none)) :: f) ∧ ∀ g, Mem W g (.obj l (.loop (sO fn tmps ps assign body B .busy none)) :: f) → body.wpIn (Fence.wide.inRound l) 0 P (roundEnd W l (sO fn tmps ps assign body B) R) j g) (λ_ _ _ => False))
   {tmps:=(ps.zip args).foldl (λt (p,v)=>t.setIfInBounds p v) tmps,defers:=[]} w):YieldAt ab8 0 P l args w R:=by
 have r:=q.iV (i:=0) rfl
 refine ⟨fn,_,assign,body,run_yield r hs,roundIn_of_wpIn trivial (wpIn_mono h ?_)⟩
 rintro e j k b
 cases e with
 | normal =>
  obtain ⟨f,h1,h2⟩:=b
  refine ⟨_,run_beginRound (h1.iV (i:=0) rfl) rfl,?_⟩
  refine wpIn_mono (h2 _ (h1.setObj (i:=0) rfl _)) ?_
  rintro e s g b
  cases e with
  |normal=>
   obtain ⟨m,h3,h4⟩:=b
   exact ⟨_,_,run_endRound none (h3.iV (i:=0) rfl),h4 _ (h3.setObj (i:=0) rfl _)⟩
  |ret=>
   obtain ⟨m,h3,h4⟩:=b
   exact ⟨_,_,run_endRound (some .ret) (h3.iV (i:=0) rfl),h4 _ (h3.setObj (i:=0) rfl _)⟩
  |exit id=>
   obtain ⟨m,h3,h4⟩:=b
   exact ⟨_,_,run_endRound (some (.exit id)) (h3.iV (i:=0) rfl),h4 _ (h3.setObj (i:=0) rfl _)⟩
  |goto t=>exact b.elim
  |panic c=>exact b.elim
  |outgrown=>exact b.elim
 |exit id=>exact b.elim
 |goto t=>exact b.elim
 |ret=>exact b.elim
 |panic c=>exact b.elim
 |outgrown=>exact b.elim
def Fr.Nc {p2:Nat} {v1:Value} (h:Fr {tmps:=tmps,defers:=[]} n D σ) (h1:c<n) (h2:p2<n):Fr {tmps:=(#[c,p2].zip #[v1,v2]).foldl (λt (p,v)=>t.setIfInBounds p v) tmps,defers:=[]} n D ((p2,v2)::(c,v1)::σ):=by
 have h3:=(h.put h1 v1).put h2 v2
 simpa [Act.put] using h3
def Nf {b:LoopState→Option Code→Loop} {assign body:Code} {v1:Value} (f:∃fn e,b=sO fn e #[c,m] assign body B∧Fr {tmps:=e,defers:=[]} n [] σ) (k:Mem W w (.obj l (.loop (b .ready none))::F)) (h1:c<n) (h2:m<n)
  (h:∀a,Fr a n [] ((m,v2)::(c,v1)::σ)→assign.wpIn (Fence.wide.inRound l) 0 P (Exit.then (λp q=>∃g,Mem W q (.obj l (.loop (b .ready none))::g)∧∀j,Mem W j (.obj l (.loop (b .busy none))::g)→body.wpIn (Fence.wide.inRound l) 0 P (roundEnd W l b R) p j) (λ_ _ _=>False)) a w):YieldAt ab8 0 P l #[v1,v2] w R:=by
 obtain ⟨fn,e,rfl,Z⟩:=f
 exact UG k rfl (h _ (Z.Nc h1 h2))
def Ng {a:Act} {w:World} {K K':Act→World→Prop} (m:¬LetsOut Q) (b:∀a w,K a w→K' a w) (h:o.wp P a w K Q∨(o.asks P a w∧LetsOut Q)):o.wpIn ab8 0 P a w K' Q:=by
 rcases h with h|h
 ·refine ⟨λ_ _=>trivial,?_⟩
  rw [show Fence.wide.round=none from rfl,agm]
  unfold acR at h
  generalize (execOp a.eval o).run P w=r at h
  cases r with
  | ok x j =>
   cases x with
   |value v=>exact b _ _ h
   |skip=>exact b _ _ h
   |defer d=>exact b _ _ h
   |enter f args=>
    refine ⟨λh=>by simp [ab8] at h,?_⟩
    show CallsIn ab8 0 P f args j _
    refine (callsIn_wide.2 h).mono ?_
    intro e g k
    cases e with
    |returned v=>exact b _ _ k
    |panicked c=>exact k
    |outgrown=>exact k
   |row r args=>
    refine ⟨λh=>by simp [ab8] at h,λc p _=>?_⟩
    obtain ⟨v,g,h1,h2⟩:=(h:Rows P r args j _) c p
    exact ⟨v,g,b _ _ h1,stepsIn_wide.2 h2⟩
   |_=>exact (h:False).elim
  |halt q j=>
   cases q with
   |panic v=>exact h
   |_=>exact (h:False).elim
 ·exact absurd h.2 m
def Nh (b:¬LetsOut Q):∀(os:List Oper) (a:Act) (w:World),wpList P ops Q os a w→wpListIn ab8 0 P ops Q os a w
 |[],_,_,h=>h
 | o :: os, a, w, h => by
  unfold wpList at h
  unfold wpListIn
  split at h
  ·rename_i c
   rw [if_pos c]
   exact Ng b (λa w h=>Nh b os a w h) h
  ·rename_i c
   rw [if_neg c]
   exact ⟨λ_ _=>trivial,Nh b os _ _ h⟩
def UH {pre:Array Oper} (k:¬LetsOut Q) (K:Act→World→Prop) (b:List Oper) (m:∀a w,K a w→wpListIn ab8 0 P ops Q b a w):∀(os:List Oper),(∀o∈os,o.guard=none)→∀a w,wpList P pre (Exit.then K Q) os a w→wpListIn ab8 0 P ops Q (os++b) a w
 |[],_,a,w,h=>m a w h
 | o :: os, p, a, w, h => by
  have h1:∀x,acU o x=true:=λx=>by unfold acU;rw [p o acs]
  unfold wpList at h
  rw [if_pos (h1 _)] at h
  show if acU o (yielded ops a.tmps)=true then _ else _
  rw [if_pos (h1 _)]
  have h2:=Ng (Q:=Exit.then K Q) (K':=wpListIn ab8 0 P ops Q (os++b)) (λ⟨a,w,h⟩=>k ⟨a,w,h⟩) (λa w h=>UH k K b m os (λo s=>p o (aci _ s)) a w h) h
  refine ⟨h2.1,?_⟩
  have h3:=h2.2
  generalize (o.semAt Fence.wide.round a.eval).run P w=r at h3
  cases r with
  | ok x t =>
   cases x with
   |enter f args=>
    refine ⟨h3.1,h3.2.mono ?_⟩
    intro e j g
    cases e with
    |returned v=>exact g
    |panicked c=>exact g
    |outgrown=>exact g
   |round l f q assign body=>
    refine ⟨h3.1,h3.2.mono ?_⟩
    intro e j g
    cases e with
    |returned v=>exact g
    |panicked c=>exact g
    |outgrown=>exact g
   |_=>exact h3
  |halt u t=>
   cases u with
   |panic v=>exact h3
   |_=>exact h3
def Ni {id i:Nat} (h:qh P (ops.toList.take i).toArray (Exit.then (λa w=>∃o,ops[i]?=some o∧o.guard=none∧o.wpIn Fence.wide 0 P a w (wpListIn Fence.wide 0 P ops Q (ops.toList.drop (i+1))) Q) Q) 0 a w) (c:((ops.toList.take i).all λo=>o.guard.isNone)=true:=by kernel_rfl) (e:¬LetsOut Q:=by intro ⟨_,_,h⟩;obtain ⟨_,h,_⟩:=h;cases h):(aee id ops false).wp P Q a w:=by
 refine wpIn_wide.1 (wpIn_region_list (n:=0) ?_)
 have h0:wpList P (ops.toList.take i).toArray (Exit.then (λa w=>∃o,ops[i]?=some o∧o.guard=none∧o.wpIn ab8 0 P a w (wpListIn ab8 0 P ops Q (ops.toList.drop (i+1))) Q) Q) (ops.toList.take i) a w:=by simpa [qh] using h
 have h1:=UH (ops:=ops) e _ (ops.toList.drop i) (λa w ⟨o,b,f,h⟩=>by
  obtain ⟨g,j⟩:=adq.1 b
  rw [acn (by simpa using g),adN,j]
  unfold wpListIn
  rw [if_pos (by unfold acU;rw [f])]
  exact h) (ops.toList.take i) (λo b=>by
  have:=acC.1 c o b
  simpa using this) a w h0
 rwa [ab9] at h1
def aam {r:Fact} {es:List Fact} (h:Mem W w (r::(es++F))):Mem W w (r::(F++es)):=h.perm (List.Perm.cons _ ac7)
theorem aai {es:List Fact} (h:Mem W w (F++es)):Mem W w (es++F):=h.perm ac7
def aap (es:List Fact) {F:List Fact} (h:Mem W w (es++F)):Mem W w F:=h.mV (List.sublist_append_right es F)
def wG (Z:Fr a n D σ) {fo:Operand} {xs:Array Operand} {ts:Array TypeId} {vs:List Value} {R:Ending→World→Prop} (q:ops[i]?=some o) (r:o.guard=none) (c:o.op= .call {callee:= .value fo,args:=xs,argTypes:=ts}) (f:look σ fo=some (.func (.yield l) #[] #[])) (s:looks σ xs.toList=some vs) (t:o.dst=some d) (g:d<n)
  (hy:YieldAt Fence.wide 0 P l vs.toArray w R) (u:∀e b,R e b→∃v,e= .returned v) (k:∀v b j,R (.returned v) b→Fr j n D ((d,v)::σ)→qh P ops Q (i+1) j b) (x:¬LetsOut Q:=by intro ⟨_,_,h⟩;obtain ⟨_,h,_⟩:=h;cases h):
  ∃o,ops[i]?=some o∧o.guard=none∧o.wpIn ab8 0 P a w (wpListIn ab8 0 P ops Q (ops.toList.drop (i+1))) Q:=by
 refine ⟨o,q,r,λ_ _=>trivial,?_⟩
 have e1:xs.map a.eval=vs.toArray:=by
  have:=yR Z s
  rw [←this,←adl,acQ]
 obtain ⟨fn,m,assign,body,h1,h2⟩:=hy
 rw [show Fence.wide.round=none from rfl,agm]
 unfold execOp
 simp only [c,resolve,Z.eval f,adB,invoke,abL,abR,abx]
 have e2:(#[]:Array Value)++adu a.eval xs++ #[]=vs.toArray:=by simp [e1]
 show Oper.uponIn ab8 0 P o a _ Q ((Instr.yield l (#[]++adu a.eval xs++ #[])).run P w)
 rw [e2,h1]
 refine ⟨λh=>by simp [ab8] at h,h2.mono ?_⟩
 intro e b p
 obtain ⟨v,rfl⟩:=u e b p
 show wpListIn ab8 0 P ops Q (ops.toList.drop (i+1)) (a.put o.dst v) b
 rw [t]
 exact Nh x _ _ _ (k v b _ p (Z.put g v))
def Kg {g:Operand} {ps:Array Tmp} {assign body:Code} (Z:Fr a n [] σ) (E:Mem W w fs) (J:List Fact→Prop) (X:Code→List Fact→Prop) (G:look σ g=some (.func (.func m) #[] caps.toArray)) (x:callable P m=true)
  (y : ∀ (l B : Nat) (b : LoopState → Option Code → Loop) (A : World), (∃ fn k, b = sO fn k ps assign body B ∧ Fr { tmps := k, defers := [] } n [] σ) → Mem W A (.obj l (.loop (b .ready none)) :: .obj B (.deferred (some [])) :: fs) →
   Calls P m (.func (.yield l) #[] #[]::caps).toArray A λr j=>∃v,r= .returned v∧((∃F,J F∧Mem W j (.obj l (.loop (b .ready none)):: .obj B (.deferred (some []))::F))∨∃c F,X c F∧Mem W j (.obj l (.loop (b .done (some c))):: .obj B (.deferred (some []))::F)))
  (p:∀(B:Nat) (s:Act) (j:World) (F:List Fact),J F→Fr s n [{target:= .collected B,args:= #[]}] σ→Mem W j (.obj B (.deferred (some []))::F)→Q .normal s j)
  (q:∀(c:Code) (B:Nat) (s:Act) (j:World) (F:List Fact),X c F→Fr s n [{target:= .collected B,args:= #[]}] σ→Mem W j (.obj B (.deferred (some []))::F)→c.wp P Q s j):
  (Code.rangeFunc g ps assign body).wp P Q a w:=by
 refine (wpIn_wide (n:=0)).1 (wpIn_rangeFunc ?_)
 intro fn _
 show ∃l mark w₁ d w₁' f args w₂,(agf fn a.tmps ps assign body none).run P w= .ok (l,mark) w₁∧_
 have h1:=(E.l6 (.deferred (some []))).l6 (.loop (sO fn a.tmps ps assign body w.heap.size .ready none))
 rw [World.size_alloc] at h1
 have z:Fr {tmps:=a.tmps,defers:=[]} n [] σ:=⟨Z.size,rfl,Z.slot⟩
 have t:Fr {a with defers:={target:= .collected w.heap.size,args:= #[]}::a.defers} n [{target:= .collected w.heap.size,args:= #[]}] σ:=⟨Z.size,by show _::a.defers=_;rw [Z.defers],Z.slot⟩
 have C:(agf fn a.tmps ps assign body none).run P w= .ok (w.heap.size+1,[{target:= .collected w.heap.size,args:= #[]}]) ((w.alloc (.deferred (some []))).alloc (.loop (sO fn a.tmps ps assign body w.heap.size .ready none))):=run_enterLoop_outer _ _ _ _ _
 generalize (w.alloc (.deferred (some []))).alloc (.loop (sO fn a.tmps ps assign body w.heap.size .ready none))=W1 at h1 C
 refine ⟨w.heap.size+1,[{target:= .collected w.heap.size,args:= #[]}],W1,{target:= .fn (.func m) caps.toArray,args:= #[.func (.yield (w.heap.size+1)) #[] #[]]},W1,m,#[.func (.yield (w.heap.size+1)) #[] #[]]++caps.toArray,W1,C,?_,λ_ _=>trivial,?_,λh=>by simp [ab8] at h,?_⟩
 ·simp only [resolve,Z.eval G]
  simp [go_sem]
 ·simp [invoke,go_sem,CK x]
 ·have e:(#[.func (.yield (w.heap.size+1)) #[] #[]]++caps.toArray:Array Value)=(.func (.yield (w.heap.size+1)) #[] #[]::caps).toArray:=by simp
  rw [e]
  refine callsIn_wide.2 ((y _ _ _ _ ⟨fn,a.tmps,rfl,z⟩ h1).mono ?_)
  rintro e j ⟨v,rfl,(⟨F,H,u⟩|⟨c,F,I,u⟩)⟩
  ·have h2:=run_endLoop (P:=P) (u.iV (i:=0) rfl) (by simp [sO])
   exact ⟨none,_,h2,p _ _ _ F H t (u.setObj (i:=0) rfl _).tail⟩
  ·have h2:=run_endLoop (P:=P) (u.iV (i:=0) rfl) (by simp [sO])
   exact ⟨some c,_,h2,wpIn_wide.2 (q c _ _ _ F I t (u.setObj (i:=0) rfl _).tail)⟩
def tO (P:Program) (fn:Func) (R:Ending→World→Prop):Exit→Act→World→Prop
 | .normal,a,w| .ret,a,w=>LeavesInM ab8 0 P fn a.tmps R a.defers .returning w
 |_,_,_=>False
def Kh {f N:Nat} {fn:Func} {c:Code} (g:P.funcs[f]?=some fn) (hb:fn.body=some c) (j:fn.ntmps=N) (m:decide (abl vs≤N)=true) {σ0:List (Nat×Value)} (h0:qc5 0 vs=σ0)
  (k:∀a,Fr a N [] σ0→c.wp P (tO P fn R) a w):Calls P f vs.toArray w R:=by
 subst h0
 rw [decide_eq_true_eq] at m
 refine (callsIn_wide (n:=0)).1 (callsIn_of_wp_marks g hb trivial (wpIn_wide.2 (agI (λe a w h=>by cases e<;>first|exact h|exact (h:False).elim) (k _ ⟨by simp [j];omega,rfl,λt v p=>?_⟩))) rfl)
 obtain ⟨_,h1⟩:=Ep vs 0 t v p
 rw [aeG] at h1
 have b:=(abv.1 h1).1
 simp only [acG,adD,ac2,if_pos b]
 simp [h1]
section
variable {fn:Func} {R:Ending→World→Prop}
def UJ (h:bodyPost P fn R .ret a w):tO P fn R .ret a w:=by
 obtain ⟨b,v,c,e⟩:=h
 show LeavesInM ab8 0 P fn a.tmps R a.defers .returning w
 rw [b]
 exact ⟨v,c,e⟩
def Ew (Z:Fr a n [{target:= .collected B,args:= #[]}] σ) (b:Mem W w fs) (hi:fs[i]?=some (.obj B (.deferred (some [])))) (h:∀(c:Act) (e:World),Fr c n [] σ→Mem W e (fs.set i (.obj B (.deferred none)))→bodyPost P fn R .ret c e):tO P fn R .ret a w:=by
 obtain ⟨_,v,f,g⟩:=h {tmps:=a.tmps,defers:=[]} _ ⟨Z.size,rfl,Z.slot⟩ (b.setObj hi (.deferred none))
 show LeavesInM ab8 0 P fn a.tmps R a.defers .returning w
 rw [Z.defers]
 exact ⟨λh=>(nomatch h),.inl ⟨B,_,rfl,run_takeDeferred (b.iV hi),v,f,g⟩⟩
def Ey (hr:fn.results= #[]) (Z:Fr a n [] σ) (b:R (.returned (.tuple #[])) w):bodyPost P fn R .ret a w:=
 bodyPost_ret (v:= .tuple #[]) (by
  rw [Aw,hr]
  simp) Z.defers b
def gM (hr:fn.results= #[]) (Z:Fr a n [] σ) (b:R (.returned (.tuple #[])) w):bodyPost P fn R .normal a w:=Ey hr Z b
end
end
section
variable {P:Program} {Q:Exit→Act→World→Prop} {a:Act} {W w:World} {n d:Nat} {D:List Deferred} {σ:List (Nat×Value)} {o:Oper} {v:Value} {K:Act→World→Prop} {fs:List Fact}
def pX (t:TypeId) (k:Int):List PanicEntry:=[{v:= .iface t (.int .i64 k),recovered:=false}]
def kD (W:World) (fs:List Fact) (b:List PanicEntry) (r:Ending) (c:World):Prop:=r= .panicked b∧Mem W c fs
def qbv (Z:Fr a n D σ) (vs:List Value) {f:FuncId} {xs:Array Operand} {ts:Array TypeId} {g:List PanicEntry} (c:o.op= .call {callee:= .value (.func f),args:=xs,argTypes:=ts})
  (h:Calls P f vs.toArray w (kD W fs g)) (k:∀b,Mem W b fs→Q (.panic g) a b) (i:looks σ xs.toList=some vs:=by kernel_rfl) (j:callable P f=true:=by kernel_rfl):o.wp P a w K Q:=by
 have e1:xs.map a.eval=vs.toArray:=by
  have:=yR Z i
  rw [←this,←adl,acQ]
 unfold acR execOp
 simp only [c,resolve,Act.eval,adB,invoke,abL,abR,abx]
 have e3: #[]++adu a.eval xs++ #[]=vs.toArray:=by simp [e1]
 show agc P o a K Q (((callFunc f (#[]++adu a.eval xs++ #[])).run P w))
 rw [e3,CK j,agl]
 exact h.mono λe b ⟨h1,h2⟩=>by subst h1;exact k b h2
def zf2 (Z:Fr a n D σ) {x:Operand} {t:TypeId} {u:Value} (b:o.op= .panic x) (c:look σ x=some (.iface t u)) (k:Q (.panic [{v:= .iface t u,recovered:=false}]) a w):o.wp P a w K Q:=by
 unfold acR execOp
 simp only [b,Z.eval c,abL]
 exact k
def Dy (P:Program) (t:TypeId):Bool:=match P.underlying t with
 |some (.interface _)=>false
 |some _=>true
 |none=>false
theorem Yl.makeInterface (b:o.op= .makeInterface t x) (c:look σ x=some v) (ht:Dy P t=true:=by kernel_rfl):Yl P S σ o (.iface t v):=λa n D Z w e=>by
 unfold Dy at ht
 cases hu:P.underlying t with
 |none=>rw [hu] at ht;cases ht
 |some d=>
  rw [hu] at ht
  unfold execOp
  simp only [b,Z.eval c,Instr.makeInterface,abL,run_underlying hu,abx]
  cases d<;>first|rfl|cases ht
def isIface (P:Program) (t:TypeId):Bool:=match P.underlying t with
 |some (.interface _)=>true
 |_=>false
def ZE (h:isIface P t=true):∃b,P.underlying t=some (.interface b):=by
 unfold isIface at h
 split at h
 ·rename_i b c;exact ⟨b,c⟩
 ·cases h
theorem qud {v:Value} (ht:isIface P t=true) (w:World):(ac9 t (.iface e v) .nilIface).run P w= .ok false w:=by
 obtain ⟨c,b⟩:=ZE ht
 have h:∀d,(acJ (d+1) t (.iface e v) .nilIface).run P w= .ok false w:=λd=>by
  rw [acJ]
  simp only [abL,run_underlying b,abx,abR]
 exact h 9999
theorem q5e (ht:isIface P t=true) (w:World):(ac9 t .nilIface .nilIface).run P w= .ok true w:=by
 obtain ⟨c,b⟩:=ZE ht
 have h:∀d,(acJ (d+1) t .nilIface .nilIface).run P w= .ok true w:=λd=>by
  rw [acJ]
  simp only [abL,run_underlying b,abx,abR]
 exact h 9999
def aa7 (b:o.op= .binOp .neq t x y u) (c:look σ x=some (.iface e v)) (hy:look σ y=some .nilIface) (ht:isIface P t=true:=by kernel_rfl):Yl P S σ o (.bool true):=λa n D Z w f=>by
 unfold execOp
 simp only [b,Z.eval c,Z.eval hy,abL,wm .neq t x y (a:= .iface e v) rfl,abx,binOp,qud ht,abR]
 rfl
def aaX (b:o.op= .binOp .neq t x (.const .nilIface) u) (c:look σ x=some .nilIface) (ht:isIface P t=true:=by kernel_rfl):Yl P S σ o (.bool false):=λa n D Z w e=>by
 have e1:a.eval (.const .nilIface)= .nilIface:=rfl
 have e2:(eqGuard .neq t x (.const .nilIface) .nilIface .nilIface).run P w= .ok () w:=by
  unfold eqGuard
  simp
 unfold execOp
 simp only [b,Z.eval c,e1,abL,e2,abx,binOp,q5e ht,abR]
 rfl
def ZF (h:Dy P t=true):∃d,P.underlying t=some d∧∀b,d≠ .interface b:=by
 unfold Dy at h
 split at h
 ·cases h
 ·rename_i d c f;exact ⟨d,f,λb e=>c b e⟩
 ·cases h
def aaZ (b:o.op= .typeAssert x e t true) (c:look σ x=some (.iface t v)) (ht:Dy P t=true:=by kernel_rfl):Yl P S σ o (.tuple #[v,.bool true]):=λa n D Z w h=>by
 obtain ⟨d,f,g⟩:=ZF ht
 unfold execOp
 simp only [b,Z.eval c,aei,abL,run_underlying f,abx]
 cases d<;>first|(exact absurd rfl (g _))|simp
def aa8 (b:o.op= .typeAssert x e t true) (f:look σ x=some .nilIface) (hz:(P.info? t).bind (·.zero)=some z) (ht:Dy P t=true:=by kernel_rfl):Yl P S σ o (.tuple #[z,.bool false]):=λa n D Z w j=>by
 obtain ⟨d,g,h⟩:=ZF ht
 obtain ⟨i,hi,c⟩:=adv.1 hz
 unfold execOp
 simp only [b,Z.eval f,aei,abL,run_underlying g,abx]
 cases d<;>first|(exact absurd rfl (h _))|rfl|simp [zeroValue,typeInfo,hi,c]
def GH (Q:Exit→Act→World→Prop):Exit→Act→World→Prop
 | .normal,a,w=>Q .normal a w
 |_,_,_=>False
def zf3 {c:Code} (h:c.wp P (GH Q) a w):c.wp P Q a w:=λb k i=>by
 obtain ⟨e,j,l,g,f⟩:=h b k i
 cases e with
 |normal=>exact ⟨_,j,l,g,f⟩
 |_=>exact g.elim
theorem Dz {p:Prop} (Z:Fr a n [] σ) (h:p):a.defers=[]∧p:=⟨Z.defers,h⟩
def zf4 (Z:Fr a n D σ) {fo:Operand} {f:FuncId} {caps:List Value} {ts:Array TypeId} (b:o.op= .defer {callee:= .value fo,args:= #[],argTypes:=ts}) (c:look σ fo=some (.func (.func f) #[] caps.toArray)) (g:o.dst=none)
  (k:∀e,Fr e n ({target:= .fn (.func f) caps.toArray,args:= #[]}::D) σ→K e w):o.wp P a w K Q:=by
 unfold acR execOp
 simp only [b,resolve,Z.eval c,adB,abL,abR,abx,acT,ade,Oper.upon_defer,g]
 exact k _ ⟨Z.size,by show _::a.defers=_;rw [Z.defers];rfl,Z.slot⟩
def qrp {f:Nat} {fn:Func} {c:Code} (e:P.funcs[f]?=some fn) (hb:fn.body=some c) (g:fn.ntmps=N) (h:decide (abl vs≤N)=true) {σ0:List (Nat×Value)} (h0:qc5 0 vs=σ0)
  (k:∀a,Fr a N [] σ0→c.wp P (bodyPostD P fn R) a w):Calls P f vs.toArray w R:=by
 subst h0
 rw [decide_eq_true_eq] at h
 refine calls_of_wp_defers e hb (k _ ⟨by simp [g];omega,rfl,λt v i=>?_⟩)
 obtain ⟨_,h1⟩:=Ep vs 0 t v i
 rw [aeG] at h1
 have b:=(abv.1 h1).1
 simp only [acG,adD,ac2,if_pos b]
 simp [h1]
def og (W:World) (fs:List Fact) (e:Ending) (u:FrameMode) (b:World):Prop:=e= .returned (.tuple #[])∧settle u= .returning∧Mem W b fs
def qz1 {fn:Func} {c:List PanicEntry} {f:FuncId} {r:ResultVar} (Z:Fr a n [{target:= .fn (.func f) caps.toArray,args:= #[]}] σ) (hc:callable P f=true) (h:CallsD P f caps.toArray (.panicking c) w (og W fs)) (hr:fn.results= #[r])
  (k:∀b,Mem W b fs→lW P a b r v∧R (.returned v) b):bodyPostD P fn R (.panic c) a w:=by
 show Leaves P fn a.tmps R a.defers (.panicking c) w
 rw [Z.defers]
 refine leaves_cons (f:=f) (args:=caps.toArray) (by simp) (by simp only [invoke];rw [show #[]++caps.toArray=caps.toArray by simp];exact CK hc _ _) (h.mono λe u b ⟨h1,h2,h3⟩=>?_)
 subst h1
 show Leaves P fn a.tmps R [] (settle u) b
 rw [h2]
 obtain ⟨h4,h5⟩:=k b h3
 unfold lW at h4
 refine ⟨v,?_,h5⟩
 rw [Aw,hr]
 generalize tK a.tmps=g at*
 simp [h4]
def q5f {fn:Func} {f:FuncId} {r:ResultVar} (Z:Fr a n [{target:= .fn (.func f) caps.toArray,args:= #[]}] σ) (hc:callable P f=true) (c:CallsD P f caps.toArray .returning w (og W fs)) (hr:fn.results= #[r])
  (k:∀b,Mem W b fs→lW P a b r v∧R (.returned v) b):bodyPostD P fn R .ret a w:=by
 show Leaves P fn a.tmps R a.defers .returning w
 rw [Z.defers]
 refine leaves_cons (f:=f) (args:=caps.toArray) (by simp) (by simp only [invoke];rw [show #[]++caps.toArray=caps.toArray by simp];exact CK hc _ _) (c.mono λe u b ⟨h1,h2,h3⟩=>?_)
 subst h1
 show Leaves P fn a.tmps R [] (settle u) b
 rw [h2]
 obtain ⟨h4,h5⟩:=k b h3
 unfold lW at h4
 refine ⟨v,?_,h5⟩
 rw [Aw,hr]
 generalize tK a.tmps=g at*
 simp [h4]
theorem ZG (h:o.guard=none):acU o (yielded ops a.tmps)=true:=by unfold acU;rw [h]
def ZH {j:Exit→Act→List Frame→World→Prop} {e cs':List Frame} {ts:Array TypeId} (Z:Fr a n D σ) (q:ops[i]?=some o) (f:o.op= .call {callee:= .builtin .recover,args:= #[],argTypes:=ts}) (r:o.guard=none) (m:o.dst=some d) (b:d<n)
  (g:(recoverD e=some (v,cs'))∨(recoverD e=none∧v= .nilIface∧cs'=e)) (k:∀p,Fr p n D ((d,v)::σ)→wpOpsS P ops j l p cs' w):wpOpsS P ops j (i::l) a e w:=by
 have c:(execOp a.eval o).run P w= .ok .recover w:=by
  unfold execOp
  simp [f,resolve,invoke,builtin]
 simp only [wpOpsS,q,ZG r,if_true,c]
 rcases g with h|⟨h,rfl,rfl⟩
 ·simp only [h,m]
  exact k _ (Z.put b _)
 ·simp only [h,m]
  exact k _ (Z.put b _)
def ZI {e:Exit→Act→List Frame→World→Prop} {f:List Frame} (Z:Fr a n D σ) (h:ops[i]?=some o) (j:rO P σ o.op=some v) (m:o.guard=none) (p:o.dst=some d) (c:d<n)
  (k:∀g,Fr g n D ((d,v)::σ)→wpOpsS P ops e l g f w):wpOpsS P ops e (i::l) a f w:=by
 have b:=T9 Z j w
 simp only [wpOpsS,h,ZG m,if_true,b,aco,p]
 exact k _ (Z.put c _)
def ZJ {f:Nat} {fn:Func} {c:Code} {u:FrameMode} {R:Ending→FrameMode→World→Prop} (g:P.funcs[f]?=some fn) (hb:fn.body=some c) (h:fn.ntmps=N) (i:decide (abl vs≤N)=true) {σ0:List (Nat×Value)} (h0:qc5 0 vs=σ0)
  (k:∀(c₀:Frame) (b:List Frame) a,c₀.mode=u→Fr a N [] σ0→c.wpS P (bodyPostS P fn c₀ b R) a (c₀::b) w):CallsD P f vs.toArray u w R:=by
 subst h0
 rw [decide_eq_true_eq] at i
 refine callsD_of_wpS g hb λc₀ b j=>k c₀ b _ j ⟨by simp [h];omega,rfl,λt v l=>?_⟩
 obtain ⟨_,h1⟩:=Ep vs 0 t v l
 rw [aeG] at h1
 have e:=(abv.1 h1).1
 simp only [acG,adD,ac2,if_pos e]
 simp [h1]
def ZK {fn:Func} {c₀:Frame} {b:List Frame} {u:FrameMode} {R:Ending→FrameMode→World→Prop} (hr:fn.results= #[]) (Z:Fr a n [] σ) (h:R (.returned (.tuple #[])) u w):bodyPostS P fn c₀ b R .normal a ({c₀ with mode:=u}::b) w:=
 ⟨Z.defers,u,rfl,_,(by rw [Aw,hr];simp),h⟩
end
section
variable {P:Program} {W w:World} {l n:Nat} {σ:List (Nat×Value)}
def Fr.Ou {v1:Value} (h:Fr {tmps:=tmps,defers:=[]} n [] σ) (h1:c<n):Fr {tmps:=(#[c].zip #[v1]).foldl (λt (p,v)=>t.setIfInBounds p v) tmps,defers:=[]} n [] ((c,v1)::σ):=by
 have h3:=h.put h1 v1
 simpa [Act.put] using h3
def qqq {b:LoopState→Option Code→Loop} {assign body:Code} {v1:Value} (e:∃fn d,b=sO fn d #[c] assign body B∧Fr {tmps:=d,defers:=[]} n [] σ) (i:Mem W w (.obj l (.loop (b .ready none))::F)) (h1:c<n)
  (h:∀a,Fr a n [] ((c,v1)::σ)→assign.wpIn (Fence.wide.inRound l) 0 P (Exit.then (λj k=>∃f,Mem W k (.obj l (.loop (b .ready none))::f)∧∀g,Mem W g (.obj l (.loop (b .busy none))::f)→body.wpIn (Fence.wide.inRound l) 0 P (roundEnd W l b R) j g) (λ_ _ _=>False)) a w):YieldAt ab8 0 P l #[v1] w R:=by
 obtain ⟨fn,d,rfl,Z⟩:=e
 exact UG i rfl (h _ (Z.Ou h1))
def Ov (W:World) (fr:List Fact) (J:List Fact→Prop) (e:Ending) (b:World):Prop:=∃a,Mem W b (a++fr)∧e= .returned (.bool true)∧J a
def zg {W:World} {fr:List Fact} {J:List Fact→Prop}:∀(e:Ending) (a:World),Ov W fr J e a→∃v,e= .returned v
 |_,_,⟨_,_,h,_⟩=>⟨_,h⟩
def q22 (W:World) (J:List Fact→Prop) (r:Ending) (b:World):Prop:=∃v,r= .returned v∧∃a,Mem W b a∧J a
def Xe (P:Program) (W:World) (a n:Nat) (Inv:Nat→List Fact→Prop):Prop:=
 ∀(i:Nat) (F fr:List Fact) (w:World) (x:Int),Inv i F→i<n→Mem W w (F++fr)→YieldAt ab8 0 P a #[.int .i64 x] w (Ov W fr (Inv (i+1)))
end
section
variable {P:Program} {ops:Array Oper} {Q:Exit→Act→World→Prop} {a:Act} {w W:World} {n i:Nat} {K:Act→World→Prop} {md:Region.Mode}
def vG:Nat→List (List Bool)
 |0=>[[]]
 |n+1=>(vG n).flatMap λl=>[true::l,false::l]
theorem qw6:∀(l:List Bool),l∈vG (abl l)
 |[]=>by simp [vG]
 |b::l=>by
  rw [List.length_cons,vG,List.mem_flatMap]
  exact ⟨l,qw6 l,by cases b<;>simp⟩
def LY (md:adJ) (ops:Array Oper) (l:List Bool):Bool:=(acW (abl l)).all λk=> !l.getD k false||((ops[k]?).map (·.after.all λe=> !Region.binds md e||l.getD e.on false)).getD false
def nM (md:adJ) (ops:Array Oper) (i:Nat):Bool:=
 ((vG i).all λl=> !LY md ops l||(((acA md (ops.toList.take i).toArray l.toArray).all λj=>LY md ops (l.set j true))&& (((acA md (ops.toList.take i).toArray l.toArray).isEmpty==l.all id)&& (l.all id||(acA md ops (l++abD (ops.size-i) false).toArray==acA md (ops.toList.take i).toArray l.toArray)))))
 && (LY md ops (abD i false)&& (((acW (ops.size-i)).all λj=>acA md ops (abD (i+j) true++abD (ops.size-i-j) false).toArray==[i+j])
 && ((acA md ops (abD ops.size true).toArray).isEmpty&& (decide (i≤ops.size)&& ((ops.toList.take i).all λo=>o.guard.isNone)))))
theorem zjn (j d:Nat):(abD j true++abD (d+1) false).toArray.setIfInBounds j true=(abD (j+1) true++abD d false).toArray:=by
 rw [adT]
 congr 1
 rw [List.set_append_right _ _ (by simp),List.length_replicate,adK,List.replicate_succ,aeW,List.replicate_succ',aby]
 rfl
def zc8 {F:Fence} (h1:∀j,i≤j→j<ops.size→acA md ops (abD j true++abD (ops.size-j) false).toArray=[j]) (h2:acA md ops (abD ops.size true).toArray=[]):
  ∀(d j:Nat),j+d=ops.size→i≤j→∀a w,wpListIn F n P ops Q (ops.toList.drop j) a w→wpAnyIn F n P md ops Q d (abD j true++abD d false).toArray a w
 |0,j,k,_,a,w,h=>by
  obtain rfl:j=ops.size:=by omega
  rw [acp (by simp)] at h
  refine ⟨?_,h⟩
  rw [List.replicate_zero,abU]
  exact h2
 | d + 1, j, k, hi, a, w, h => by
  have b:j<ops.size:=by omega
  have c:=h1 j hi b
  rw [show ops.size-j=d+1 by omega] at c
  refine ⟨λh0=>(by rw [c] at h0;cases h0),λq f=>?_⟩
  rw [c,List.mem_singleton] at f
  subst f
  rw [acn (by simpa using b)] at h
  have g:=zc8 (F:=F) h1 h2 d (q+1) om om
  rw [zjn]
  unfold wpOpIn
  rw [Array.getElem?_eq_getElem b]
  unfold wpListIn at h
  simp only [adN] at h⊢
  split at h
  ·rename_i e
   rw [if_pos e]
   exact Oper.wpIn_mono g h
  ·rename_i e
   rw [if_neg e]
   exact ⟨h.1,g _ _ h.2⟩
theorem qrw:∀{l:List Bool} {j:Nat},l[j]?=some false→(l.set j true).count false+1=l.count false
 |[],_,h=>by simp at h
 |b::l,0,h=>by
  simp at h
  subst h
  simp
 |b::l,j+1,h=>by
  have:=qrw (l:=l) (j:=j) (by simpa using h)
  rw [afZ,agn,agn]
  omega
theorem qrx {l:List Bool}:l.count false=0↔l.all id=true:=by
 rw [List.count_eq_zero,acC]
 constructor
 ·intro h x b
  cases x with
  |true=>rfl
  |false=>exact absurd b h
 ·intro h b
  have:=h _ b
  cases this
def zjo (y:nM md ops i=true) (L:¬LetsOut Q) (M:∀a w,K a w→wpListIn ab8 0 P ops Q (ops.toList.drop i) a w):
  ∀(d:Nat) (l:List Bool),abl l=i→l.count false=d→LY md ops l=true→∀a w,wpAny P md (ops.toList.take i).toArray (Exit.then K Q) d l.toArray a w→wpAnyIn ab8 0 P md ops Q (d+(ops.size-i)) (l++abD (ops.size-i) false).toArray a w:=by
 unfold nM at y
 simp only [abF,decide_eq_true_eq] at y
 obtain ⟨N,_,O,R,hi,S⟩:=y
 have p:abl (ops.toList.take i)=i:=by rw [abr];simp;omega
 have T:=zc8 (P:=P) (Q:=Q) (F:=ab8) (n:=0) (md:=md) (ops:=ops) (i:=i) (λj h1 h2=>by
  have h3:=acC.1 O (j-i) (List.mem_range.2 om)
  rw [show i+(j-i)=j by omega,show ops.size-i- (j-i)=ops.size-j by omega] at h3
  exact eq_of_beq h3) (List.isEmpty_iff.1 R)
 intro d
 induction d with
 |zero=>
  intro l t hc q a w h
  have U:=qrx.1 hc
  have g:l=abD i true:=List.eq_replicate_iff.2 ⟨t,λb V=>acC.1 U b V⟩
  subst g
  rw [acj]
  exact T _ _ om (abq _) _ _ (M _ _ h.2)
 | succ d X =>
  intro l t hc q a w h
  have h3:=acC.1 N l (by rw [←t];exact qw6 l)
  rw [q,Bool.not_true,agD,abF] at h3
  have k:=h3.1
  replace h3:=h3.2
  have z:l.all id=false:=by
   cases hx:l.all id with
   |false=>rfl
   |true=>rw [qrx.2 hx] at hc;omega
  rw [z,agD,abF] at h3
  have H:=eq_of_beq h3.2
  have s:=eq_of_beq h3.1
  rw [Nat.succ_add]
  refine ⟨λh0=>(by rw [H] at h0;rw [h0] at s;cases s),λj u=>?_⟩
  rw [H] at u
  have h4:=h.2 j u
  have k:=acC.1 k j u
  obtain ⟨A,o,m,_⟩:=mem_ready.1 u
  have B:j<i:=by
   have:=(adq.1 m).1
   simpa [p] using this
  have C:l[j]?=some false:=by
   have:l.toArray.getD j true=false:=A
   rw [acG,ael,abp om] at this
   rw [abp om]
   exact congrArg some this
  have D:ops[j]?=some o:=by
   rw [ael,ado,if_pos B,Array.getElem?_toList] at m
   exact m
  have E:o.guard=none:=by
   have hm:o∈ops.toList.take i:=by
    rw [ael] at m
    exact abM m
   have:=acC.1 S o hm
   simpa using this
  have e1:l.toArray.setIfInBounds j true=(l.set j true).toArray:=adT ..
  have e2:(l++abD (ops.size-i) false).toArray.setIfInBounds j true=(l.set j true++abD (ops.size-i) false).toArray:=by
   rw [adT,List.set_append_left _ _ om]
  rw [e1] at h4
  rw [e2]
  have Y:=X (l.set j true) (by rw [abO];exact t) (by have:=qrw C;omega) k
  have I:∀x,acU o x=true:=λx=>by unfold acU;rw [E]
  unfold wpOp at h4
  rw [m] at h4
  simp only [I,if_true] at h4
  unfold wpOpIn
  rw [D]
  simp only [I,if_true]
  have h5:=Ng (Q:=Exit.then K Q) (λ⟨a,w,h⟩=>L ⟨a,w,h⟩) Y h4
  refine ⟨h5.1,?_⟩
  have h3:=h5.2
  generalize (o.semAt Fence.wide.round a.eval).run P w=r at h3
  cases r with
  | ok x Z =>
   cases x with
   |enter f args=>
    refine ⟨h3.1,h3.2.mono ?_⟩
    intro e G g
    cases e with
    |returned v=>exact g
    |panicked c=>exact g
    |outgrown=>exact g
   |round l f J assign body=>
    refine ⟨h3.1,h3.2.mono ?_⟩
    intro e G g
    cases e with
    |returned v=>exact g
    |panicked c=>exact g
    |outgrown=>exact g
   |_=>exact h3
  |halt hh Z=>
   cases hh with
   |panic v=>exact h3
   |_=>exact h3
def RD (P:Program) (ops:Array Oper) (Q:Exit→Act→World→Prop) (i:Nat) (a:Act) (w:World):Prop:=∃o,ops[i]?=some o∧o.guard=none∧o.wpIn ab8 0 P a w (wpListIn ab8 0 P ops Q (ops.toList.drop (i+1))) Q
def q53 {id:Nat} (i:Nat) (S:World→Prop) (c:List Nat) (h:qj P .any (ops.toList.take i).toArray (Exit.then (RD P ops Q i) Q) S c i (Array.replicate i false) a w.drew)
  (hm:P.follows .mixedOrders=true:=by kernel_rfl) (b:nM .any ops i=true:=by kernel_rfl) (d:¬LetsOut Q:=by intro ⟨_,_,h⟩;obtain ⟨_,h,_⟩:=h;cases h):(aee id ops true).wp P Q a w:=by
 refine wpIn_wide.1 (wpIn_region_any (n:=0) hm ?_)
 have h1:=zjo (P:=P) (Q:=Q) (K:=RD P ops Q i) b d (λa w ⟨o,e,f,h⟩=>by
  obtain ⟨g,j⟩:=adq.1 e
  rw [acn (by simpa using g),adN,j]
  unfold wpListIn
  rw [if_pos (by unfold acU;rw [f])]
  exact h) i (abD i false) (by simp) (by simp) (by unfold nM at b;simp only [abF] at b;exact b.2.1) a w.drew (qed _ _ _ _ (by rw [afu];exact h))
 unfold nM at b
 simp only [abF,decide_eq_true_eq] at b
 obtain ⟨_,_,_,_,hi,_⟩:=b
 rw [show i+(ops.size-i)=ops.size by omega,List.replicate_append_replicate,show i+(ops.size-i)=ops.size by omega,afu] at h1
 exact h1
def Cg {id:Nat} (i:Nat) {fs:List Fact} (d:Mem W w fs) (fs':List Fact) (m:Nat) (b e:List Nat) (h:Mem W w.drew fs→Mem W w.drew fs'→qj P .any (ops.toList.take i).toArray (Exit.then (RD P ops Q i) Q) (λf=>Mem W f fs') e i (Array.replicate i false) a w.drew)
  (g:b.Nodup:=by decide) (c:(b.all (· <m))=true:=by decide) (j:picks fs b++fs.drop m=fs':=by rfl) (hm:P.follows .mixedOrders=true:=by kernel_rfl) (k:nM .any ops i=true:=by kernel_rfl) (l:¬LetsOut Q:=by intro ⟨_,_,h⟩;obtain ⟨_,h,_⟩:=h;cases h):(aee id ops true).wp P Q a w:=
 q53 i _ e (h d.drew (d.drew.Uo m b g c j)) hm k l
end
def aaB (b:o.op= .convert 30 9 x) (d:look σ x=some (.slice A n c)) (hr:∀w,S w→Rd w w.heap.size 1 A n (l.map B8)):Yl abm S σ o (.string (jF l)):=λa m D Z w f=>by
 unfold execOp
 simp [b,Z.eval d,zdp (hr w f)]
theorem rR (l:List Nat):∀u∈l.map B8,u.oneCell'=true:=by
 intro u a
 obtain ⟨x,_,rfl⟩:=ab6.1 a
 rfl
theorem Rd.M8 {cap:Nat} (h:Rd w B 1 A n (l.map B8)) (hk:k≤n) (hc:n≤cap):Rd w B 1 (if cap=k then A else A.map (·.add (k*1))) (n-k) ((l.drop k).map B8):=by
 have h1:=h.from hk hc
 rw [aeQ]
 have e:(l.map B8).drop (k*1)=(l.map B8).drop k:=by rw [acX]
 rw [←e]
 exact h1
theorem Uw (l:List Nat):((jF l).toList==(jF l).toList)=true:=by simp
theorem Mem.le (h:Mem W w fs) {B:Nat} (a:B≤W.heap.size):B≤w.heap.size:=acM a h.size
theorem ou {x:Int} (h: -9223372036854775808≤x∧x≤9223372036854775807):abQ .i64 (IntKind.i64.wrap x)= .int .i64 x:=by rw [af9 x h]
def ze (w:World) (er:Nat) (R:List Nat) (r:Ending) (a:World):Prop:=
 (∃A c,r= .returned (.tuple #[.slice A (abl R) c,.int .i64 (er:Int)])∧a.ownsRow w.heap.size 5 1 (.slice A (abl R) c) (abl R) (R.map B8)∧abl R≤c)∧Below w.heap.size w a
section
variable {P:Program} {S:World→Prop} {σ:List (Nat×Value)} {o:Oper} {t e:TypeId} {z:Value} {size bytes:Nat}
theorem aaf (d:EI P t e z size bytes) {x y:Operand} {A:Option Addr} {m c j:Nat} {k:IntKind} (b:o.op= .slice t x (some y) none none) (f:look σ x=some (.slice A m c)) (g:look σ y=some (.int k (j:Int))) (h:j≤m):
  Yl P S σ o (.slice (if c=j then A else A.map (·.add (j*size))) (m-j) (c-j)):=λa n D Z w i=>by
 unfold execOp
 simp only [b,Z.eval f,Z.eval g,adO,aed,abL,abR,qlo (P:=P) d h,abx]
theorem aag (d:EI P t e z size bytes) {x hi:Operand} {A:Option Addr} {m c j:Nat} {k:IntKind} (b:o.op= .slice t x none (some hi) none) (f:look σ x=some (.slice A m c)) (g:look σ hi=some (.int k (j:Int))) (h:j≤c):
  Yl P S σ o (.slice A j c):=λa n D Z w i=>by
 unfold execOp
 simp only [b,Z.eval f,Z.eval g,adO,aed,abL,abR,qlp (P:=P) d h,abx]
end
section
variable {P:Program} {S:World→Prop} {σ:List (Nat×Value)} {o:Oper}
def placesOf (P:Program):List Field→Option (List (Nat×Nat))
 |[]=>some []
 |f::r=>match P.info? f.type,placesOf P r with
  |some i,some l=>some ((f.offset,i.size)::l)
  |_,_=>none
theorem Ux:∀{a:List Field} {l:List (Nat×Nat)},placesOf P a=some l→∀w,(a.mapM λf=>(do pure (f.offset,←sizeOf f.type):Sem (Nat×Nat))).run P w= .ok l w
 |[],l,h,w=>by cases h;rfl
 | f :: r, l, h, w => by
  unfold placesOf at h
  split at h
  ·rename_i i c hi b
   injection h with h
   subst h
   simp [List.mapM_cons,sizeOf,typeInfo,hi]
   have:=Ux b w
   simp [sizeOf,typeInfo] at this
   simp [this]
  ·cases h
def M9 (P:Program) (t:TypeId) (vs:List (Nat×Value)):Option (Array Value):=match P.underlying t,wz P t with
 |some (.struct a),some z=>match placesOf P a.toList with
  |some l=>aes (l.toArray[·]?) z vs
  |none=>none
 |_,_=>none
theorem Yl.build {vs:List (Nat×Value)} (b:o.op= .build t ps) (j:wB σ ps.toList=some vs) (hb:M9 P t vs=some C):Yl P S σ o (.agg C):=λa n D Z w q=>by
 have c:=M0 Z j
 have e1:(adW t (ps.map λp=>(p.1,a.eval p.2))).run P w= .ok (.agg C) w:=by
  rw [c]
  unfold M9 at hb
  split at hb
  ·rename_i h z k hz
   split at hb
   ·rename_i l m
    unfold wz at hz
    obtain ⟨r,d,rfl⟩:=ady.1 hz
    obtain ⟨i,hi,g⟩:=adv.1 d
    have hm:(h.mapM λf=>(do ad8 (f.offset,←sizeOf f.type):Sem (Nat×Nat))).run P w= .ok l.toArray w:=by
     rw [←acQ (xs:=h),List.mapM_toArray]
     simp only [Sem.run_map,Ux m]
     rfl
    unfold adW
    simp only [abL,zeroValue,typeInfo,program,ae4,hi,g,abR,abx,run_underlying k,hm,hb]
   ·cases hb
  ·cases hb
 unfold execOp
 simp only [b,abL,abR]
 show ((adW t (ps.map λp=>(p.1,a.eval p.2))).run P w).andThen _=_
 rw [e1]
 rfl
end
theorem zj {base:Nat} {size:Nat} (h:w.ownsRow base e size (.slice A n c) n xs) (a:0<n):∃g,A=some ⟨g,0,none⟩:=by
 obtain ⟨g,b,h1,_⟩:=zhw h a
 injection h1 with h1 _ _
 exact ⟨g,h1⟩
theorem Mem.rat (h:Mem W w fs) (i k:Nat) {e:TypeId} {size n c:Nat} {A:Option Addr} {xs:List Value} (hi:fs[i]?=some (.row (.slice A n c) n xs e size):=by rfl) (hk:k<n:=by omega):∃g,A=some ⟨g,0,none⟩:=zj (h.own hi) (af4 (abw _) hk)
theorem Mem.CQ (h:Mem W w fs) {α:Type} {f:α→List Value} {sz:Nat} (a:∀x,abl (f x)=sz) {i g m c:Nat} {e:TypeId} {l:List α} (hi:fs[i]?=some (.row (.slice (some ⟨g,0,none⟩) m c) m (l.flatMap f) e sz)) {k:Nat} {x:α} (hk:l[k]?=some x):w.rangeAt g (k*sz) (f x):=
 h.J5 hi (k*sz) λj u b=>by
  obtain ⟨d,n⟩:=abv.1 hk
  have p:j<sz:=by have:=(abv.1 b).1;rwa [a] at this
  rw [yM f sz a l k j d p,n]
  exact b
section
variable {P:Program} {S:World→Prop} {σ:List (Nat×Value)} {o:Oper} {v:Value}
def CS (P:Program) (t:TypeId):Bool:=match P.underlying t with
 |some (.func _ _ _)=>true
 |_=>false
theorem qxx {f:Fn} {xs:Array Value} (ht:CS P t=true) (w:World):(ac9 t (.func f xs ys) .nilFunc).run P w= .ok false w:=by
 unfold CS at ht
 split at ht
 ·rename_i a
  show (acJ (9999+1) t (.func f xs ys) .nilFunc).run P w=_
  unfold acJ
  simp only [abL,run_underlying a,abx]
  rfl
 ·cases ht
theorem q1e (ht:CS P t=true) (w:World):(ac9 t .nilFunc .nilFunc).run P w= .ok true w:=by
 unfold CS at ht
 split at ht
 ·rename_i a
  show (acJ (9999+1) t .nilFunc .nilFunc).run P w=_
  unfold acJ
  simp only [abL,run_underlying a,abx]
  rfl
 ·cases ht
theorem aaO {f:Fn} {xs:Array Value} (b:o.op= .binOp .neq t x y u) (c:look σ x=some (.func f xs ys)) (hy:look σ y=some .nilFunc) (ht:CS P t=true):Yl P S σ o (.bool true):=λa n D Z w d=>by
 unfold execOp
 have e:(binOp .neq t (.func f xs ys) .nilFunc).run P w= .ok (.bool true) w:=by
  show ((do ad8 (.bool (!(←ac9 t (.func f xs ys) .nilFunc))):Sem Value)).run P w=_
  simp [qxx ht]
 simp only [b,Z.eval c,Z.eval hy,abL,wm (P:=P) .neq t x y (a:= .func f xs ys) rfl,abx,e,abR]
theorem aa0 (b:o.op= .binOp .neq t x y u) (c:look σ x=some .nilFunc) (hy:look σ y=some .nilFunc) (ht:CS P t=true):Yl P S σ o (.bool false):=λa n D Z w d=>by
 unfold execOp
 have e:(binOp .neq t .nilFunc .nilFunc).run P w= .ok (.bool false) w:=by
  show ((do ad8 (.bool (!(←ac9 t .nilFunc .nilFunc))):Sem Value)).run P w=_
  simp [q1e ht]
 simp only [b,Z.eval c,Z.eval hy,abL,wm (P:=P) .neq t x y (a:= .nilFunc) rfl,abx,e,abR]
def aaM {m:Nat} (b:o.op= .unOp .xor t x) (c:look σ x=some (.int .u32 (m:Int))) (hm:m<4294967296):Yl P S σ o (.int .u32 ((m^^^4294967295:Nat):Int)):=λa n D Z w d=>by
 have h1:=Kc (m:=4294967295) (n:=m) de hm
 rw [Nat.xor_comm] at h1
 unfold execOp
 simp only [b,Z.eval c,Op.unary]
 rw [←h1]
 rfl
def UA (P:Program) (t:TypeId):Option (Nat×Nat):=match P.underlying t with
 |some (.array n e)=>(P.info? e).map λi=>(n,i.size)
 |_=>none
theorem Yl.tN {ix:Operand} {ad:Addr} {y sz:Nat} {k:IntKind} (c:o.op= .indexAddr t x ix) (f:look σ x=some (.pointer (some ad))) (hi:look σ ix=some (.int k (y:Int))) (b:UA P t=some (m,sz)) (hy:y<m):Yl P S σ o (.pointer (some (ad.add (y*sz)))):=λa n D Z w h=>by
 unfold UA at b
 split at b
 ·rename_i j e g
  obtain ⟨i,d,b⟩:=ady.1 b
  injection b with h1 h2
  subst h1;subst h2
  unfold execOp
  simp [c,Z.eval f,Z.eval hi,Instr.indexAt,asIntOf,run_underlying g,hy,sizeOf,typeInfo,d,Instr.sureAddr]
 ·cases b
theorem aal {size bytes:Nat} (g:EI P t e z size bytes) {x y hi:Operand} {A:Option Addr} {m c i j:Nat} {k h:IntKind} (f:o.op= .slice t x (some y) (some hi) none) (p:look σ x=some (.slice A m c)) (q:look σ y=some (.int k (i:Int))) (r:look σ hi=some (.int h (j:Int))) (b:i≤j) (l:j≤c):
  Yl P S σ o (.slice (if c=i then A else A.map (·.add (i*size))) (j-i) (c-i)):=λa n D Z w B=>by
 obtain ⟨s,d,_,hs,_⟩:=info_parts g.hi
 have u:i≤c:=acM b l
 have e1:(adg t (.slice A m c) (some (.int k (i:Int))) (some (.int h (j:Int))) none).run P w= .ok (.slice (if c=i then A else A.map (·.add (i*size))) (j-i) (c-i)) w:=by
  subst hs
  simp [adg,run_underlying g.ht,af5,aeT,ae1,asIntOf,b,l,sizeOf,typeInfo,d]
 unfold execOp
 simp only [f,Z.eval p,Z.eval q,Z.eval r,adO,aed,abL,e1,abx]
 rfl
def UC (P:Program) (t:TypeId):Option Nat:=match P.underlying t with
 |some (.array n _)=>some n
 |_=>none
theorem Yl.arrayAt (b:o.op= .sliceToArrayPointer t x) (d:look σ x=some (.slice A m c)) (ht:UC P t=some k) (hk:k≤m):Yl P S σ o (.pointer A):=λa n D Z w g=>by
 unfold UC at ht
 split at ht
 ·rename_i h e f
  injection ht with ht;subst ht
  unfold execOp
  simp [b,Z.eval d,Instr.arrayAt,run_underlying f,Nat.not_lt.2 hk]
 ·cases ht
end
theorem Rd.mid {size:Nat} (h:Rd w B size A n xs) (a:i≤j) (b:j≤n) (hc:n≤c):
  Rd w B size (if c=i then A else A.map (·.add (i*size))) (j-i) ((xs.take (j*size)).drop (i*size)):=by
 have h1:=h.from (k:=i) (cap:=c) om hc
 have h2:=h1.upto (k:=j-i) om
 rw [List.drop_take,←Nat.sub_mul]
 exact h2
theorem Rd.wF (h:Rd w B 1 A n (l.map B8)) (a:i≤j) (b:j≤n) (hc:n≤c):
  Rd w B 1 (if c=i then A else A.map (·.add (i*1))) (j-i) (((l.take j).drop i).map B8):=by
 have h1:=h.mid a b hc
 rw [acX,acX,←afU,←aeQ] at h1
 rw [acX]
 exact h1
section
variable {W w:World} {fs:List Fact}
theorem Mem.kM (h:Mem W w fs) {g:Nat} {a:Obj} (hb:W.heap[g]?=some a):w.heap[g]?=some a:=(h.below.block g (rJ hb)).trans hb
theorem Mem.zr (h:Mem W w fs) {g off:Nat} {C:Array Value} {t:TypeId} {v:Value} (hb:W.heap[g]?=some (.cells C t (0,0))) (hc:C[off]?=some v):w.cell? ⟨g,off,none⟩=some v:=by
 simp [aeh,h.kM hb,hc]
theorem Mem.zj8 (h:Mem W w fs) {g:Nat} {C:Array Value} {t:TypeId} (hb:W.heap[g]?=some (.cells C t (0,0))):w.rangeAt g 0 C.toList:=qi (h.kM hb)
end
section
variable {P:Program} {S:World→Prop} {σ:List (Nat×Value)} {o:Oper}
def aa9 {size bytes:Nat} (g:EI P t e z size bytes) {x y hi s:Operand} {A:Option Addr} {m c i j q:Nat} {k h k2:IntKind} (d:o.op= .slice t x (some y) (some hi) (some s)) (l:look σ x=some (.slice A m c)) (p:look σ y=some (.int k (i:Int))) (r:look σ hi=some (.int h (j:Int))) (hm:look σ s=some (.int k2 (q:Int))) (f:i≤j) (u:j≤q) (v:q≤c):
  Yl P S σ o (.slice (if q=i then A else A.map (·.add (i*size))) (j-i) (q-i)):=λa n D Z w C=>by
 obtain ⟨B,b,_,hs,_⟩:=info_parts g.hi
 have e1:(adg t (.slice A m c) (some (.int k (i:Int))) (some (.int h (j:Int))) (some (.int k2 (q:Int)))).run P w= .ok (.slice (if q=i then A else A.map (·.add (i*size))) (j-i) (q-i)) w:=by
  subst hs
  simp [adg,run_underlying g.ht,af5,aeT,ae1,asIntOf,f,u,v,sizeOf,typeInfo,b]
 unfold execOp
 simp only [d,Z.eval l,Z.eval p,Z.eval r,Z.eval hm,adO,abL,e1,abx]
 rfl
end
theorem Ws (f:α→List Value) (sz:Nat) (a:∀x,abl (f x)=sz):∀(l:List α) (k:Nat),(l.flatMap f).take (k*sz)=(l.take k).flatMap f
 |[],_=>by simp
 |_::_,0=>by simp
 |x::l,k+1=>by
  rw [abT,List.take_succ_cons,abT,aeO,abP (by rw [a,adj];omega),a,←Ws f sz a l k]
  congr 2
  rw [adj];omega
theorem Wt (f:α→List Value) (sz:Nat) (a:∀x,abl (f x)=sz):∀(l:List α) (k:Nat),(l.flatMap f).drop (k*sz)=(l.drop k).flatMap f
 |[],_=>by simp
 |_::_,0=>by simp
 |x::l,k+1=>by
  rw [abT,List.drop_succ_cons,aeP,acp (by rw [a,adj];omega),a,←Wt f sz a l k,ac4]
  congr 1
  rw [adj];omega
theorem Rd.zkc {f:α→List Value} {sz:Nat} (a:∀x,abl (f x)=sz) {w:World} {B k c:Nat} {A:Option Addr} {l:List α} (h:Rd w B sz A (abl l) (l.flatMap f)) (hk:k≤abl l) (hc:abl l≤c):Rd w B sz (if c=k then A else A.map (·.add (k*sz))) (abl (l.drop k)) ((l.drop k).flatMap f):=by
 have h1:=h.from hk hc
 rwa [Wt f sz a,←abN] at h1
theorem xH {l:List α} (d:α) (h:k<abl l):l.take (k+1)=l.take k++[l.getD k d]:=by simp_all
section
variable {P:Program} {Q:Exit→Act→World→Prop} {a:Act} {W w:World} {n d:Nat} {D:List Deferred} {σ:List (Nat×Value)} {o:Oper} {K:Act→World→Prop} {fs:List Fact} {S:World→Prop}
theorem Yl.cap (b:o.op= .call {callee:= .builtin .cap,args:= #[x],argTypes:= #[t]}) (f:look σ x=some (.slice A m c)) (ht:mQ P t=true):Yl P S σ o (.int .i64 (c:Int)):=λa n D Z w h=>by
 unfold mQ at ht
 split at ht
 ·rename_i e g
  unfold execOp
  simp [b,resolve,invoke,builtin,Z.eval f,Builtin.cap_,run_underlying g,goInt]
 ·cases ht
def qno (Z:Fr a n D σ) (y:Mem W w fs) {s x:Operand} {t tn e:TypeId} {z:Value} {size bytes m:Nat} {kn k:IntKind} (h:o.op= .call {callee:= .builtin .append,args:= #[s,x],argTypes:= #[t,tn]}) (c:EI P t e z size bytes) (j:P.underlying tn=some (.int kn))
  (hs:look σ s=some (.slice none 0 0)) (A:look σ x=some (.int k (m:Int))) (h0:0<m) (h63:m≤4611686018427387904) (hb:m*bytes≤281474976710656)
  (B:o.dst=some d) (l:d<n) (C:∀u v g p,Fr u n D ((d,.slice (some ⟨g,0,none⟩) m p)::σ)→Mem W v (.row (.slice (some ⟨g,0,none⟩) m p) m (Builtin.zeroCells z.cells m).toList e size::fs)→m≤p→K u v):o.wp P a w K Q:=by
 obtain ⟨i,hi,hz,q,r⟩:=info_parts c.hi
 have E:=Lib.run_append_nil_zeros (P:=P) w t tn o.type e i z k kn c.ht j hi hz m h0 (by rw [q];exact c.hs) om (by rw [r];exact hb)
 have h1:m≤grownCap w m 0 e:=grownCap_ge w m 0 e
 have h2:grownCap w m 0 e≤maxLen:=grownCap_le_maxLen w m 0 e (by unfold maxLen;omega)
 have b:(abY z.cells m).size=m*size:=by rw [size_zeroCells,c.hz]
 have f:(w.drew.alloc (.cells (abY z.cells m++abY z.cells (grownCap w m 0 e-m)) e)).ownsRow w.heap.size e size (.slice (some ⟨w.heap.size,0,none⟩) m (grownCap w m 0 e)) m (abY z.cells m).toList:=by
  refine ⟨by simpa using b,.inr ⟨w.heap.size,_,_,rfl,abq _,adM w.drew _,h1,h2,?_,?_⟩⟩
  ·rw [aez,b,size_zeroCells,c.hz,←adY]
   congr 1
   omega
  ·rw [afN,←b,←acv]
   exact adG
 unfold acR execOp
 simp only [h,resolve,invoke,builtin,abL,abR,abx,acT,acS,ade,Z.eval hs,Z.eval A,E]
 rw [aco,B]
 exact C _ _ w.heap.size _ (Z.put l _) (y.bL ((adI _ _).drew.alloc (by simp) _) f) h1
theorem Mem.shrink (h:Mem W w fs) {i m k c size:Nat} {A:Option Addr} {e:TypeId} {xs:List Value} (hi:fs[i]?=some (.row (.slice A m c) m xs e size)) (hk:k≤m) (j:A=none→k=0∧c=0):Mem W w (fs.set i (.row (.slice A k c) k (xs.take (k*size)) e size)):=by
 have f:=h.own hi
 refine h.turn hi h.below (λ_ _ _=>rfl) ?_ (λl b=> .inl (by cases A<;>exact b))
 refine ⟨by rw [abr,f.1];exact adb (acD _ hk),?_⟩
 rcases f.2 with ⟨h1,h2⟩|⟨g,cap,cur,h1,h2,h3,h4,h5,h6,h7⟩
 ·injection h1 with h1 _ _
  obtain ⟨rfl,rfl⟩:=j h1
  subst h1
  exact .inl ⟨rfl,rfl⟩
 ·injection h1 with h1 _ h8
  subst h1;subst h8
  refine .inr ⟨g,c,cur,rfl,h2,h3,by omega,h5,h6,?_⟩
  rw [←h7,List.take_take,adb (acD _ hk)]
end
theorem UD (hm:m<2^j):m|||n*2^j=m+n*2^j:=by grind [aeu,Nat.mul_comm,Nat.two_pow_add_eq_or_of_lt]
theorem Na {m n j p:Nat} (b:2^j=p) (hm:m<p) (hb:m+n*p<4294967296):abQ .u32 (Go.IntKind.u32.wrap (abW Go.IntKind.u32.bits (m:Int)|||abW Go.IntKind.u32.bits ((n*p:Nat):Int)).toNat)= .int .u32 ((m+n*p:Nat):Int):=by
 subst b
 have h:=zhy (m:=m) (n:=n*2^j) om om
 rw [UD hm] at h
 exact h
theorem q7p {m n j p:Nat} (b:2^j=p) (hm:n<p) (hb:m*p+n<9223372036854775808):abQ .i64 (Go.IntKind.i64.wrap (abW Go.IntKind.i64.bits ((m*p:Nat):Int)|||abW Go.IntKind.i64.bits (n:Int)).toNat)= .int .i64 ((m*p+n:Nat):Int):=by
 subst b
 have h:=zhz (m:=m*2^j) (n:=n) om om
 rw [Nat.or_comm,UD hm,aeu] at h
 exact h
structure Part where
 A:Option Addr
 c:Nat
 l:List Nat
def aay (p:Part):Value:= .slice p.A (abl p.l) p.c
theorem Es {l:List Part} {d:Part} (h:k<abl l):(l.take (k+1)).flatMap (·.l)=(l.take k).flatMap (·.l)++(l.getD k d).l:=by
 rw [adP,getD_at d h];simp
theorem Et {l:List Part} (k:Nat):abl ((l.take k).flatMap (·.l))≤abl (l.flatMap (·.l)):=by grind [abn,ab9]
def qB (n:Nat):List Nat:=[n%256,n/256%256,n/65536%256,n/16777216%256]
def bA (l:List Nat):List Nat:=l++qB (zm l)
def jU (l:List Nat):Nat:=l.getD 0 0+256*l.getD 1 0+65536*l.getD 2 0+16777216*l.getD 3 0
def zl (l:List Nat):Bool:=decide (4≤abl l∧zm (l.take (abl l-4))=jU (l.drop (abl l-4)))
theorem Nj (k:Nat) (h:k<16):rU.getD k 0<4294967296:=by
 have:∀k,k<16→rU.getD k 0<4294967296:=by decide
 exact this k h
def Is (w:World) (v:Value) (r:Ending) (a:World):Prop:=r= .returned v∧Below w.heap.size w a
def qU (w:World) (R:List Nat) (r:Ending) (a:World):Prop:=
 (∃A c,r= .returned (.slice A (abl R) c)∧a.ownsRow w.heap.size 5 1 (.slice A (abl R) c) (abl R) (R.map B8)∧abl R≤c)∧Below w.heap.size w a
theorem qU.as {R R':List Nat} {r:Ending} (h:qU w R r W) (e:R=R'):qU w R' r W:=e▸h
def qpw {R xs:List Nat} (a:W.ownsRow w.heap.size 5 1 (.slice A n c) n (xs.map B8)) (hc:n≤c) (b:n=abl R) (d:xs=R) (hb:Below w.heap.size w W):qU w R (.returned (.slice A n c)) W:=by
 subst d;subst b
 exact ⟨⟨A,c,rfl,a,hc⟩,hb⟩
theorem qsm (c:Nat) (l:List Nat) (x:Nat):zf c (l++[x])=CU (zf c l) x:=by unfold zf;rw [aga];rfl
theorem qsn (h:k<abl l):zf c (l.take (k+1))=CU (zf c (l.take k)) (l.getD k 0):=by
 rw [adP,getD_at 0 h];exact qsm _ _ _
theorem tQ (h:∀b∈l,b<m) (k:Nat):∀b∈l.take k,b<m:=λb a=>h b (List.mem_of_mem_take a)
theorem wH (h:∀b∈l,b<m) (k:Nat):∀b∈l.drop k,b<m:=λb a=>h b (abZ a)
def zh0 (h:c<4294967296):qA c<4294967296:=Ez om (Nj _ om)
def UL (l:List Nat):zm l<4294967296:=by unfold zm;omega
def UM (n:Nat):∀b∈qB n,b<256:=by intro b a;simp [qB] at a;omega
theorem Nk (n:Nat):abl (qB n)=4:=rfl
theorem tT (l:List Nat):abl (bA l)=abl l+4:=by unfold bA;rw [abn,Nk]
def Nl (a:∀b∈l,b<256):∀b∈bA l,b<256:=by
 intro b c
 rcases ab5.1 c with h|h
 ·exact a b h
 ·exact UM _ b h
theorem q7t:∀{l:List Nat},(∀x∈l,x<256)→4≤abl l→qB (jU l)=l.take 4
 |a::b::c::d::r,e,_=>by
  have f:=e a (by simp)
  have g:=e b (by simp)
  have hc:=e c (by simp)
  have i:=e d (by simp)
  simp [qB,jU]
  omega
 |[],_,h=>by simp at h
 |[_],_,h=>by simp at h
 |[_,_],_,h=>by simp at h
 |[_,_,_],_,h=>by simp at h
def q7u (h:n<4294967296) (r:List Nat):jU (qB n++r)=n:=by simp [jU,qB];omega
theorem q7v (a:∀x∈l,x<256) (h:4≤abl l):qB (jU (l.drop (abl l-4)))=l.drop (abl l-4):=by grind [wH,q7t,abN,abP]
theorem UN (a:∀x∈l,x<256) (h:zl l=true):bA (l.take (abl l-4))=l:=by simp_all [q7v,bA,zl]
def qsq:zl (bA l)=true:=by
 have a:zm l<4294967296:=UL l
 have e:abl (bA l)-4=abl l:=by rw [tT];omega
 unfold zl
 rw [decide_eq_true_eq,e]
 unfold bA
 refine ⟨by rw [abn,Nk];omega,?_⟩
 rw [adG,agw]
 have:=q7u a []
 rw [abU] at this
 exact this.symm
def xq (x:Nat):∀b∈au x,b<256:=by
 intro b a
 unfold au at a
 obtain ⟨p,c,rfl⟩:=ab6.1 a
 have:=TH 10 x p c
 unfold bn
 split<;>omega
theorem zd4 {m:List Nat} (a:∀b∈l,b<256) (hm:∀b∈m,b<256):((jF l).toList==(jF m).toList)=decide (l=m):=by
 rw [ace,beq_iff_eq,decide_eq_true_eq]
 constructor
 ·intro h
  refine q7g a hm ?_
  rw [aff,aff] at h
  cases hx:jF l;cases hy:jF m
  rw [hx,hy] at h
  simpa using h
 ·rintro rfl;rfl
set_option linter.all false
def N8 (P:Program) (t:TypeId):Bool:=match P.underlying t with
 |some (.array n e)=>n==2&& (P.cellsOf e==1&& (fQ P e&&match P.underlying e with
  |some (.int _)=>true
  |_=>false))
 |_=>false
theorem q8m (ht:N8 P t=true) {k:acf} (a b c d:Int) (w:World):
  (ac9 t (.agg #[.int k a,.int k b]) (.agg #[.int k c,.int k d])).run P w= .ok (a==c&&b==d) w:=by
 unfold N8 at ht
 split at ht
 ·rename_i n e q
  simp only [abF,beq_iff_eq] at ht
  obtain ⟨h1,h2,h3,h4⟩:=ht
  subst h1
  split at h4
  ·rename_i r g
   obtain ⟨i,hi⟩:=info_of_underlying g
   show (acJ (9999+1) t _ _).run P w=_
   rw [run_equalIn_array w 9999 _ _ q hi,h2]
   have f:∀(xs:Array Value) (j:Nat) (v:Value),xs[j]?=some v→(part e xs j).run P w= .ok v w:=λxs j v h=>by
    unfold part
    simp [J3 h3,h]
   have l:∀x y,(acJ 9999 e (.int k x) (.int k y)).run P w= .ok (x==y) w:=λx y=>run_equalIn_int w 9998 e k r x y g
   show (Op.eqItems 9999 e 1 _ _ [0,1]).run P w=_
   have s:(part e #[.int k a,.int k b] 0).run P w= .ok (.int k a) w:=f _ _ _ rfl
   have u:(part e #[.int k c,.int k d] 0).run P w= .ok (.int k c) w:=f _ _ _ rfl
   have z:(part e #[.int k a,.int k b] 1).run P w= .ok (.int k b) w:=f _ _ _ rfl
   have A:(part e #[.int k c,.int k d] 1).run P w= .ok (.int k d) w:=f _ _ _ rfl
   have m:=l a c
   have p:=l b d
   generalize (9999:Nat)=dd at m p⊢
   simp only [Op.eqItems,abL,afC,agS,s,u,m,abx]
   cases h5:(a==c)<;>cases h6:(b==d)<;>simp [z,A,p,h6]
  ·cases h4
 ·cases ht
section
variable {P:Program} {S:World→Prop} {σ:List (Nat×Value)} {o:Oper}
theorem qqa (c:P.eqGuardType P.depth t=false) (op:BinOp) (x y:Operand) (a b:Array Value) (w:World):(eqGuard op t x y (.agg a) (.agg b)).run P w= .ok () w:=by
 unfold eqGuard
 cases op<;>simp<;>simp [c]
theorem aa3 {q:Operand} {k:acf} {a b c d:Int} (f:o.op= .binOp .neq t p q u) (g:look σ p=some (.agg #[.int k a,.int k b])) (hy:look σ q=some (.agg #[.int k c,.int k d])) (ht:N8 P t=true) (h:P.eqGuardType P.depth t=false):Yl P S σ o (.bool (!(a==c&&b==d))):=λi n D Z w j=>by
 unfold execOp
 have e:(binOp .neq t (.agg #[.int k a,.int k b]) (.agg #[.int k c,.int k d])).run P w= .ok (.bool (!(a==c&&b==d))) w:=by
  show ((do ad8 (.bool (!(←ac9 t (.agg #[.int k a,.int k b]) (.agg #[.int k c,.int k d])))):Sem Value)).run P w=_
  simp [q8m ht]
 simp only [f,Z.eval g,Z.eval hy,abL,qqa h,abx,e,abR]
end
theorem zh7 {o:Nat} (h:Rd w B 1 (some ⟨g,o,none⟩) n (l.map B8)) (hk:k+2≤abl l):w.rangeAt g (o+k) (#[B8 (l.getD k 0),B8 (l.getD (k+1) 0)]:Array Value).toList:=λj v a=>by
 have b:=h.range
 rw [agG]
 refine b (k+j) v ?_
 rcases j with _|_|j
 ·simp at a
  rw [acF,←a]
  exact xg (getD_at 0 om)
 ·simp at a
  rw [←a]
  exact xg (getD_at 0 om)
 ·simp at a
section
variable {P:Program} {S:World→Prop} {σ:List (Nat×Value)} {o:Oper}
theorem aat {k:acf} (b:o.op= .binOp .rem t x y u) (c:look σ x=some (.int k (m:Int))) (hy:look σ y=some (.int k (n:Int))) (e:0<n):Yl P S σ o (.int k ((m%n:Nat):Int)):=λa N D Z w f=>by
 have d:rM .rem (.int k (m:Int)) (.int k (n:Int))=some (.int k ((m%n:Nat):Int)):=by
  show (if k=k then CF .rem k (m:Int) (n:Int) else none)=_
  rw [if_pos rfl]
  show (if (n:Int)=0 then none else some (abQ k ((m:Int).tmod (n:Int))))=_
  rw [if_neg om]
  exact congrArg some (za k m n)
 unfold execOp
 simp [b,Z.eval c,Z.eval hy,wm (P:=P) .rem t x y (a:= .int k (m:Int)) rfl,Ed d t]
def abf {k:acf} (b:o.op= .binOp .quo t x y u) (c:look σ x=some (.int k (m:Int))) (hy:look σ y=some (.int k (n:Int))) (e:0<n) (hm:m≤j6 k):Yl P S σ o (.int k ((m/n:Nat):Int)):=λa N D Z w f=>by
 have d:rM .quo (.int k (m:Int)) (.int k (n:Int))=some (.int k ((m/n:Nat):Int)):=by
  show (if k=k then CF .quo k (m:Int) (n:Int) else none)=_
  rw [if_pos rfl]
  show (if (n:Int)=0 then none else some (abQ k (k.wrap ((m:Int).tdiv (n:Int)))))=_
  rw [if_neg om]
  exact congrArg some (q7o k n hm)
 unfold execOp
 simp [b,Z.eval c,Z.eval hy,wm (P:=P) .quo t x y (a:= .int k (m:Int)) rfl,Ed d t]
theorem aao {k c:acf} (b:o.op= .binOp .shr t x y u) (d:look σ x=some (.int k (m:Int))) (hy:look σ y=some (.int c (n:Int))) (e:n≤k.bits):Yl P S σ o (.int k ((m/2^n:Nat):Int)):=λa N D Z w g=>by
 have f:rM .shr (.int k (m:Int)) (.int c (n:Int))=some (.int k ((m/2^n:Nat):Int)):=by
  show (if (n:Int)<0 then none else some (abQ k (Int.fdiv (m:Int) (2^ (agP (n:Int).toNat k.bits)))))=_
  rw [if_neg om]
  exact congrArg some (sN k m (j:=n) rfl (by rw [abG,adb e]))
 unfold execOp
 simp [b,Z.eval d,Z.eval hy,wm (P:=P) .shr t x y (a:= .int k (m:Int)) rfl,Ed f t]
theorem aax {k c:acf} (b:o.op= .binOp .shl t x y u) (d:look σ x=some (.int k (m:Int))) (hy:look σ y=some (.int c (n:Int))) (f:n≤k.bits) (hm:m*2^n≤j6 k):Yl P S σ o (.int k ((m*2^n:Nat):Int)):=λa N D Z w h=>by
 have g:rM .shl (.int k (m:Int)) (.int c (n:Int))=some (.int k ((m*2^n:Nat):Int)):=by
  show (if (n:Int)<0 then none else some (abQ k (k.wrap ((m:Int)*2^ (agP (n:Int).toNat k.bits)))))=_
  rw [if_neg om]
  have e:(m:Int)*2^ (agP (n:Int).toNat k.bits)=((m*2^n:Nat):Int):=by rw [abG,adb f];norm_cast
  rw [e,wD k hm]
 unfold execOp
 simp [b,Z.eval d,Z.eval hy,wm (P:=P) .shl t x y (a:= .int k (m:Int)) rfl,Ed g t]
end
section
variable {P:Program} {S:World→Prop} {σ:List (Nat×Value)} {o:Oper} {v:Value}
def Nn (P:Program) (t:TypeId):Bool:=match P.underlying t with
 |some (.pointer _)=>true
 |_=>false
theorem q1m {a:Option Addr} (ht:Nn P t=true) (w:World):(ac9 t (.pointer a) (.pointer none)).run P w= .ok a.isNone w:=by
 unfold Nn at ht
 split at ht
 ·rename_i c
  show (acJ (9999+1) t (.pointer a) (.pointer none)).run P w=_
  unfold acJ
  cases a<;>simp only [abL,run_underlying c,abx]<;>rfl
 ·cases ht
theorem q7y {a:Option Addr} {m':Nat} (ht:mQ P t=true) (w:World):(ac9 t (.slice a m c) (.slice none m' g)).run P w= .ok a.isNone w:=by
 unfold mQ at ht
 split at ht
 ·rename_i d
  show (acJ (9999+1) t (.slice a m c) (.slice none m' g)).run P w=_
  unfold acJ
  cases a<;>simp only [abL,run_underlying d,abx]<;>rfl
 ·cases ht
def aaC {b:Bool} {a:Option Addr} (c:o.op= .binOp .eql t x y u) (d:look σ x=some (.pointer a)) (hy:look σ y=some (.pointer none)) (hb:a.isNone=b:=by rfl) (ht:Nn P t=true:=by kernel_rfl):Yl P S σ o (.bool b):=λ_ n D Z w f=>by
 subst hb
 unfold execOp
 have e:(binOp .eql t (.pointer a) (.pointer none)).run P w= .ok (.bool a.isNone) w:=by
  show ((do ad8 (.bool (←ac9 t (.pointer a) (.pointer none))):Sem Value)).run P w=_
  simp [q1m ht]
 simp only [c,Z.eval d,Z.eval hy,abL,wm (P:=P) .eql t x y (a:= .pointer a) rfl,abx,e,abR]
def aas {b:Bool} {a:Option Addr} {m':Nat} (d:o.op= .binOp .eql t x y u) (f:look σ x=some (.slice a m c)) (hy:look σ y=some (.slice none m' g)) (hb:a.isNone=b:=by rfl) (ht:mQ P t=true:=by kernel_rfl):Yl P S σ o (.bool b):=λ_ n D Z w h=>by
 subst hb
 unfold execOp
 have e:(binOp .eql t (.slice a m c) (.slice none m' g)).run P w= .ok (.bool a.isNone) w:=by
  show ((do ad8 (.bool (←ac9 t (.slice a m c) (.slice none m' g))):Sem Value)).run P w=_
  simp [q7y ht]
 simp only [d,Z.eval f,Z.eval hy,abL,wm (P:=P) .eql t x y (a:= .slice a m c) rfl,abx,e,abR]
theorem Yl.nilCheck {p:Addr} (a:o.op= .nilCheck x) (c:look σ x=some (.pointer (some p))):Yl P S σ o (.pointer (some p)):=λ_ n D Z w d=>by
 unfold execOp
 simp only [a,Z.eval c]
 rfl
end
def oI (P:Program) (t:TypeId) (a:Array Value) (off:Nat):Option Value:=
 match P.underlying t,P.info? t with
 |some (.struct _),some i=>some (.agg (a.extract off (off+i.size)))
 |some (.int _),_=>a[off]?
 |some .bool,_=>a[off]?
 |some .string,_=>a[off]?
 |_,_=>none
def AJ (P:Program) (eq:TypeId→Value→Value→Option Bool) (xs ys:Array Value):List Field→Option Bool
 |[]=>some true
 | f :: c => if f.name = "_" then none else
  match oI P f.type xs f.offset,oI P f.type ys f.offset with
  |some a,some b=>match eq f.type a b,AJ P eq xs ys c with
   |some r,some s=>some (r&&s)
   |_,_=>none
  |_,_=>none
def oJ (P:Program):Nat→TypeId→Value→Value→Option Bool
 |0,_,_,_=>none
 |d+1,t,x,y=>match P.underlying t,x,y with
  |some (.int _),.int k a,.int c b=>if k=c then some (a==b) else none
  |some .bool,.bool a,.bool b=>some (a==b)
  |some .string,.string a,.string b=>some (a.toList==b.toList)
  |some (.struct e),.agg xs,.agg f=>if P.stoodInHeld t then none else AJ P (oJ P d) xs f e.toList
  |_,_,_=>none
theorem Nq {off:Nat} {v:Value} (h:oI P t C off=some v) (w:World):(part t C off).run P w= .ok v w:=by
 unfold oI at h
 split at h
 ·rename_i c i a hi
  injection h with h;subst h
  simp [part,isAgg,run_underlying a,sizeOf,typeInfo,hi]
 ·rename_i k _ a
  simp [part,isAgg,run_underlying a,h]
 ·rename_i _ a
  simp [part,isAgg,run_underlying a,h]
 ·rename_i _ a
  simp [part,isAgg,run_underlying a,h]
 ·cases h
theorem UR (c:∀(t:TypeId) (x y:Value) (b:Bool),oJ P d t x y=some b→∀w,(acJ d t x y).run P w= .ok b w) {xs ys:Array Value}:∀(a:List Field) (b:Bool),AJ P (oJ P d) xs ys a=some b→∀w,(Op.eqFields d xs ys a).run P w= .ok b w
 |[],b,h,w=>by
  injection h with h;subst h;rfl
 | f :: a, b, h, w => by
  unfold AJ at h
  split at h
  ·cases h
  ·rename_i e
   split at h
   ·rename_i p q g i
    split at h
    ·rename_i r s j hs
     injection h with h;subst h
     unfold Op.eqFields
     rw [if_pos e]
     simp only [abL,Nq g,Nq i,c _ _ _ _ j,abx]
     cases r
     ·simp
     ·simp [UR c a s hs w]
    ·cases h
   ·cases h
def UU:∀(d:Nat) (t:TypeId) (x y:Value) (b:Bool),oJ P d t x y=some b→∀w,(acJ d t x y).run P w= .ok b w
 |0,_,_,_,_,h,_=>by cases h
 | d + 1, t, x, y, b, h, w => by
  unfold oJ at h
  split at h
  ·rename_i l k a m e c
   split at h
   ·rename_i g;subst g;injection h with h;subst h;exact run_equalIn_int w d t _ _ _ _ c
   ·cases h
  ·rename_i a e c;injection h with h;subst h;exact run_equalIn_bool' w d t _ _ c
  ·rename_i a e c;injection h with h;subst h;exact run_equalIn_string w d t _ _ c
  ·rename_i i xs j c
   split at h
   ·cases h
   ·rename_i hs
    have f:P.fieldsOf t=i:=by unfold Program.fieldsOf;rw [c]
    rw [run_equalIn_struct w d t xs j (by rw [c,f]) (by simpa using hs),f]
    exact UR (UU d) _ _ h w
  ·cases h
theorem UW:∀(d:Nat) (t:TypeId) (x y:Value) (b:Bool),oJ P d t x y=some b→oJ P (d+1) t x y=some b
 |0,_,_,_,_,h=>by cases h
 | d + 1, t, x, y, b, h => by
  have g : ∀ (c : List Field) (xs e : Array Value) (b : Bool), AJ P (oJ P d) xs e c = some b → AJ P (oJ P (d + 1)) xs e c = some b := by
   intro c
   induction c with
   |nil=>intro xs e b h;exact h
   | cons f c i =>
    intro xs e b h
    unfold AJ at h⊢
    split at h
    ·cases h
    ·rename_i j
     rw [if_neg j]
     split at h
     ·rename_i p q l m
      split at h
      ·rename_i r s k hs
       injection h with h;subst h
       simp only [UW d _ _ _ _ k,i _ _ _ hs]
      ·cases h
     ·cases h
  unfold oJ at h⊢
  split at h
  ·rename_i a;(try simp only [a]);exact h
  ·rename_i a;(try simp only [a]);exact h
  ·rename_i a;(try simp only [a]);exact h
  ·rename_i c xs e a
   (try simp only [a])
   split at h
   ·cases h
   ·rename_i hs
    rw [if_neg hs]
    exact g _ _ _ _ h
  ·cases h
def UY {x y:Value} {b:Bool} (h:oJ P d t x y=some b):∀k,oJ P (d+k) t x y=some b
 |0=>h
 |k+1=>UW _ _ _ _ _ (UY h k)
section
variable {P:Program} {S:World→Prop} {σ:List (Nat×Value)} {o:Oper} {b:Bool}
theorem qsr {xs:Array Value} (h:oJ P d t (.agg xs) (.agg ys)=some b) (a:d≤10000) (w:World):(ac9 t (.agg xs) (.agg ys)).run P w= .ok b w:=by
 unfold ac9
 have h2:=UY h (10000-d)
 rw [show d+(10000-d)=10000 by omega] at h2
 exact UU _ _ _ _ _ h2 w
theorem qss (hm:P.eqGuardType P.depth t=false) (op:BinOp) (x y:Operand) (a c:Array Value) (w:World):(eqGuard op t x y (.agg a) (.agg c)).run P w= .ok () w:=run_eqGuard_agg w op t x y a c hm
def aaN {q:Operand} {xs:Array Value} (c:o.op= .binOp .neq t p q u) (f:look σ p=some (.agg xs)) (hy:look σ q=some (.agg ys)) (h:oJ P d t (.agg xs) (.agg ys)=some b) (g:d≤10000:=by decide) (hm:P.eqGuardType P.depth t=false:=by kernel_rfl):Yl P S σ o (.bool !b):=λa n D Z w i=>by
 unfold execOp
 have e:(binOp .neq t (.agg xs) (.agg ys)).run P w= .ok (.bool !b) w:=by
  show ((do ad8 (.bool (!(←ac9 t (.agg xs) (.agg ys)))):Sem Value)).run P w=_
  simp [qsr h g]
 simp only [c,Z.eval f,Z.eval hy,abL,qss hm,abx,e,abR]
end
def KM (P:Program) (t:TypeId) (n sz:Nat):Bool:=match P.underlying t with
 |some (.array m e)=>m==n&& (match P.info? e with|some i=>i.size==sz|none=>false)
 |_=>false
def Xi {sz:Nat} (h:KM P t n sz=true):∃e i,P.underlying t=some (.array n e)∧P.info? e=some i∧i.size=sz:=by grind [KM]
def Xj (P:Program) (t:TypeId) (sz:Nat) (vs:List (Nat×Value)):Option (Array Value):=match wz P t with
 |some a=>aes (λi=>some (i*sz,sz)) a vs
 |none=>none
section
variable {P:Program} {S:World→Prop} {σ:List (Nat×Value)} {o:Oper} {t:TypeId} {n sz:Nat}
def aaJ {ad:Addr} (b:o.op= .slice t x none none none) (g:look σ x=some (.pointer (some ad))) (ht:KM P t n sz=true) (h:(n==0)=false:=by decide):Yl P S σ o (.slice (some ad) n n):=λa N D Z w j=>by
 obtain ⟨e,i,c,hi,_⟩:=Xi ht
 have d:P.arrayLen t=n:=by unfold Program.arrayLen;rw [c]
 have f:P.elem t=e:=by unfold Program.elem;rw [c]
 have e1:(adg t (.pointer (some ad)) none none none).run P w= .ok (.slice (some ad) n n) w:=by
  rw [run_sliceAt_array_all w t ad (by rw [d,f];exact c),f,d]
  have h0:n≠0:=by simpa using h
  simp [sizeOf,typeInfo,hi,slicedAt,h0,Addr.add]
 unfold execOp
 simp only [b,Z.eval g,aed,abL,abR,e1,abx]
theorem aaq {vs:List (Nat×Value)} (c:o.op= .build t ps) (j:wB σ ps.toList=some vs) (k:KM P t n sz=true) (hb:Xj P t sz vs=some C):Yl P S σ o (.agg C):=λa N D Z w q=>by
 have d:=M0 Z j
 obtain ⟨e,r,l,m,f⟩:=Xi k
 obtain ⟨b,hz,hb⟩:∃b,wz P t=some b∧aes (λi=>some (i*sz,sz)) b vs=some C:=by
  unfold Xj at hb
  split at hb
  ·rename_i b hz;exact ⟨b,hz,hb⟩
  ·cases hb
 unfold wz at hz
 obtain ⟨s,g,rfl⟩:=ady.1 hz
 obtain ⟨i,hi,h⟩:=adv.1 g
 have e1:(adW t (ps.map λp=>(p.1,a.eval p.2))).run P w= .ok (.agg C) w:=by
  rw [d]
  unfold adW
  subst f
  simp only [abL,zeroValue,sizeOf,typeInfo,program,ae4,hi,m,h,abR,abx,run_underlying l]
  rw [hb];rfl
 unfold execOp
 simp only [c,abL,abR]
 show ((adW t (ps.map λp=>(p.1,a.eval p.2))).run P w).andThen _=_
 rw [e1]
 rfl
end
theorem Mem.Fg (h:Mem W w fs) {i g:Nat} {C ds:Array Value} {t:TypeId} (hi:fs[i]?=some (.blk g C t)) (a:C=ds):Mem W w (fs.set i (.blk g ds t)):=by grind [abv,adE]
def zc9 (P:Program) (t:TypeId) (a:Array Value) (i:Nat):Option Value:=
 match P.underlying t with
 |some (.struct b)=>match b[i]? with
  |some f=>oI P f.type a f.offset
  |none=>none
 |_=>none
section
variable {P:Program} {S:World→Prop} {σ:List (Nat×Value)} {o:Oper} {v:Value}
theorem Yl.field {xs:Array Value} (b:o.op= .field t p i) (c:look σ p=some (.agg xs)) (h:zc9 P t xs i=some v):Yl P S σ o v:=λa n D Z w g=>by
 unfold execOp
 unfold zc9 at h
 split at h
 ·rename_i j d
  split at h
  ·rename_i f e
   simp [b,Z.eval c,Instr.field,run_underlying d,e,asAgg,Nq h]
  ·cases h
 ·cases h
end
section
variable {P:Program} {ops:Array Oper} {Q:Exit→Act→World→Prop} {a:Act} {W w:World} {n i j d fuel:Nat} {D:List Deferred} {σ σ':List (Nat×Value)} {o:Oper} {v:Value} {md:Region.Mode} {S:World→Prop} {K:Act→World→Prop} {listed:Array Bool} {fs fs':List Fact} {ex:List Nat}
theorem aad {F:α→Value} {l:List α} {of:Nat} (hr:Rd W W.heap.size 1 (some ⟨g,of,none⟩) m (l.map F)) (b:Nat) (e:α) (hk:b<l.length) (c:o.op= .load t x) (f:look σ x=some (.pointer (some ⟨g,of+b*1,none⟩))) (ht:fQ P t=true:=by kernel_rfl) (p:F (l.getD b e)=v:=by exact rfl):Yl P (λq=>Mem W q fs) σ o v:=by
 subst p
 exact Pd c f ht λ_ h=>(h.old hr).Er (k:=b) (xg (getD_at e hk))
theorem aae {F:α→Value} {l:List α} (j b:Nat) (k:α) (hk:b<l.length) (f:o.op= .load t x) (p:look σ x=some (.pointer (some ⟨g,b*1,none⟩))) (hi:fs[j]?=some (.row (.slice (some ⟨g,0,none⟩) m c) m (l.map F) e 1)) (ht:fQ P t=true:=by kernel_rfl) (q:F (l.getD b k)=v:=by exact rfl):Yl P (λr=>Mem W r fs) σ o v:=by
 subst q
 exact Pd f p ht λ_ h=>h.Un hi (xg (getD_at k hk))
def bt (n:Nat) (l:List Nat):Array Bool:=((acW n).map λi=> !l.contains i).toArray
def bf (n:Nat) (l:List Nat):Array Bool:=((acW n).map λi=>l.contains i).toArray
def jG (Z:Fr a n D σ) (g:S w) (i:Nat) (l:ops[i]?=some o) (hy:Yl P S σ o v) (k:∀f,Fr f n D ((d,v)::σ)→qj P md ops Q S ex fuel (listed.setIfInBounds i true) f w) (m:dF ops σ o=some true:=by exact rfl) (p:o.dst=some d:=by exact rfl)
  (b:d<n:=by decide) (e:rP md ops ex listed i=true:=by kernel_rfl) (q:∀c (a:Act) w,Q (.panic c) (a.put o.dst v) w→Q (.panic c) a w:=by intro _ _ _ h;exact h):qj P md ops Q S ex (fuel+1) listed a w:=CJ Z g l m p b e q hy k
def dO {off:Nat} (Z:Fr a n D σ) (p:Mem W w fs) (i j:Nat) (k:∀m,Fr m n D ((d,v)::σ)→qj P md ops Q (λb=>Mem W b fs) ex fuel (listed.setIfInBounds i true) m w) (q:ops[i]?=some o:=by exact rfl) (e:o.op= .load t x:=by exact rfl) (r:look σ x=some (.pointer (some ⟨g,off,none⟩)):=by exact rfl) (hi:fs[j]?=some (.blk g C tb):=by exact rfl) (s:C[off]?=some v:=by exact rfl) (u:dF ops σ o=some true:=by exact rfl) (y:o.dst=some d:=by exact rfl)
  (ht:fQ P t=true:=by kernel_rfl) (f:d<n:=by decide) (l:rP md ops ex listed i=true:=by kernel_rfl) (z:∀c (a:Act) w,Q (.panic c) (a.put o.dst v) w→Q (.panic c) a w:=by intro _ _ _ h;exact h):qj P md ops Q (λb=>Mem W b fs) ex (fuel+1) listed a w:=CJ Z p q u y f l z (Pd e r ht λ_ h=>h.cell hi s) k
def xw (Z:Fr a n D σ) (l:S w) (i:Nat) (k:∀g,Fr g n D ((d,.int .i64 (m:Int))::σ)→qj P md ops Q S ex fuel (listed.setIfInBounds i true) g w) (p:ops[i]?=some o:=by exact rfl) (b:o.op= .call {callee:= .builtin .len,args:= #[x],argTypes:= #[t]}:=by exact rfl) (q:look σ x=some (.slice A m c):=by exact rfl) (r:dF ops σ o=some true:=by exact rfl) (s:o.dst=some d:=by exact rfl)
  (ht:mQ P t=true:=by kernel_rfl) (e:d<n:=by decide) (f:rP md ops ex listed i=true:=by kernel_rfl) (u:∀c (a:Act) w,Q (.panic c) (a.put o.dst (.int .i64 (m:Int))) w→Q (.panic c) a w:=by intro _ _ _ h;exact h):qj P md ops Q S ex (fuel+1) listed a w:=CJ Z l p r s e f u (Yl.len b q ht) k
def AL {p:Addr} (Z:Fr a n D σ) (l:dG ex listed=false→S w) (i:Nat) (k:∀g,Fr g n D ((d,.pointer (some p))::σ)→qj P md ops Q S ex fuel (listed.setIfInBounds i true) g w) (m:ops[i]?=some o:=by exact rfl) (b:o.op= .nilCheck x:=by exact rfl) (q:look σ x=some (.pointer (some p)):=by exact rfl) (r:dF ops σ o=some true:=by exact rfl) (s:o.dst=some d:=by exact rfl)
  (e:d<n:=by decide) (f:oq md ops ex listed i=true:=by kernel_rfl) (t:∀c (a:Act) w,Q (.panic c) (a.put o.dst (.pointer (some p))) w→Q (.panic c) a w:=by intro _ _ _ h;exact h):qj P md ops Q S ex (fuel+1) listed a w:=rQ Z l m r s e f t (λ_=>Yl.nilCheck b q) k
def nR {p:Addr} (Z:Fr a n D σ) (l:S w) (i:Nat) (k:∀g,Fr g n D ((d,.pointer (some p))::σ)→qj P md ops Q S ex fuel (listed.setIfInBounds i true) g w) (m:ops[i]?=some o:=by exact rfl) (b:o.op= .nilCheck x:=by exact rfl) (q:look σ x=some (.pointer (some p)):=by exact rfl) (r:dF ops σ o=some true:=by exact rfl) (s:o.dst=some d:=by exact rfl)
  (e:d<n:=by decide) (f:rP md ops ex listed i=true:=by kernel_rfl) (t:∀c (a:Act) w,Q (.panic c) (a.put o.dst (.pointer (some p))) w→Q (.panic c) a w:=by intro _ _ _ h;exact h):qj P md ops Q S ex (fuel+1) listed a w:=CJ Z l m r s e f t (Yl.nilCheck b q) k
def s_on (Z:Fr a n D σ) (i:Nat) (c:ops[i]?=some o) (h:o.wp P a w (λe b=>(dG ex (listed.setIfInBounds i true)=false→S b)∧qj P md ops Q S ex fuel (listed.setIfInBounds i true) e b) Q) (hr:Region.ready md ops listed=[i]:=by kernel_rfl) (f:dF ops σ o=some true:=by exact rfl):qj P md ops Q S ex (fuel+1) listed a w:=zc [i] hr rfl (all_cons (qu Z c f h) all_nil)
def AO {xs:Array Operand} {ts:Array TypeId} {V:Option Addr→Nat→Value} {sz:Nat} {ys:List Value} (Z:Fr a n D σ) (p:Mem W w fs) (vs:List Value) (q:Calls P f vs.toArray w (λr b=>(∃A c,r= .returned (V A c)∧b.ownsRow w.heap.size e sz (.slice A m c) m ys∧m≤c)∧Below w.heap.size w b))
  (k:∀A c b,m≤c→Mem W b (.row (.slice A m c) m ys e sz::fs)→∀g,Fr g n D ((d,V A c)::σ)→K g b) (h:o.op= .call {callee:= .value (.func f),args:=xs,argTypes:=ts}:=by exact rfl) (s:o.dst=some d:=by exact rfl) (t:looks σ xs.toList=some vs:=by kernel_rfl) (u:callable P f=true:=by kernel_rfl) (l:d<n:=by decide):o.wp P a w K Q:=
 kL Z vs h s q (λe b ⟨⟨A,c,h1,h2,h3⟩,h4⟩=>⟨_,h1,λg Z=>k A c b h3 (p.bL h4 h2) g Z⟩) t u l
def EA {xs:Array Operand} {ts:Array TypeId} (Z:Fr a n D σ) (vs:List Value) (l:Calls P f vs.toArray w (λr b=>r= .returned v∧Mem W b fs')) (k:∀b,Mem W b fs'→∀h,Fr h n D ((d,v)::σ)→K h b) (c:o.op= .call {callee:= .value (.func f),args:=xs,argTypes:=ts}:=by exact rfl) (m:o.dst=some d:=by exact rfl) (p:looks σ xs.toList=some vs:=by kernel_rfl) (q:callable P f=true:=by kernel_rfl) (g:d<n:=by decide):o.wp P a w K Q:=
 kL Z vs c m l (λe b ⟨h1,h2⟩=>⟨_,h1,k b h2⟩) p q g
def qC {f:Nat} {fn:Func} {c:Code} (b:P.funcs[f]?=some fn) (vs:List Value) (σ0:List (Nat×Value)) (k:∀a,Fr a N [] σ0→c.wp P (bodyPost P fn R) a w) (hb:fn.body=some c:=by exact rfl) (e:fn.ntmps=N:=by exact rfl) (g:decide (vs.length≤N)=true:=by kernel_rfl) (h0:qc5 0 vs=σ0:=by exact rfl):Calls P f vs.toArray w R:=wZ b hb e g h0 k
theorem Mem.pk (h:Mem W w fs) (b:List Nat) (c:b.Nodup:=by decide) (e:Go.Proofs.YtekiimhdnigmcaaGreatDoor.picks fs b=fs':=by exact rfl):Mem W w fs':=h.picks b c e
theorem Mem.pt (h:Mem W w fs) (n:Nat) (b:List Nat) (e:b.Nodup:=by decide) (c:(b.all (· <n))=true:=by decide) (f:Go.Proofs.YtekiimhdnigmcaaGreatDoor.picks fs b++fs.drop n=fs':=by exact rfl):Mem W w fs':=h.Uo n b e c f
def gN (Z:Fr a n D σ) (m:Mem W w fs) {e:TypeId} (f:Array Value) (k:∀h l g,Fr h n D ((d,.pointer (some ⟨g,0,none⟩))::σ)→Mem W l (.blk g f e::fs)→K h l) (b:o.op= .alloc e:=by exact rfl) (hz:wz P e=some f:=by kernel_rfl) (p:o.dst=some d:=by exact rfl) (c:d<n:=by decide):o.wp P a w K Q:=MZ Z m b hz p c k
def fE (Z:Fr a n D σ) (e:Mem W w fs) (i:Nat) {t:TypeId} {x y:Operand} {g off:Nat} {C:Array Value} {tb:TypeId} (k:∀c,Mem W c (fs.set i (.blk g (C.setIfInBounds off v) tb))→K a c) (b:o.op= .store t x y:=by exact rfl) (f:o.dst=none:=by exact rfl) (h:look σ x=some (.pointer (some ⟨g,off,none⟩)):=by exact rfl) (hy:look σ y=some v:=by exact rfl) (hs:(P.info? t).map (·.size)=some 1:=by kernel_rfl) (l:v.oneCell'=true:=by exact rfl) (hi:fs[i]?=some (.blk g C tb):=by exact rfl) (m:off<C.size:=by simp):o.wp P a w K Q:=pQ Z e b f h hy hs l hi m k
def iT {t len e:Nat} {size bytes:Nat} (Z:Fr a n D σ) (m:Mem W w fs) (p:EI P t e z size bytes) (vs:List (Nat×Value)) (f:Array Value) (k:∀h l g,Fr h n D ((d,.slice (some ⟨g,0,none⟩) len len)::σ)→Mem W l (.blk g f e::fs)→K h l) (b:o.op= .buildSlice t len ps:=by exact rfl) (q:decide (0<len∧len*size≤16777216)=true:=by decide) (r:wB σ ps.toList=some vs:=by exact rfl)
  (s:Instr.fill (λi=>some (i*size,size)) (J4 z.cells (len*size)) vs=some f:=by kernel_rfl) (u:o.dst=some d:=by exact rfl) (c:d<n:=by decide):o.wp P a w K Q:=Uk Z m b p q r s u c k
section
variable {fn:Func} {R:Ending→World→Prop} {t1 t2 t3:Nat} {v1 v2 v3:Value}
def kX (hr:fn.results= #[.tmp t1]) (Z:Fr a n [] σ) (h1:σ.lookup t1=some v1) (b:R (.returned v1) w):bodyPost P fn R .ret a w:=iq hr Z (.tmp Z h1) b
def tV (hr:fn.results= #[.tmp t1,.tmp t2]) (Z:Fr a n [] σ) (h1:σ.lookup t1=some v1) (h2:σ.lookup t2=some v2) (b:R (.returned (.tuple #[v1,v2])) w):bodyPost P fn R .ret a w:=eZ hr Z (.tmp Z h1) (.tmp Z h2) b
end
end
section
variable {α:Type}
inductive At:List α→α→Prop
 |z {a:α} {l:List α}:At (a::l) a
 |s {a b:α} {l:List α} (h:At l a):At (b::l) a
inductive kY (a b:α):List α→List α→Prop
 |z {l:List α}:kY a b (a::l) (b::l)
 |s {c:α} {l m:List α} (h:kY a b l m):kY a b (c::l) (c::m)
inductive rV:List α→List α→Prop
 |n {l:List α}:rV l l
 |t {a:α} {l m:List α} (h:rV l m):rV (a::l) (a::m)
 |f {a:α} {l m:List α} (h:rV l m):rV (a::l) m
theorem At.get {l:List α} {a:α} (h:At l a):∃i:Nat,l[i]?=some a:=by
 induction h with
 |z=>exact ⟨0,rfl⟩
 |s _ e=>obtain ⟨i,hi⟩:=e;exact ⟨i+1,by simpa using hi⟩
def kY.get {a b:α} {l m:List α} (h:kY a b l m):∃i:Nat,l[i]?=some a∧m=l.set i b:=by
 induction h with
 |z=>exact ⟨0,rfl,rfl⟩
 |s _ e=>obtain ⟨i,hi,rfl⟩:=e;exact ⟨i+1,by simpa using hi,rfl⟩
theorem rV.sub {l m:List α} (h:rV l m):m.Sublist l:=by
 induction h with
 |n=>exact agE _
 |t _ e=>exact e.cons₂ _
 |f _ e=>exact e.cons _
variable {a b x1 x2 x3 x4 x5 x6 x7 x8 x9 y1 y2:α} {l m:List α}
theorem O0:At (a::l) a:= .z
theorem O1:At (x1::a::l) a:= .s .z
theorem O2:At (x1::x2::a::l) a:= .s O1
def O3:At (x1::x2::x3::a::l) a:= .s O2
theorem O4:At (x1::x2::x3::x4::a::l) a:= .s O3
def O5:At (x1::x2::x3::x4::x5::a::l) a:= .s O4
def O6:At (x1::x2::x3::x4::x5::x6::a::l) a:= .s O5
def O7:At (x1::x2::x3::x4::x5::x6::x7::a::l) a:= .s O6
def O8:At (x1::x2::x3::x4::x5::x6::x7::x8::a::l) a:= .s O7
theorem aT:kY a b (a::l) (b::l):= .z
theorem fU:kY a b (x1::a::l) (x1::b::l):= .s .z
theorem iM:kY a b (x1::x2::a::l) (x1::x2::b::l):= .s fU
theorem qD:kY a b (x1::x2::x3::a::l) (x1::x2::x3::b::l):= .s iM
theorem rW:kY a b (x1::x2::x3::x4::a::l) (x1::x2::x3::x4::b::l):= .s qD
theorem tX:kY a b (x1::x2::x3::x4::x5::a::l) (x1::x2::x3::x4::x5::b::l):= .s rW
def xA:kY a b (x1::x2::x3::x4::x5::x6::a::l) (x1::x2::x3::x4::x5::x6::b::l):= .s tX
theorem xB:kY a b (x1::x2::x3::x4::x5::x6::x7::a::l) (x1::x2::x3::x4::x5::x6::x7::b::l):= .s xA
def Nr:kY a b (x1::x2::x3::x4::x5::x6::x7::x8::a::l) (x1::x2::x3::x4::x5::x6::x7::x8::b::l):= .s xB
def Ns:kY a b (x1::x2::x3::x4::x5::x6::x7::x8::x9::a::l) (x1::x2::x3::x4::x5::x6::x7::x8::x9::b::l):= .s Nr
end
def nth {α:Type}:List α→Nat→Option α
 |[],_=>none
 |x::_,0=>some x
 |_::r,n+1=>nth r n
theorem Nt:∀(l:List α) (i:Nat),nth l i=l[i]?
 |[],_=>rfl
 |_::_,0=>rfl
 |_::r,n+1=>by rw [adC];exact Nt r n
theorem Kk {l:Array α} {x:α} (h:nth l.toList i=some x):l[i]?=some x:=by
 rw [Nt] at h;simpa using h
def jP:acf→Option Nat
 | .i8=>some 127| .i16=>some 32767| .i32=>some 2147483647| .i64=>some 9223372036854775807
 | .u8=>some 255| .u16=>some 65535| .u32=>some 4294967295| .u64=>some 18446744073709551615
theorem CV {k:acf} (e:jP k=some B) (h:m≤B):ac8 k (m:Int)=(m:Int):=
 wD k (acM h (by cases k<;>(injection e with e;subst e;exact abq _)))
section
variable {P:Program} {ops o2:Array Oper} {Q:Exit→Act→World→Prop} {a:Act} {W w:World} {n i j d d2:Nat} {D:List Deferred} {σ σ':List (Nat×Value)} {o o':Oper} {op:Op} {v v1 v2 v3:Value} {X:Act→World→Prop} {fs fs':List Fact} {p q:Nat×Value}
def JJ (W w:World) (n:Nat) (D:List Deferred) (σ:List (Nat×Value)) (fs:List Fact) (X:Act→World→Prop):Prop:=∀a,Fr a n D σ→Mem W w fs→X a w
def Jb (Z:Fr a n D σ) (e:Mem W w fs) (h:JJ W w n D σ fs X):X a w:=h a Z e
theorem Fr.iA {xs:List (Nat×Value)} (h:Fr a n D (q::(xs++σ))) (A:(xs.all λp=>p.1==q.1||(σ.lookup p.1).isNone)=true):Fr a n D (q::σ):=by
 refine ⟨h.size,h.defers,λt v s=>h.slot t v ?_⟩
 obtain ⟨E,F⟩:=q
 simp only [acL] at s⊢
 split at s
 ·exact s
 ·rename_i e
  rw [Ej]
  cases hl:xs.lookup t with
  |none=>exact s
  |some u=>
   exfalso
   obtain ⟨r,C,z⟩:=JY (El hl)
   have:=acC.1 A r C
   rw [z,adw] at this
   rcases this with h1|h1
   ·simp only [e] at h1;cases h1
   ·rw [s] at h1;cases h1
def Fr.l7 {xs:List (Nat×Value)} (h:Fr a n D (xs++σ)) (z:(xs.all λp=>(σ.lookup p.1).isNone)=true):Fr a n D σ:=by
 refine ⟨h.size,h.defers,λt v s=>h.slot t v ?_⟩
 rw [Ej]
 cases hl:xs.lookup t with
 |none=>exact s
 |some u=>
  exfalso
  obtain ⟨r,A,e⟩:=JY (El hl)
  have:=acC.1 z r A
  rw [e,s] at this
  cases this
section
variable {p1 p2 p3 p4 p5 p6 p7 p8:Nat×Value}
theorem aK (h:([p1].all λp=>p.1==q.1||(σ.lookup p.1).isNone)=true:=by kernel_rfl) (k:JJ W w n D (q::σ) fs X):JJ W w n D (q::p1::σ) fs X:=λa Z=>k a (Z.iA (xs:=[p1]) h)
theorem bH (h:([p1,p2].all λp=>p.1==q.1||(σ.lookup p.1).isNone)=true:=by kernel_rfl) (k:JJ W w n D (q::σ) fs X):JJ W w n D (q::p1::p2::σ) fs X:=λa Z=>k a (Z.iA (xs:=[p1,p2]) h)
theorem dQ (h:([p1,p2,p3].all λp=>p.1==q.1||(σ.lookup p.1).isNone)=true:=by kernel_rfl) (k:JJ W w n D (q::σ) fs X):JJ W w n D (q::p1::p2::p3::σ) fs X:=λa Z=>k a (Z.iA (xs:=[p1,p2,p3]) h)
theorem gu (h:([p1,p2,p3,p4].all λp=>p.1==q.1||(σ.lookup p.1).isNone)=true:=by kernel_rfl) (k:JJ W w n D (q::σ) fs X):JJ W w n D (q::p1::p2::p3::p4::σ) fs X:=λa Z=>k a (Z.iA (xs:=[p1,p2,p3,p4]) h)
theorem l8 (h:([p1,p2,p3,p4,p5].all λp=>p.1==q.1||(σ.lookup p.1).isNone)=true:=by kernel_rfl) (k:JJ W w n D (q::σ) fs X):JJ W w n D (q::p1::p2::p3::p4::p5::σ) fs X:=λa Z=>k a (Z.iA (xs:=[p1,p2,p3,p4,p5]) h)
theorem aG (h:([p1,p2,p3,p4,p5,p6].all λp=>p.1==q.1||(σ.lookup p.1).isNone)=true:=by kernel_rfl) (k:JJ W w n D (q::σ) fs X):JJ W w n D (q::p1::p2::p3::p4::p5::p6::σ) fs X:=λa Z=>k a (Z.iA (xs:=[p1,p2,p3,p4,p5,p6]) h)
theorem mW (h:([p1].all λp=>(σ.lookup p.1).isNone)=true:=by kernel_rfl) (k:JJ W w n D σ fs X):JJ W w n D (p1::σ) fs X:=λa Z=>k a (Z.l7 (xs:=[p1]) h)
def mI (h:([p1,p2].all λp=>(σ.lookup p.1).isNone)=true:=by kernel_rfl) (k:JJ W w n D σ fs X):JJ W w n D (p1::p2::σ) fs X:=λa Z=>k a (Z.l7 (xs:=[p1,p2]) h)
theorem ow (h:([p1,p2,p3].all λp=>(σ.lookup p.1).isNone)=true:=by kernel_rfl) (k:JJ W w n D σ fs X):JJ W w n D (p1::p2::p3::σ) fs X:=λa Z=>k a (Z.l7 (xs:=[p1,p2,p3]) h)
theorem wI (h:([p1,p2,p3,p4].all λp=>(σ.lookup p.1).isNone)=true:=by kernel_rfl) (k:JJ W w n D σ fs X):JJ W w n D (p1::p2::p3::p4::σ) fs X:=λa Z=>k a (Z.l7 (xs:=[p1,p2,p3,p4]) h)
theorem qE (h:([p1,p2,p3,p4,p5].all λp=>(σ.lookup p.1).isNone)=true:=by kernel_rfl) (k:JJ W w n D σ fs X):JJ W w n D (p1::p2::p3::p4::p5::σ) fs X:=λa Z=>k a (Z.l7 (xs:=[p1,p2,p3,p4,p5]) h)
theorem iE (h:([p1,p2,p3,p4,p5,p6].all λp=>(σ.lookup p.1).isNone)=true:=by kernel_rfl) (k:JJ W w n D σ fs X):JJ W w n D (p1::p2::p3::p4::p5::p6::σ) fs X:=λa Z=>k a (Z.l7 (xs:=[p1,p2,p3,p4,p5,p6]) h)
end
theorem Mem.sel (h:Mem W w fs) (m:rV fs fs'):Mem W w fs':=⟨h.below,λf e=>h.holds f (m.sub.subset e),h.apart.sublist m.sub⟩
theorem JM (m:rV fs fs') (k:JJ W w n D σ fs' X):JJ W w n D σ fs X:=λa Z e=>k a Z (e.sel m)
def fV (ops:Array Oper) (σ:List (Nat×Value)) (n i:Nat):Option (Nat×Op):=match ops[i]? with
 |some o=>match dF ops σ o,o.dst with
  |some true,some d=>if d<n then some (d,o.op) else none
  |_,_=>none
 |none=>none
def EB (h:fV ops σ n i=some (d,op)):∃o,ops[i]?=some o∧dF ops σ o=some true∧o.dst=some d∧d<n∧o.op=op:=by
 unfold fV at h
 split at h
 ·rename_i o r
  split at h
  ·rename_i z s u
   split at h
   ·rename_i e
    injection h with h
    injection h with h1 h2
    subst h1;subst h2
    exact ⟨o,r,s,u,e,rfl⟩
   ·cases h
  ·cases h
 ·cases h
def aah (h:fV ops σ n i=some (d,op)) (hy:∀o:Oper,o.op=op→Yl P (λe=>Mem W e fs) σ o v) (k:JJ W w n D ((d,v)::σ) fs (qh P ops Q (i+1))):JJ W w n D σ fs (qh P ops Q i):=by
 obtain ⟨o,u,z,A,r,C⟩:=EB h
 exact λ_ Z s=>JN (S:=λe=>Mem W e fs) Z s u z A r (hy o C) λa Z=>k a Z s
def aak (h:fV ops σ n i=some (d,op)) (k:∀(o:Oper) a,o.op=op→o.dst=some d→d<n→Fr a n D σ→Mem W w fs→o.wp P a w (qh P ops Q (i+1)) Q):JJ W w n D σ fs (qh P ops Q i):=by
 obtain ⟨o,r,s,u,e,z⟩:=EB h
 exact λa Z A=>Ei Z r s (k o a z u e Z A)
theorem Jp (m:Nat) (h:wu P ops n m i σ=some σ':=by exact rfl) (k:JJ W w n D σ' fs (qh P ops Q (i+m))):JJ W w n D σ fs (qh P ops Q i):=
 λ_ Z r=>MU m i Z h rfl λs e=>k s e r
theorem Jv (m:Nat) (new:List (Nat×Value)) (h:(wu P ops n m i σ).map (λs=>(thin s σ new,new.map λp=>s.lookup p.1))=some (true,new.map λp=>some p.2):=by kernel_rfl) (k:JJ W w n D (new++σ) fs (qh P ops Q (i+m))):JJ W w n D σ fs (qh P ops Q i):=
 λ_ Z r=>fp Z m i new (λu e=>k u e r) h
theorem Jf (off:Nat) {s f g b:Nat} {x:Operand} (h:fV ops σ n i=some (d,.fieldAddr s x f):=by exact rfl) (e:look σ x=some (.pointer (some ⟨g,b,none⟩)):=by exact rfl) (r:CG P s f=some off:=by kernel_rfl) (k:JJ W w n D ((d,.pointer (some ⟨g,b+off,none⟩))::σ) fs (qh P ops Q (i+1))):JJ W w n D σ fs (qh P ops Q i):=
 aah h (λo u=>Yl.pure (by rw [u];simp only [rO,e,r];rw [acN])) k
theorem Jc {off:Nat} (O:At fs (.blk g C tb)) (h:fV ops σ n i=some (d,.load t x):=by exact rfl) (e:look σ x=some (.pointer (some ⟨g,off,none⟩)):=by exact rfl) (r:nth C.toList off=some v:=by exact rfl) (ht:fQ P t=true:=by kernel_rfl) (k:JJ W w n D ((d,v)::σ) fs (qh P ops Q (i+1))):JJ W w n D σ fs (qh P ops Q i):=
 aah h (λo s=>Pd s e ht λ_ h=>let ⟨_,hi⟩:=O.get;h.cell hi (Kk r)) k
theorem Jg (off:Nat) {s f g b:Nat} {x:Operand} {t tb:TypeId} {C:Array Value} (O:At fs (.blk g C tb)) (h:fV ops σ n i=some (d,.fieldAddr s x f):=by exact rfl) (e:look σ x=some (.pointer (some ⟨g,b,none⟩)):=by exact rfl) (h2:fV ops ((d,.pointer (some ⟨g,b+off,none⟩))::σ) n (i+1)=some (d2,.load t (.tmp d)):=by exact rfl) (r:nth C.toList (b+off)=some v:=by exact rfl)
 (hk:(fQ P t&& (CG P s f==some off&& (d2==d||(σ.lookup d).isNone)))=true:=by kernel_rfl) (k:JJ W w n D ((d2,v)::σ) fs (qh P ops Q (i+2))):JJ W w n D σ fs (qh P ops Q i):=by
 simp only [abF,beq_iff_eq] at hk
 refine Jf off h e hk.2.1 (Jc O h2 ?_ r hk.1 (aK (by simpa [Bool.beq_comm] using hk.2.2) k))
 simp [look]
theorem Jl (h:fV ops σ n i=some (d,.call {callee:= .builtin .len,args:= #[x],argTypes:= #[t]}):=by exact rfl) (e:look σ x=some (.slice A m c):=by exact rfl) (ht:mQ P t=true:=by kernel_rfl) (k:JJ W w n D ((d,.int .i64 (m:Int))::σ) fs (qh P ops Q (i+1))):JJ W w n D σ fs (qh P ops Q i):=
 aah h (λo r=>Yl.len r e ht) k
theorem Jn {p:Addr} (h:fV ops σ n i=some (d,.nilCheck x):=by exact rfl) (e:look σ x=some (.pointer (some p)):=by exact rfl) (k:JJ W w n D ((d,.pointer (some p))::σ) fs (qh P ops Q (i+1))):JJ W w n D σ fs (qh P ops Q i):=
 aah h (λo r=>Yl.nilCheck r e) k
theorem Jx {e:Nat} {vs:Array Value} (h:fV ops σ n i=some (d,.extract x e):=by exact rfl) (r:look σ x=some (.tuple vs):=by exact rfl) (s:nth vs.toList e=some v:=by exact rfl) (k:JJ W w n D ((d,v)::σ) fs (qh P ops Q (i+1))):JJ W w n D σ fs (qh P ops Q i):=
 aah h (λo u=>Yl.pure (by rw [u];simp only [rO,r];exact Kk s)) k
theorem Jy (u:ops[i]?=some o:=by exact rfl) (z:dF ops σ o=some true:=by exact rfl) (A:o.dst=some d:=by exact rfl) (e:d<n:=by decide) (h:Yl P (λr=>Mem W r fs) σ o v) (k:JJ W w n D ((d,v)::σ) fs (qh P ops Q (i+1))):JJ W w n D σ fs (qh P ops Q i):=
 λ_ Z s=>JN (S:=λr=>Mem W r fs) Z s u z A e h λa Z=>k a Z s
theorem d9 (e:SI P t m) (O:At fs (.blk g C tb)) (h:fV ops σ n i=some (d,.load t x):=by exact rfl) (r:look σ x=some (.pointer (some ⟨g,0,none⟩)):=by exact rfl) (hm:C.size=m:=by exact rfl) (k:JJ W w n D ((d,.agg C)::σ) fs (qh P ops Q (i+1))):JJ W w n D σ fs (qh P ops Q i):=
 aah h (λo s=>let ⟨_,hi⟩:=O.get;Pe s r e hm λ_ h=>qi (h.blk hi)) k
theorem fu (e:Array Value) {t:TypeId} {ps:Array (Nat×Operand)} {vs:List (Nat×Value)} (h:fV ops σ n i=some (d,.build t ps):=by exact rfl) (r:wB σ ps.toList=some vs:=by exact rfl) (hb:M9 P t vs=some e:=by kernel_rfl) (k:JJ W w n D ((d,.agg e)::σ) fs (qh P ops Q (i+1))):JJ W w n D σ fs (qh P ops Q i):=
 aah h (λo s=>Yl.build s r hb) k
theorem gV (y sz:Nat) {t:TypeId} {x ix:Operand} {g of m c:Nat} {kd:Go.IntKind} (h:fV ops σ n i=some (d,.indexAddr t x ix):=by exact rfl) (e:look σ x=some (.slice (some ⟨g,of,none⟩) m c):=by exact rfl) (hi:look σ ix=some (.int kd (y:Int)):=by exact rfl) (hy:y<m:=by omega) (r:Av P t=some sz:=by kernel_rfl) (k:JJ W w n D ((d,.pointer (some ⟨g,of+y*sz,none⟩))::σ) fs (qh P ops Q (i+1))):JJ W w n D σ fs (qh P ops Q i):=
 aah h (λo s=>Yl.ix g of y sz s e hi hy r) k
theorem l9 (y sz:Nat) {t:TypeId} {x ix:Operand} {g m c:Nat} {kd:Go.IntKind} (h:fV ops σ n i=some (d,.indexAddr t x ix):=by exact rfl) (e:look σ x=some (.slice (some ⟨g,0,none⟩) m c):=by exact rfl) (hi:look σ ix=some (.int kd (y:Int)):=by exact rfl) (hy:y<m:=by omega) (r:Av P t=some sz:=by kernel_rfl) (k:JJ W w n D ((d,.pointer (some ⟨g,y*sz,none⟩))::σ) fs (qh P ops Q (i+1))):JJ W w n D σ fs (qh P ops Q i):=
 aah h (λo s=>Yl.iw g y sz s e hi hy r) k
section
variable {α:Type} {f:α→List Value} {l:List α} {g of m sz:Nat} {t:TypeId} {x:Operand}
theorem Yl.oS {o:Oper} {C:α→Array Value} (r:∀x,(C x).toList=f x) (s:∀x,abl (f x)=sz) (hr:Rd W W.heap.size sz (some ⟨g,of,none⟩) m (l.flatMap f)) (z:SI P t sz) {e:Nat} {u:α} (hk:e<abl l) (A:o.op= .load t x) (E:look σ x=some (.pointer (some ⟨g,of+e*sz,none⟩))):Yl P (λF=>Mem W F fs) σ o (.agg (C (l.getD e u))):=
 Pe A E z (by rw [←acv,r,s]) λ_ h=>by rw [r];exact (h.old hr).Ay s (getD_at u hk)
def aau {o:Oper} (s:∀x,abl (f x)=sz) (hr:Rd W W.heap.size sz (some ⟨g,of,none⟩) m (l.flatMap f)) {j e b:Nat} {r:α} (hk:e<abl l) (u:b=of+e*sz+j) (z:nth (f (l.getD e r)) j=some v) (A:o.op= .load t x) (C:look σ x=some (.pointer (some ⟨g,b,none⟩))) (ht:fQ P t=true):Yl P (λE=>Mem W E fs) σ o v:=by
 subst u
 exact Pd A C ht λ_ h=>(h.old hr).partAt s (getD_at r hk) (by rw [←Nt];exact z)
theorem oK (C:α→Array Value) (r:∀x,(f x).length=sz) (hr:Rd W W.heap.size sz (some ⟨g,of,none⟩) m (l.flatMap f)) (s:SI P t sz) (e:Nat) (u:α) (z:∀x,(C x).toList=f x:=by exact λ_=>rfl) (h:fV ops σ n i=some (d,.load t x):=by exact rfl) (A:look σ x=some (.pointer (some ⟨g,of+e*sz,none⟩)):=by exact rfl) (hk:e<l.length:=by omega) (k:JJ W w n D ((d,.agg (C (l.getD e u)))::σ) fs (qh P ops Q (i+1))):JJ W w n D σ fs (qh P ops Q i):=
 aah h (λ_ E=>Yl.oS z r hr s hk E A) k
theorem Nu (r:∀x,(f x).length=sz) (hr:Rd W W.heap.size sz (some ⟨g,of,none⟩) m (l.flatMap f)) (j e:Nat) (s:α) (h:fV ops σ n i=some (d,.load t x):=by exact rfl) (u:look σ x=some (.pointer (some ⟨g,of+e*sz+j,none⟩)):=by exact rfl) (z:nth (f (l.getD e s)) j=some v:=by exact rfl) (hk:e<l.length:=by omega) (ht:fQ P t=true:=by kernel_rfl) (k:JJ W w n D ((d,v)::σ) fs (qh P ops Q (i+1))):JJ W w n D σ fs (qh P ops Q i):=
 aah h (λ_ A=>aau r hr hk rfl z A u ht) k
theorem CW (r:∀x,(f x).length=sz) (hr:Rd W W.heap.size sz (some ⟨g,of,none⟩) m (l.flatMap f)) (e:Nat) (s:α) (h:fV ops σ n i=some (d,.load t x):=by exact rfl) (u:look σ x=some (.pointer (some ⟨g,of+e*sz,none⟩)):=by exact rfl) (z:nth (f (l.getD e s)) 0=some v:=by exact rfl) (hk:e<l.length:=by omega) (ht:fQ P t=true:=by kernel_rfl) (k:JJ W w n D ((d,v)::σ) fs (qh P ops Q (i+1))):JJ W w n D σ fs (qh P ops Q i):=
 aah h (λ_ A=>aau r hr (j:=0) hk rfl z A u ht) k
end
theorem JC {e:World} (h:Mem W w fs→Mem e w fs') (k:JJ e w n D σ fs' X):JJ W w n D σ fs X:=λa Z r=>k a Z (h r)
theorem Jk (d:Nat) (u:Value) (e:σ.lookup d=some v:=by exact rfl) (h:v=u) (k:JJ W w n D ((d,u)::σ) fs X):JJ W w n D σ fs X:=λa Z=>k a (Z.sp d u e h)
theorem Jo (u:Value) (h:v=u) (k:JJ W w n D ((d,u)::σ) fs X):JJ W w n D ((d,v)::σ) fs X:=by subst h;exact k
section
variable {x y:Operand} {t t2:TypeId} {k:Go.IntKind} {m p B:Nat}
def aaU {r:BinOp} {u:Value} {I:Value} (h:fV ops σ n i=some (d,.binOp r t x y t2)) (s:look σ x=some z) (hy:look σ y=some I) (A:Ee z=true) (hb:rM r z I=some v) (e:v=u) (K:JJ W w n D ((d,u)::σ) fs (qh P ops Q (i+1))):JJ W w n D σ fs (qh P ops Q i):=by
 subst e
 exact aah h (λo C=>Yl.pure (by rw [C];simp only [rO,s,hy,A,if_true];exact hb)) K
def U0 (k:acf) (a b:Int):rM .add (.int k a) (.int k b)=some (.int k (k.wrap (a+b))):=by simp [rM,CF]
def U1 (k:acf) (a b:Int):rM .sub (.int k a) (.int k b)=some (.int k (k.wrap (a-b))):=by simp [rM,CF]
theorem Ja (h:fV ops σ n i=some (d,.binOp .add t x y t2):=by exact rfl) (e:look σ x=some (.int k (m:Int)):=by exact rfl) (hy:look σ y=some (.int k (p:Int)):=by exact rfl) (r:jP k=some B:=by exact rfl) (hb:m+p≤B:=by omega) (K:JJ W w n D ((d,.int k ((m+p:Nat):Int))::σ) fs (qh P ops Q (i+1))):JJ W w n D σ fs (qh P ops Q i):=
 aaU h e hy rfl (U0 _ _ _) (by rw [show ((m:Int)+(p:Int))=((m+p:Nat):Int) from rfl,CV r hb]) K
theorem bT (p:Nat) {z:Int} (h:fV ops σ n i=some (d,.binOp .add t x y t2):=by exact rfl) (e:look σ x=some (.int k (m:Int)):=by exact rfl) (hy:look σ y=some (.int k z):=by exact rfl) (hz:z=(p:Int):=by exact rfl) (r:jP k=some B:=by exact rfl) (hb:m+p≤B:=by omega) (K:JJ W w n D ((d,.int k ((m+p:Nat):Int))::σ) fs (qh P ops Q (i+1))):JJ W w n D σ fs (qh P ops Q i):=by
 subst hz;exact Ja h e hy r hb K
def Js (h:fV ops σ n i=some (d,.binOp .sub t x y t2):=by exact rfl) (e:look σ x=some (.int k (m:Int)):=by exact rfl) (hy:look σ y=some (.int k (p:Int)):=by exact rfl) (r:jP k=some B:=by exact rfl) (hb:p≤m∧m-p≤B:=by omega) (K:JJ W w n D ((d,.int k ((m-p:Nat):Int))::σ) fs (qh P ops Q (i+1))):JJ W w n D σ fs (qh P ops Q i):=
 aaU h e hy rfl (U1 _ _ _) (by rw [show ((m:Int)- (p:Int))=((m-p:Nat):Int) by omega,CV r hb.2]) K
theorem yX (p:Nat) {z:Int} (h:fV ops σ n i=some (d,.binOp .sub t x y t2):=by exact rfl) (e:look σ x=some (.int k (m:Int)):=by exact rfl) (hy:look σ y=some (.int k z):=by exact rfl) (hz:z=(p:Int):=by exact rfl) (r:jP k=some B:=by exact rfl) (hb:p≤m∧m-p≤B:=by omega) (K:JJ W w n D ((d,.int k ((m-p:Nat):Int))::σ) fs (qh P ops Q (i+1))):JJ W w n D σ fs (qh P ops Q i):=by
 subst hz;exact Js h e hy r hb K
def xC (P:Program) (s t:TypeId):Option acf:=match P.underlying s,P.underlying t with
 |some _,some (.int k)=>some k
 |_,_=>none
theorem Jw (k:Go.IntKind) {e:Go.IntKind} (h:fV ops σ n i=some (d,.convert t t2 x):=by exact rfl) (r:look σ x=some (.int e (m:Int)):=by exact rfl) (hk:xC P t t2=some k:=by kernel_rfl) (s:jP k=some B:=by exact rfl) (hb:m≤B:=by omega) (K:JJ W w n D ((d,.int k (m:Int))::σ) fs (qh P ops Q (i+1))):JJ W w n D σ fs (qh P ops Q i):=by
 refine aah h (λo u=>Yl.pure (by
  rw [u]
  unfold xC at hk
  split at hk
  ·rename_i z A h1 h2
   injection hk with hk
   subst hk
   simp only [rO,h1,h2,r,CV s hb]
  ·cases hk)) K
end
theorem Ji {p:Prop} {inst:Decidable p} (h1:p→JJ W w n D ((d,.bool true)::σ) fs X) (h2:¬p→JJ W w n D ((d,.bool false)::σ) fs X):JJ W w n D ((d,.bool (@decide p inst))::σ) fs X:=by
 by_cases h:p
 ·rw [decide_eq_true h];exact h1 h
 ·rw [decide_eq_false h];exact h2 h
theorem oz {p:Prop} {inst:Decidable p} (h1:¬p→JJ W w n D ((d,.bool true)::σ) fs X) (h2:p→JJ W w n D ((d,.bool false)::σ) fs X):JJ W w n D ((d,.bool (!@decide p inst))::σ) fs X:=by
 by_cases h:p
 ·rw [decide_eq_true h];exact h2 h
 ·rw [decide_eq_false h];exact h1 h
theorem Je {e:BEq α} [LawfulBEq α] {x y:α} (h1:x=y→JJ W w n D ((d,.bool true)::σ) fs X) (h2:x≠y→JJ W w n D ((d,.bool false)::σ) fs X):JJ W w n D ((d,.bool (x==y))::σ) fs X:=by
 cases h:x==y
 ·exact h2 (ne_of_beq_false h)
 ·exact h1 (eq_of_beq h)
theorem Jh {e:BEq α} [LawfulBEq α] {x y:α} (h1:x≠y→JJ W w n D ((d,.bool true)::σ) fs X) (h2:x=y→JJ W w n D ((d,.bool false)::σ) fs X):JJ W w n D ((d,.bool (x !=y))::σ) fs X:=by
 cases h:x !=y
 ·exact h2 (bne_eq_false_iff_eq.1 h)
 ·exact h1 (bne_iff_ne.1 h)
theorem Ju {b:Bool} (h1:b=true→JJ W w n D ((d,.bool true)::σ) fs X) (h2:b=false→JJ W w n D ((d,.bool false)::σ) fs X):JJ W w n D ((d,.bool b)::σ) fs X:=by
 cases b
 ·exact h2 rfl
 ·exact h1 rfl
theorem Jr {id:Nat} {c:Code} {e:Exit→Act→World→Prop} (hi:ops.size=i:=by exact rfl) (h:∀a w,e .normal a w=Code.wp P (.seq (.region id o2 false) c) Q a w:=by exact λ_ _=>rfl) (k:JJ W w n D σ fs (qh P o2 (Exit.then (Code.wp P c Q) Q) 0)):JJ W w n D σ fs (qh P ops e i):=
 λa Z r=>wX hi (by rw [h];exact wp_seq (zt (k a Z r)))
theorem Jq (hi:ops.size=i:=by exact rfl) (k:JJ W w n D σ fs (Q .normal)):JJ W w n D σ fs (qh P ops Q i):=λa Z e=>wX hi (k a Z e)
theorem Jj {c:Code} {e:Exit→Act→World→Prop} (hi:ops.size=i:=by exact rfl) (h:∀a w,e .normal a w=Code.wp P c Q a w:=by exact λ_ _=>rfl) (k:JJ W w n D σ fs (Code.wp P c Q)):JJ W w n D σ fs (qh P ops e i):=λa Z r=>wX hi (by rw [h];exact k a Z r)
theorem JR {id:Nat} (k:JJ W w n D σ fs (qh P ops Q 0)):JJ W w n D σ fs (adp P (.region id ops false) Q):=λa Z e=>zt (k a Z e)
theorem JQ {c e:Code} (k:JJ W w n D σ fs (adp P c (Exit.then (adp P e Q) Q))):JJ W w n D σ fs (adp P (.seq c e) Q):=λa Z h=>wp_seq (k a Z h)
theorem JP {id:Nat} {c:Code} (k:JJ W w n D σ fs (qh P ops (Exit.then (adp P c Q) Q) 0)):JJ W w n D σ fs (adp P (.seq (.region id ops false) c) Q):=λa Z e=>wp_seq (zt (k a Z e))
theorem JG {Y:Act→World→Prop} {c:Code} (h:∀a w,Y a w=Code.wp P c Q a w:=by exact λ_ _=>rfl) (k:JJ W w n D σ fs (Code.wp P c Q)):JJ W w n D σ fs Y:=λa Z e=>by rw [h];exact k a Z e
theorem aD {c:Code} {e:Exit→Act→World→Prop} (h:∀a w,e .normal a w=Code.wp P c Q a w:=by exact λ_ _=>rfl) (k:JJ W w n D σ fs (Code.wp P c Q)):JJ W w n D σ fs (adp P .skip e):=λa Z r=>wp_skip (by rw [h];exact k a Z r)
def JT {c:Operand} {x y:Code} (hc:look σ c=some (.bool true):=by exact rfl) (k:JJ W w n D σ fs (Code.wp P x Q)):JJ W w n D σ fs (adp P (.cond c x y) Q):=λa Z e=>q09 Z hc (k a Z e)
theorem JF {c:Operand} {x y:Code} (hc:look σ c=some (.bool false):=by exact rfl) (k:JJ W w n D σ fs (Code.wp P y Q)):JJ W w n D σ fs (adp P (.cond c x y) Q):=λa Z e=>M4 Z hc (k a Z e)
theorem JB {id:Nat} {c:Code} (k:JJ W w n D σ fs (adp P c (Exit.inBlock id Q))):JJ W w n D σ fs (adp P (.block id c) Q):=λa Z e=>wp_block (k a Z e)
def JS (k:JJ W w n D σ fs (Q .normal)):JJ W w n D σ fs (adp P .skip Q):=λa Z e=>wp_skip (k a Z e)
def JX {id:Nat} (k:JJ W w n D σ fs (Q (.exit id))):JJ W w n D σ fs (adp P (.exit id) Q):=λa Z e=>wp_exit (k a Z e)
theorem JZ (k:JJ W w n D σ fs (Q .ret)):JJ W w n D σ fs (adp P .ret Q):=λa Z e=>wp_ret (k a Z e)
section
variable {fn:Func} {R:Ending→World→Prop} {t1 t2 t3:Nat}
theorem aZ (e:∀a w,bodyPost P fn R .ret a w→X a w:=by exact λ_ _ h=>h) (hr:fn.results= #[.tmp t1]:=by exact rfl) (h1:σ.lookup t1=some v1:=by exact rfl) (r:Mem W w fs→R (.returned v1) w):JJ W w n [] σ fs X:=λ_ Z s=>e _ _ (kX hr Z h1 (r s))
theorem sP (e:∀a w,bodyPost P fn R .ret a w→X a w:=by exact λ_ _ h=>h) (hr:fn.results= #[.tmp t1]:=by exact rfl) (h1:σ.lookup t1=some v1:=by exact rfl) (r:Mem W w fs→R (.returned v1) w:=by exact λM=>⟨rfl,M.below⟩):JJ W w n [] σ fs X:=λ_ Z s=>e _ _ (kX hr Z h1 (r s))
theorem bG (e:∀a w,bodyPost P fn R .ret a w→X a w:=by exact λ_ _ h=>h) (hr:fn.results= #[.tmp t1,.tmp t2]:=by exact rfl) (h1:σ.lookup t1=some v1:=by exact rfl) (h2:σ.lookup t2=some v2:=by exact rfl) (r:Mem W w fs→R (.returned (.tuple #[v1,v2])) w):JJ W w n [] σ fs X:=λ_ Z s=>e _ _ (tV hr Z h1 h2 (r s))
end
theorem JA (z:Array Value) {e:TypeId} (h:fV ops σ n i=some (d,.alloc e):=by exact rfl) (hz:wz P e=some z:=by kernel_rfl) (k:∀r g,JJ W r n D ((d,.pointer (some ⟨g,0,none⟩))::σ) (.blk g z e::fs) (qh P ops Q (i+1))):JJ W w n D σ fs (qh P ops Q i):=
 aak h λ_ _ A C s Z u=>MZ Z u A hz C s λa r g Z u=>k r g a Z u
theorem JE (h:fV ops σ n i=some (d,.box e x):=by exact rfl) (z:look σ x=some (.agg C):=by exact rfl) (k:∀r g,JJ W r n D ((d,.pointer (some ⟨g,0,none⟩))::σ) (.blk g C e::fs) (qh P ops Q (i+1))):JJ W w n D σ fs (qh P ops Q i):=
 aak h λ_ _ A E s Z u=>yQ Z u A z rfl E s λa r g Z u=>k r g a Z u
def AP (h:fV ops σ n i=some (d,.box e x):=by exact rfl) (z:look σ x=some v:=by exact rfl) (hc:v.cells= #[v]:=by exact rfl) (k:∀r g,JJ W r n D ((d,.pointer (some ⟨g,0,none⟩))::σ) (.blk g #[v] e::fs) (qh P ops Q (i+1))):JJ W w n D σ fs (qh P ops Q i):=
 aak h λ_ _ A C s Z u=>yQ Z u A z hc C s λa r g Z u=>k r g a Z u
theorem JW {off:Nat} {l m:List Value} {v0:Value} (O:kY (.blk g l.toArray tb) (.blk g m.toArray tb) fs fs') (U:kY v0 v l m) (s:ops[i]?=some o:=by exact rfl) (e:o.op= .store t x y:=by exact rfl) (u:dF ops σ o=some true:=by exact rfl) (z:o.dst=none:=by exact rfl) (A:look σ x=some (.pointer (some ⟨g,off,none⟩)):=by exact rfl) (hy:look σ y=some v:=by exact rfl) (hs:(P.info? t).map (·.size)=some 1:=by kernel_rfl) (C:v.oneCell'=true:=by exact rfl)
 (E:m=l.set off v:=by exact rfl) (F:Nat.blt off l.length=true:=by exact rfl) (k:∀h,JJ W h n D σ fs' (qh P ops Q (i+1))):JJ W w n D σ fs (qh P ops Q i):=by
 obtain ⟨j,G,rfl⟩:=O.get
 refine λa Z r=>Ei Z s u (pQ Z r e z A hy hs C G (by simpa using F) λh r=>k h a Z ?_)
 subst E
 simpa using r
theorem JV {ds:Array Value} (s:SI P t m) (O:kY (.blk g C tb) (.blk g ds tb) fs fs') (z:ops[i]?=some o:=by exact rfl) (e:o.op= .store t x y:=by exact rfl) (A:dF ops σ o=some true:=by exact rfl) (E:o.dst=none:=by exact rfl) (F:look σ x=some (.pointer (some ⟨g,0,none⟩)):=by exact rfl) (hy:look σ y=some (.agg ds):=by exact rfl)
 (hc:C.size=m:=by exact rfl) (hm:ds.size=m:=by exact rfl) (h1:∀u∈ds.toList,u.oneCell'=true:=by simp [Value.oneCell']) (k:∀h,JJ W h n D σ fs' (qh P ops Q (i+1))):JJ W w n D σ fs (qh P ops Q i):=by
 obtain ⟨j,G,rfl⟩:=O.get
 exact λa Z r=>Ei Z z A (Ui Z r e E F hy s hc hm h1 G λh r=>k h a Z r)
theorem JI {xs:Array Operand} {ts:Array TypeId} (h0:fV ops σ n i=some (d,.call {callee:= .value (.func f),args:=xs,argTypes:=ts}):=by exact rfl) (z:looks σ xs.toList=some vs:=by exact rfl) (h:Mem W w fs→Calls P f vs.toArray w (λr e=>r= .returned v∧Below w.heap.size w e)) (A:callable P f=true:=by kernel_rfl)
 (k:∀e,Below w.heap.size w e→JJ W e n D ((d,v)::σ) fs (qh P ops Q (i+1))):JJ W w n D σ fs (qh P ops Q i):=
 aak h0 λ_ _ C E s Z u=>yS Z C z A E s (h u) λ_ e ⟨h1,h2⟩=>⟨v,h1,λa Z=>k e h2 a Z (u.call h2)⟩
theorem JL {xs:Array Operand} {ts:Array TypeId} (h0:fV ops σ n i=some (d,.call {callee:= .value (.func f),args:=xs,argTypes:=ts}):=by exact rfl) (z:looks σ xs.toList=some vs:=by exact rfl) (h:Mem W w fs→Calls P f vs.toArray w R) (A:callable P f=true:=by kernel_rfl)
 (k:Mem W w fs→∀r e,R r e→∃v,r= .returned v∧∃fs',Mem W e fs'∧JJ W e n D ((d,v)::σ) fs' (qh P ops Q (i+1))):JJ W w n D σ fs (qh P ops Q i):=
 aak h0 λ_ _ C E s Z u=>yS Z C z A E s (h u) λr e F=>let ⟨v,h1,_,h3,h4⟩:=k u r e F;⟨v,h1,λa Z=>h4 a Z h3⟩
theorem JK {xs:Array Operand} {ts:Array TypeId} {V:Option Addr→Nat→Value} {sz:Nat} {ys:List Value} (h0:fV ops σ n i=some (d,.call {callee:= .value (.func f),args:=xs,argTypes:=ts}):=by exact rfl) (C:looks σ xs.toList=some vs:=by exact rfl) (h:Mem W w fs→Calls P f vs.toArray w (λr s=>(∃A c,r= .returned (V A c)∧s.ownsRow w.heap.size e sz (.slice A m c) m ys∧m≤c)∧Below w.heap.size w s)) (E:callable P f=true:=by kernel_rfl)
 (k:∀A c s,m≤c→JJ W s n D ((d,V A c)::σ) (.row (.slice A m c) m ys e sz::fs) (qh P ops Q (i+1))):JJ W w n D σ fs (qh P ops Q i):=
 aak h0 λ_ _ F G u Z z=>yS Z F C E G u (h z) λr s ⟨⟨A,c,h1,h2,h3⟩,h4⟩=>⟨_,h1,λa Z=>k A c s h3 a Z (z.bL h4 h2)⟩
theorem JO {xs:Array Operand} {ts:Array TypeId} (h0:fV ops σ n i=some (d,.call {callee:= .value (.func f),args:=xs,argTypes:=ts}):=by exact rfl) (u:looks σ xs.toList=some vs:=by exact rfl) (h:Mem W w fs→Calls P f vs.toArray w (λr e=>r= .returned v∧Mem W e fs')) (z:callable P f=true:=by kernel_rfl)
 (k:∀e,JJ W e n D ((d,v)::σ) fs' (qh P ops Q (i+1))):JJ W w n D σ fs (qh P ops Q i):=
 aak h0 λ_ _ A C s Z E=>yS Z A u z C s (h E) λr e ⟨h1,h2⟩=>⟨v,h1,λa Z=>k e a Z h2⟩
theorem JU {t len e:Nat} {vs:List (Nat×Value)} {size bytes:Nat} (C:EI P t e z size bytes) (A:Array Value) (h:fV ops σ n i=some (d,.buildSlice t len ps):=by exact rfl) (E:decide (0<len∧len*size≤16777216)=true:=by decide) (F:wB σ ps.toList=some vs:=by exact rfl)
 (G:Instr.fill (λi=>some (i*size,size)) (J4 z.cells (len*size)) vs=some A:=by kernel_rfl) (k:∀r g,JJ W r n D ((d,.slice (some ⟨g,0,none⟩) len len)::σ) (.blk g A e::fs) (qh P ops Q (i+1))):JJ W w n D σ fs (qh P ops Q i):=
 aak h λ_ _ H I s Z u=>Uk Z u H C E F G I s λa r g Z u=>k r g a Z u
theorem JD {s:Operand} {size bytes C:Nat} {F:Option Addr→Nat→List Fact} (news:List Value) (j:Nat) (O:∀E r,kY (.row v C xs e size) (.row (.slice E (C+m) r) (C+m) (xs++news) e size) fs (F E r)) (K:EI P t e z size bytes)
 (h0:fV ops σ n i=some (d,.call {callee:= .builtin .append,args:= #[s,x],argTypes:= #[t,t]}):=by exact rfl) (hs:look σ s=some v:=by exact rfl) (L:look σ x=some (.slice A m c):=by exact rfl) (M:fs[j]?=some (.row v C xs e size):=by exact rfl) (S:(λE r=>fs.set j (.row (.slice E (C+m) r) (C+m) (xs++news) e size))=F:=by kernel_rfl)
 (hr:Mem W w fs→Rd w B size A m news) (h1:∀u∈news,u.oneCell'=true) (hb:(C+m)*bytes≤140737488355328:=by omega) (h63:C+m≤9223372036854775807:=by omega)
 (k:∀G E r,C+m≤r→JJ W G n D ((d,.slice E (C+m) r)::σ) (F E r) (qh P ops Q (i+1))):JJ W w n D σ fs (qh P ops Q i):=
 aak h0 λ_ _ T U H Z J=>p9 Z J T K hs L M (hr J) h1 hb h63 U H λa G E r Z I hc=>k G E r hc a Z (by have h:=congrFun (congrFun S E) r;rw [←h];exact I)
def JH {p:Prop} (h:p) (k:p→JJ W w n D σ fs X):JJ W w n D σ fs X:=k h
section
variable {f N:Nat} {fn:Func} {c:Code} {R:Ending→World→Prop} {u1 u2 u3 u4 u5 u6 u7 u8:Value}
def JN0 (e:P.funcs[f]?=some fn) (N:Nat) (h:fn.ntmps=N:=by exact rfl) (hb:fn.body=some c:=by exact rfl) (r:decide (0≤N)=true:=by kernel_rfl) (k:JJ w w N [] [] [] (Code.wp P c (bodyPost P fn R))):Calls P f #[] w R:=
 wZ (vs:=[]) e hb h r rfl λa Z=>k a Z (Mem.start w)
def dV (e:P.funcs[f]?=some fn) (N:Nat) (h:fn.ntmps=N:=by exact rfl) (hb:fn.body=some c:=by exact rfl) (r:decide (1≤N)=true:=by kernel_rfl) (k:JJ w w N [] [(0,u1)] [] (Code.wp P c (bodyPost P fn R))):Calls P f #[u1] w R:=
 wZ (vs:=[u1]) e hb h r rfl λa Z=>k a Z (Mem.start w)
def iX (e:P.funcs[f]?=some fn) (N:Nat) (h:fn.ntmps=N:=by exact rfl) (hb:fn.body=some c:=by exact rfl) (r:decide (2≤N)=true:=by kernel_rfl) (k:JJ w w N [] [(0,u1),(1,u2)] [] (Code.wp P c (bodyPost P fn R))):Calls P f #[u1,u2] w R:=
 wZ (vs:=[u1,u2]) e hb h r rfl λa Z=>k a Z (Mem.start w)
def xD (e:P.funcs[f]?=some fn) (N:Nat) (h:fn.ntmps=N:=by exact rfl) (hb:fn.body=some c:=by exact rfl) (r:decide (3≤N)=true:=by kernel_rfl) (k:JJ w w N [] [(0,u1),(1,u2),(2,u3)] [] (Code.wp P c (bodyPost P fn R))):Calls P f #[u1,u2,u3] w R:=
 wZ (vs:=[u1,u2,u3]) e hb h r rfl λa Z=>k a Z (Mem.start w)
end
end
section
variable {P:Program} {ops o2:Array Oper} {Q:Exit→Act→World→Prop} {a:Act} {W w:World} {n d d2 fuel:Nat} {D:List Deferred} {σ σ':List (Nat×Value)} {o o':Oper} {op:Op} {v v1 v2 v3:Value} {X:Act→World→Prop} {fs gs fs':List Fact} {md:Region.Mode} {listed:Array Bool} {ex:List Nat} {S:World→Prop}
def VV (W w:World) (n:Nat) (D:List Deferred) (σ:List (Nat×Value)) (fs gs:List Fact) (X:Act→World→Prop):Prop:=∀a,Fr a n D σ→Mem W w fs→Mem W w gs→X a w
def Vb (Z:Fr a n D σ) (b:Mem W w fs) (c:Mem W w gs) (h:VV W w n D σ fs gs X):X a w:=h a Z b c
def jo (l:Array Bool) (b:List Nat):Array Bool:=b.foldl (λl i=>l.setIfInBounds i true) l
theorem Vs (m:rV fs gs) (ex:List Nat) {id c:Nat} (j:ops.size=c:=by exact rfl) (hm:P.follows .mixedOrders=true:=by kernel_rfl) (k:∀q,VV W q n D σ fs gs (qj P .any ops Q (λb=>Mem W b gs) ex c (Array.replicate ops.size false))):JJ W w n D σ fs (adp P (.region id ops true) Q):=
 λa Z e=>Uf hm (λb=>Mem W b gs) ex (by have h:=k w.drew a Z e.drew (e.drew.sel m);subst j;exact h)
theorem Vd (hr:Region.ready md ops listed=[]:=by kernel_rfl) (k:JJ W w n D σ fs (Q .normal)):VV W w n D σ fs gs (qj P md ops Q S ex fuel listed):=λa Z b _=>qd hr (k a Z b)
def CX (P:Program) (ops:Array Oper) (n:Nat):List Nat→List (Nat×Value)→Option (List (Nat×Value))
 |[],σ=>some σ
 |i::b,σ=>match qc4 P ops n i σ with
  |some σ'=>CX P ops n b σ'
  |none=>none
def oL (md:adJ) (ops:Array Oper) (ex:List Nat):List Nat→Array Bool→Bool
 |[],_=>true
 |i::b,l=>oq md ops ex l i&&oL md ops ex b (l.setIfInBounds i true)
def Nv:∀(b:List Nat) {l:Array Bool} {σ σ':List (Nat×Value)},CX P ops n b σ=some σ'→oL md ops ex b l=true→wY P md ops n ex b l σ=some (jo l b,σ')
 |[],_,_,_,h,_=>by injection h with h;subst h;rfl
 | i :: b, l, σ, σ', h, c => by
  unfold CX at h
  unfold oL at c
  rw [abF] at c
  split at h
  ·rename_i s hs
   unfold wY
   rw [if_pos c.1,hs]
   exact Nv b h c.2
  ·cases h
theorem Vp (b:List Nat) (h:CX P ops n b σ=some σ':=by exact rfl) (hk:oL md ops ex b listed=true:=by kernel_rfl) (j:∀c (a:Act) d v w,Q (.panic c) (a.put d v) w→Q (.panic c) a w:=by intro _ _ d _ _ h;cases d<;>exact h)
 (k:VV W w n D σ' fs gs (qj P md ops Q S ex fuel (jo listed b))) (q:∀w,Mem W w gs→S w:=by exact λ_ h=>h):VV W w n D σ fs gs (qj P md ops Q S ex (fuel+abl b) listed):=
 λa Z r e=>J2 j b Z (λ_=>q _ e) (Nv b h hk) λa Z=>k a Z r e
def Vq (b:List Nat) (new:List (Nat×Value)) (h:(CX P ops n b σ).map (λs=>(thin s σ new,new.map λp=>s.lookup p.1))=some (true,new.map λp=>some p.2):=by kernel_rfl) (hk:oL md ops ex b listed=true:=by kernel_rfl) (r:∀c (a:Act) d v w,Q (.panic c) (a.put d v) w→Q (.panic c) a w:=by intro _ _ d _ _ h;cases d<;>exact h)
 (k:VV W w n D (new++σ) fs gs (qj P md ops Q (λe=>Mem W e gs) ex fuel (jo listed b))):VV W w n D σ fs gs (qj P md ops Q (λe=>Mem W e gs) ex (fuel+abl b) listed):=by
 cases hs:CX P ops n b σ with
 |none=>rw [hs] at h;cases h
 |some s=>
  rw [hs] at h
  injection h with h
  injection h with h1 h2
  have j:=Nv b hs hk
  obtain ⟨full,u⟩:=MX b j
  exact λa Z z q=>J2 r b Z (λ_=>q) j λa Z=>k a (Z.thin u h1 h2) z q
section
variable {i:Nat}
def aar (h:fV ops σ n i=some (d,op)) (hk:rP md ops ex listed i=true) (r:∀c (a:Act) v w,Q (.panic c) (a.put (some d) v) w→Q (.panic c) a w) (hy:∀o:Oper,o.op=op→Yl P (λb=>Mem W b gs) σ o v)
 (k:VV W w n D ((d,v)::σ) fs gs (qj P md ops Q (λb=>Mem W b gs) ex fuel (listed.setIfInBounds i true))):VV W w n D σ fs gs (qj P md ops Q (λb=>Mem W b gs) ex (fuel+1) listed):=by
 obtain ⟨o,s,u,j,e,z⟩:=EB h
 exact λa Z A q=>CJ Z q s u j e hk (λc a w=>by rw [j];exact r c a v w) (hy o z) λa Z=>k a Z A q
def aan (h:fV ops σ n i=some (d,op)) (hk:oq md ops ex listed i=true) (r:∀c (a:Act) v w,Q (.panic c) (a.put (some d) v) w→Q (.panic c) a w) (hy:∀o:Oper,o.op=op→∀s,Yl P s σ o v)
 (k:VV W w n D ((d,v)::σ) fs gs (qj P md ops Q (λb=>Mem W b gs) ex fuel (listed.setIfInBounds i true))):VV W w n D σ fs gs (qj P md ops Q (λb=>Mem W b gs) ex (fuel+1) listed):=by
 obtain ⟨o,u,z,j,e,A⟩:=EB h
 exact λa Z C q=>rQ Z (λ_=>q) u z j e hk (λc a w=>by rw [j];exact r c a v w) (hy o A) λa Z=>k a Z C q
def aaz (h:fV ops σ n i=some (d,op)) (hr:acA md ops listed=[i]) (k:∀(o:Oper) a,o.op=op→o.dst=some d→d<n→Fr a n D σ→Mem W w fs→o.wp P a w (λj e=>(dG ex (listed.setIfInBounds i true)=false→Mem W e gs)∧qj P md ops Q (λb=>Mem W b gs) ex fuel (listed.setIfInBounds i true) j e) Q):VV W w n D σ fs gs (qj P md ops Q (λb=>Mem W b gs) ex (fuel+1) listed):=by
 obtain ⟨o,q,r,s,c,u⟩:=EB h
 exact λa Z z _=>zc [i] hr rfl (all_cons (qu Z q r (k o a u s c Z z)) all_nil)
end
theorem Vf (i off:Nat) {s f g b:Nat} {x:Operand} (h:fV ops σ n i=some (d,.fieldAddr s x f):=by exact rfl) (q:look σ x=some (.pointer (some ⟨g,b,none⟩)):=by exact rfl) (e:(CG P s f==some off&&oq md ops ex listed i)=true:=by kernel_rfl) (r:∀c (a:Act) v w,Q (.panic c) (a.put (some d) v) w→Q (.panic c) a w:=by exact λ_ _ _ _ h=>h)
 (k:VV W w n D ((d,.pointer (some ⟨g,b+off,none⟩))::σ) fs gs (qj P md ops Q (λj=>Mem W j gs) ex fuel (listed.setIfInBounds i true))):VV W w n D σ fs gs (qj P md ops Q (λj=>Mem W j gs) ex (fuel+1) listed):=by
 rw [abF,beq_iff_eq] at e
 exact aan h e.2 r (λo u _=>Yl.pure (by rw [u];simp only [rO,q,e.1];rw [acN])) k
theorem qF (i:Nat) {t tb:TypeId} {x:Operand} {g m:Nat} {C:Array Value} (j:SI P t m) (O:At gs (.blk g C tb)) (h:fV ops σ n i=some (d,.load t x):=by exact rfl) (q:look σ x=some (.pointer (some ⟨g,0,none⟩)):=by exact rfl) (hm:C.size=m:=by exact rfl) (b:rP md ops ex listed i=true:=by kernel_rfl) (r:∀c (a:Act) v w,Q (.panic c) (a.put (some d) v) w→Q (.panic c) a w:=by exact λ_ _ _ _ h=>h) (k:VV W w n D ((d,.agg C)::σ) fs gs (qj P md ops Q (λe=>Mem W e gs) ex fuel (listed.setIfInBounds i true))):VV W w n D σ fs gs (qj P md ops Q (λe=>Mem W e gs) ex (fuel+1) listed):=
 aar h b r (λo s=>let ⟨_,hi⟩:=O.get;Pe s q j hm λ_ h=>qi (h.blk hi)) k
theorem yY (i y sz:Nat) {t:TypeId} {x ix:Operand} {g of m c:Nat} {kd:Go.IntKind} (h:fV ops σ n i=some (d,.indexAddr t x ix):=by exact rfl) (j:look σ x=some (.slice (some ⟨g,of,none⟩) m c):=by exact rfl) (hi:look σ ix=some (.int kd (y:Int)):=by exact rfl) (hy:y<m:=by omega) (q:Av P t=some sz:=by kernel_rfl) (b:rP md ops ex listed i=true:=by kernel_rfl) (r:∀c (a:Act) v w,Q (.panic c) (a.put (some d) v) w→Q (.panic c) a w:=by exact λ_ _ _ _ h=>h) (k:VV W w n D ((d,.pointer (some ⟨g,of+y*sz,none⟩))::σ) fs gs (qj P md ops Q (λe=>Mem W e gs) ex fuel (listed.setIfInBounds i true))):VV W w n D σ fs gs (qj P md ops Q (λe=>Mem W e gs) ex (fuel+1) listed):=
 aar h b r (λo s=>Yl.ix g of y sz s j hi hy q) k
section
variable {α:Type} {f:α→List Value} {l:List α} {g of m sz:Nat} {t:TypeId} {x:Operand}
theorem EC (i:Nat) (r:∀x,(f x).length=sz) (hr:Rd W W.heap.size sz (some ⟨g,of,none⟩) m (l.flatMap f)) (j b:Nat) (s:α) (h:fV ops σ n i=some (d,.load t x):=by exact rfl) (u:look σ x=some (.pointer (some ⟨g,of+b*sz+j,none⟩)):=by exact rfl) (z:nth (f (l.getD b s)) j=some v:=by exact rfl) (hk:b<l.length:=by omega) (ht:fQ P t=true:=by kernel_rfl) (e:rP md ops ex listed i=true:=by kernel_rfl) (A:∀c (a:Act) v w,Q (.panic c) (a.put (some d) v) w→Q (.panic c) a w:=by exact λ_ _ _ _ h=>h) (k:VV W w n D ((d,v)::σ) fs gs (qj P md ops Q (λq=>Mem W q gs) ex fuel (listed.setIfInBounds i true))):VV W w n D σ fs gs (qj P md ops Q (λq=>Mem W q gs) ex (fuel+1) listed):=
 aar h e A (λ_ C=>aau r hr hk rfl z C u ht) k
def U2 (i:Nat) (r:∀x,(f x).length=sz) (hr:Rd W W.heap.size sz (some ⟨g,of,none⟩) m (l.flatMap f)) (b:Nat) (s:α) (h:fV ops σ n i=some (d,.load t x):=by exact rfl) (u:look σ x=some (.pointer (some ⟨g,of+b*sz,none⟩)):=by exact rfl) (z:nth (f (l.getD b s)) 0=some v:=by exact rfl) (hk:b<l.length:=by omega) (ht:fQ P t=true:=by kernel_rfl) (e:rP md ops ex listed i=true:=by kernel_rfl) (A:∀c (a:Act) v w,Q (.panic c) (a.put (some d) v) w→Q (.panic c) a w:=by exact λ_ _ _ _ h=>h) (k:VV W w n D ((d,v)::σ) fs gs (qj P md ops Q (λq=>Mem W q gs) ex fuel (listed.setIfInBounds i true))):VV W w n D σ fs gs (qj P md ops Q (λq=>Mem W q gs) ex (fuel+1) listed):=
 aar h e A (λ_ C=>aau r hr (j:=0) hk rfl z C u ht) k
end
theorem Vc (i:Nat) {g off:Nat} {x:Operand} {t tb:TypeId} {C:Array Value} (O:At gs (.blk g C tb)) (h:fV ops σ n i=some (d,.load t x):=by exact rfl) (e:look σ x=some (.pointer (some ⟨g,off,none⟩)):=by exact rfl) (j:nth C.toList off=some v:=by exact rfl) (ht:(fQ P t&&rP md ops ex listed i)=true:=by kernel_rfl) (q:∀c (a:Act) v w,Q (.panic c) (a.put (some d) v) w→Q (.panic c) a w:=by exact λ_ _ _ _ h=>h)
 (k:VV W w n D ((d,v)::σ) fs gs (qj P md ops Q (λb=>Mem W b gs) ex fuel (listed.setIfInBounds i true))):VV W w n D σ fs gs (qj P md ops Q (λb=>Mem W b gs) ex (fuel+1) listed):=by
 rw [abF] at ht
 exact aar h ht.2 q (λo r=>Pd r e ht.1 λ_ h=>let ⟨_,hi⟩:=O.get;h.cell hi (Kk j)) k
theorem Vl (i:Nat) {x:Operand} {t:TypeId} {A:Option Addr} {m c:Nat} (h:fV ops σ n i=some (d,.call {callee:= .builtin .len,args:= #[x],argTypes:= #[t]}):=by exact rfl) (e:look σ x=some (.slice A m c):=by exact rfl) (ht:(mQ P t&&oq md ops ex listed i)=true:=by kernel_rfl) (j:∀c (a:Act) v w,Q (.panic c) (a.put (some d) v) w→Q (.panic c) a w:=by exact λ_ _ _ _ h=>h)
 (k:VV W w n D ((d,.int .i64 (m:Int))::σ) fs gs (qj P md ops Q (λb=>Mem W b gs) ex fuel (listed.setIfInBounds i true))):VV W w n D σ fs gs (qj P md ops Q (λb=>Mem W b gs) ex (fuel+1) listed):=by
 rw [abF] at ht
 exact aan h ht.2 j (λo q _=>Yl.len q e ht.1) k
theorem Vn (i:Nat) {x:Operand} {p:Addr} (h:fV ops σ n i=some (d,.nilCheck x):=by exact rfl) (e:look σ x=some (.pointer (some p)):=by exact rfl) (ht:oq md ops ex listed i=true:=by kernel_rfl) (j:∀c (a:Act) v w,Q (.panic c) (a.put (some d) v) w→Q (.panic c) a w:=by exact λ_ _ _ _ h=>h)
 (k:VV W w n D ((d,.pointer (some p))::σ) fs gs (qj P md ops Q (λb=>Mem W b gs) ex fuel (listed.setIfInBounds i true))):VV W w n D σ fs gs (qj P md ops Q (λb=>Mem W b gs) ex (fuel+1) listed):=
 aan h ht j (λo q _=>Yl.nilCheck q e) k
theorem Vx (i:Nat) {x:Operand} {e:Nat} {vs:Array Value} (h:fV ops σ n i=some (d,.extract x e):=by exact rfl) (j:look σ x=some (.tuple vs):=by exact rfl) (q:nth vs.toList e=some v:=by exact rfl) (ht:oq md ops ex listed i=true:=by kernel_rfl) (r:∀c (a:Act) v w,Q (.panic c) (a.put (some d) v) w→Q (.panic c) a w:=by exact λ_ _ _ _ h=>h)
 (k:VV W w n D ((d,v)::σ) fs gs (qj P md ops Q (λb=>Mem W b gs) ex fuel (listed.setIfInBounds i true))):VV W w n D σ fs gs (qj P md ops Q (λb=>Mem W b gs) ex (fuel+1) listed):=
 aan h ht r (λo s _=>Yl.pure (by rw [s];simp only [rO,j];exact Kk q)) k
theorem Vy (i:Nat) (q:ops[i]?=some o:=by exact rfl) (r:dF ops σ o=some true:=by exact rfl) (s:o.dst=some d:=by exact rfl) (e:d<n:=by decide) (h:Yl P (λb=>Mem W b gs) σ o v) (ht:rP md ops ex listed i=true:=by kernel_rfl) (u:∀c (a:Act) w,Q (.panic c) (a.put o.dst v) w→Q (.panic c) a w:=by exact λ_ _ _ h=>h)
 (k:VV W w n D ((d,v)::σ) fs gs (qj P md ops Q (λb=>Mem W b gs) ex fuel (listed.setIfInBounds i true))):VV W w n D σ fs gs (qj P md ops Q (λb=>Mem W b gs) ex (fuel+1) listed):=
 λa Z z j=>CJ Z j q r s e ht u h λa Z=>k a Z z j
theorem Vu (i:Nat) (q:ops[i]?=some o:=by exact rfl) (r:dF ops σ o=some true:=by exact rfl) (s:o.dst=some d:=by exact rfl) (b:d<n:=by decide) (h:∀u:World→Prop,Yl P u σ o v) (ht:oq md ops ex listed i=true:=by kernel_rfl) (z:∀c (a:Act) w,Q (.panic c) (a.put o.dst v) w→Q (.panic c) a w:=by exact λ_ _ _ h=>h)
 (k:VV W w n D ((d,v)::σ) fs gs (qj P md ops Q (λe=>Mem W e gs) ex fuel (listed.setIfInBounds i true))):VV W w n D σ fs gs (qj P md ops Q (λe=>Mem W e gs) ex (fuel+1) listed):=
 λa Z A j=>rQ Z (λ_=>j) q r s b ht z h λa Z=>k a Z A j
theorem Vo (u:Value) (h:v=u) (k:VV W w n D ((d,u)::σ) fs gs X):VV W w n D ((d,v)::σ) fs gs X:=by subst h;exact k
theorem VH {p:Prop} (h:p) (k:p→VV W w n D σ fs gs X):VV W w n D σ fs gs X:=k h
section
variable {x y:Operand} {t t2:TypeId} {k:Go.IntKind} {m p B:Nat}
def aaV (i:Nat) {j:BinOp} {u:Value} {z I:Value} (h:fV ops σ n i=some (d,.binOp j t x y t2)) (q:look σ x=some z) (hy:look σ y=some I) (ht:oq md ops ex listed i=true) (r:∀c (a:Act) v w,Q (.panic c) (a.put (some d) v) w→Q (.panic c) a w) (s:Ee z=true) (hb:rM j z I=some v) (e:v=u)
 (K:VV W w n D ((d,u)::σ) fs gs (qj P md ops Q (λb=>Mem W b gs) ex fuel (listed.setIfInBounds i true))):VV W w n D σ fs gs (qj P md ops Q (λb=>Mem W b gs) ex (fuel+1) listed):=by
 subst e
 exact aan h ht r (λo A _=>Yl.pure (by rw [A];simp only [rO,q,hy,s,if_true];exact hb)) K
def Va (i:Nat) (h:fV ops σ n i=some (d,.binOp .add t x y t2):=by exact rfl) (e:look σ x=some (.int k (m:Int)):=by exact rfl) (hy:look σ y=some (.int k (p:Int)):=by exact rfl) (j:jP k=some B:=by exact rfl) (hb:m+p≤B:=by omega) (ht:oq md ops ex listed i=true:=by kernel_rfl) (q:∀c (a:Act) v w,Q (.panic c) (a.put (some d) v) w→Q (.panic c) a w:=by exact λ_ _ _ _ h=>h)
 (K:VV W w n D ((d,.int k ((m+p:Nat):Int))::σ) fs gs (qj P md ops Q (λb=>Mem W b gs) ex fuel (listed.setIfInBounds i true))):VV W w n D σ fs gs (qj P md ops Q (λb=>Mem W b gs) ex (fuel+1) listed):=
 aaV i h e hy ht q rfl (U0 _ _ _) (by rw [show ((m:Int)+(p:Int))=((m+p:Nat):Int) from rfl,CV j hb]) K
theorem xE (i p:Nat) {z:Int} (h:fV ops σ n i=some (d,.binOp .add t x y t2):=by exact rfl) (e:look σ x=some (.int k (m:Int)):=by exact rfl) (hy:look σ y=some (.int k z):=by exact rfl) (hz:z=(p:Int):=by exact rfl) (j:jP k=some B:=by exact rfl) (hb:m+p≤B:=by omega) (ht:oq md ops ex listed i=true:=by kernel_rfl) (q:∀c (a:Act) v w,Q (.panic c) (a.put (some d) v) w→Q (.panic c) a w:=by exact λ_ _ _ _ h=>h)
 (K:VV W w n D ((d,.int k ((m+p:Nat):Int))::σ) fs gs (qj P md ops Q (λb=>Mem W b gs) ex fuel (listed.setIfInBounds i true))):VV W w n D σ fs gs (qj P md ops Q (λb=>Mem W b gs) ex (fuel+1) listed):=by
 subst hz;exact Va i h e hy j hb ht q K
theorem ED (i p:Nat) {z:Int} (h:fV ops σ n i=some (d,.binOp .sub t x y t2):=by exact rfl) (e:look σ x=some (.int k (m:Int)):=by exact rfl) (hy:look σ y=some (.int k z):=by exact rfl) (hz:z=(p:Int):=by exact rfl) (j:jP k=some B:=by exact rfl) (hb:p≤m∧m-p≤B:=by omega) (ht:oq md ops ex listed i=true:=by kernel_rfl) (q:∀c (a:Act) v w,Q (.panic c) (a.put (some d) v) w→Q (.panic c) a w:=by exact λ_ _ _ _ h=>h)
 (K:VV W w n D ((d,.int k ((m-p:Nat):Int))::σ) fs gs (qj P md ops Q (λb=>Mem W b gs) ex fuel (listed.setIfInBounds i true))):VV W w n D σ fs gs (qj P md ops Q (λb=>Mem W b gs) ex (fuel+1) listed):=by
 subst hz
 exact aaV i h e hy ht q rfl (U1 _ _ _) (by rw [show ((m:Int)- (p:Int))=((m-p:Nat):Int) by omega,CV j hb.2]) K
theorem Vw (i:Nat) (k:Go.IntKind) {e:Go.IntKind} (h:fV ops σ n i=some (d,.convert t t2 x):=by exact rfl) (j:look σ x=some (.int e (m:Int)):=by exact rfl) (hk:(xC P t t2==some k&&oq md ops ex listed i)=true:=by kernel_rfl) (q:jP k=some B:=by exact rfl) (hb:m≤B:=by omega) (r:∀c (a:Act) v w,Q (.panic c) (a.put (some d) v) w→Q (.panic c) a w:=by exact λ_ _ _ _ h=>h)
 (K:VV W w n D ((d,.int k (m:Int))::σ) fs gs (qj P md ops Q (λb=>Mem W b gs) ex fuel (listed.setIfInBounds i true))):VV W w n D σ fs gs (qj P md ops Q (λb=>Mem W b gs) ex (fuel+1) listed):=by
 rw [abF,beq_iff_eq] at hk
 obtain ⟨hk,ht⟩:=hk
 refine aan h ht r (λo s _=>Yl.pure (by
  rw [s]
  unfold xC at hk
  split at hk
  ·rename_i u z h1 h2
   injection hk with hk
   subst hk
   simp only [rO,h1,h2,j,CV q hb]
  ·cases hk)) K
end
def VA (i:Nat) (m:rV fs gs) (r:Array Value) {e:TypeId} (h:fV ops σ n i=some (d,.alloc e):=by exact rfl) (hz:wz P e=some r:=by kernel_rfl) (hr:Region.ready md ops listed=[i]:=by kernel_rfl)
 (k:∀c g,VV W c n D ((d,.pointer (some ⟨g,0,none⟩))::σ) (.blk g r e::fs) gs (qj P md ops Q (λj=>Mem W j gs) ex fuel (listed.setIfInBounds i true))):VV W w n D σ fs gs (qj P md ops Q (λj=>Mem W j gs) ex (fuel+1) listed):=
 aaz h hr λ_ _ s u q Z b=>MZ Z b s hz u q λa c g Z b=>⟨λ_=>b.sel (.f m),k c g a Z b (b.sel (.f m))⟩
theorem VI (i:Nat) (m:rV fs gs) {f:FuncId} {xs:Array Operand} {ts:Array TypeId} {vs:List Value} (h0:fV ops σ n i=some (d,.call {callee:= .value (.func f),args:=xs,argTypes:=ts}):=by exact rfl) (q:looks σ xs.toList=some vs:=by exact rfl) (h:Mem W w fs→Calls P f vs.toArray w (λr b=>r= .returned v∧Below w.heap.size w b)) (s:callable P f=true:=by kernel_rfl) (hr:Region.ready md ops listed=[i]:=by kernel_rfl)
 (k:∀b,Below w.heap.size w b→VV W b n D ((d,v)::σ) fs gs (qj P md ops Q (λe=>Mem W e gs) ex fuel (listed.setIfInBounds i true))):VV W w n D σ fs gs (qj P md ops Q (λe=>Mem W e gs) ex (fuel+1) listed):=
 aaz h0 hr λ_ _ u z j Z c=>yS Z u q s z j (h c) λ_ b ⟨h1,h2⟩=>⟨v,h1,λa Z=>⟨λ_=>(c.call h2).sel m,k b h2 a Z (c.call h2) ((c.call h2).sel m)⟩⟩
theorem VK (i:Nat) (m:rV fs gs) {f:FuncId} {xs:Array Operand} {ts:Array TypeId} {vs:List Value} {V:Option Addr→Nat→Value} {l sz:Nat} {e:TypeId} {ys:List Value} (h0:fV ops σ n i=some (d,.call {callee:= .value (.func f),args:=xs,argTypes:=ts}):=by exact rfl) (u:looks σ xs.toList=some vs:=by exact rfl) (h:Mem W w fs→Calls P f vs.toArray w (λr b=>(∃A c,r= .returned (V A c)∧b.ownsRow w.heap.size e sz (.slice A l c) l ys∧l≤c)∧Below w.heap.size w b)) (z:callable P f=true:=by kernel_rfl) (hr:Region.ready md ops listed=[i]:=by kernel_rfl)
 (k:∀A c b,l≤c→VV W b n D ((d,V A c)::σ) (.row (.slice A l c) l ys e sz::fs) gs (qj P md ops Q (λq=>Mem W q gs) ex fuel (listed.setIfInBounds i true))):VV W w n D σ fs gs (qj P md ops Q (λq=>Mem W q gs) ex (fuel+1) listed):=
 aaz h0 hr λ_ _ C E s Z j=>yS Z C u z E s (h j) λr b ⟨⟨A,c,h1,h2,h3⟩,h4⟩=>⟨_,h1,λa Z=>⟨λ_=>(j.bL h4 h2).sel (.f m),k A c b h3 a Z (j.bL h4 h2) ((j.bL h4 h2).sel (.f m))⟩⟩
end
structure Bb (x:Sm) (w:World) (r:Ending) (w':World):Prop where
 ret:r= .returned (.agg x.ev.cells)
 below:Below w.heap.size w w'
def zeg (x:Sm):∀v∈x.cells.toList,v.oneCell'=true:=by intro v a;simp [Sm.cells] at a;rcases a with rfl|rfl|rfl|rfl|rfl|rfl|rfl|rfl|rfl|rfl|rfl<;>rfl
def zeh (t:Nat):abQ .i64 (if (1:Int)>(t:Int) then 1 else (t:Int))= .int .i64 ((max t 1:Nat):Int):=by congr 1;split<;>omega
theorem zA (hc:c<64):2^c<18446744073709551616:=by
 have:(2:Nat)^c<2^64:=Nat.pow_lt_pow_right om hc
 omega
def zh8 {m c:Nat} (hm:m<18446744073709551616) (hc:c<64):abQ .u64 (IntKind.u64.wrap (abW IntKind.u64.bits (m:Int)|||abW IntKind.u64.bits ((2^c:Nat):Int)).toNat)= .int .u64 ((m|||2^c:Nat):Int):=Uv (m:=m) (n:=2^c) hm (zA hc)
def q8o {S:World→Prop} {b:acf} (a:o.op= .binOp .shl t x y u) (d:look σ x=some (.int .u64 1)) (hy:look σ y=some (.int b (c:Int))) (hc:c<64):Yl abm S σ o (.int .u64 ((2^c:Nat):Int)):=by
 have h:=aax (P:=abm) (S:=S) (σ:=σ) (m:=1) (n:=c) a d hy (by show c≤64;omega) (by show 1*2^c≤18446744073709551615;have:=zA hc;omega)
 rwa [agS] at h
theorem q2m (x:Sm) (h:x.Ok) (w:World):Calls abm 159 #[.agg x.cells] w (Bb x w):=by
 refine (dV Tryz.func159 110) ?_
 refine (JP∘JE) λX Y=>(JA #[vI 0,vI 0,vB 0,vB 0,vI 0,vI 0,vI 0,vI 0,vI 0,vQ 0,vI 0]) λw2 g2=>(Jq) ?_
 obtain ⟨h1,h2,h3,h4,h5,h6,h7,h8,h9,h10,s⟩:=h
 refine (JG∘JP∘Jg 2 O1∘Jw .i64∘Jp 1∘Jo (vI (1+x.seq:Nat)) (by exact q7 om om)∘Jg 3 O1∘Jw .i64∘Jg 1 O1∘Jp 1∘Jo (vB (x.cpu%64:Nat)) (by exact za .u8 _ 64)∘Jg 0 O1∘Jp 1∘Jo (vB (x.kind%10:Nat)) (by exact za .u8 _ 10)∘Jp 1∘Jo (vB (1+(x.kind%10):Nat)) (by exact zhx om om)∘fu #[vI (1+x.seq:Nat),vI x.time,vB (x.cpu%64:Nat),vB (1+(x.kind%10):Nat),vI 0,vI 0,vI 0,vI 0,vI 0,vQ 0,vI 0]∘JA #[vI 0,vI 0,vB 0,vB 0,vI 0,vI 0,vI 0,vI 0,vI 0,vQ 0,vI 0]) λw3 g3=>(JV ⟨kr,kr⟩ aT) λt=>(aG∘Jj) λa Z b=>?_
 refine wp_seq ?_
 refine Jb Z b ((Vs .n []) λM=>(Vf 0 4∘Vf 5 7∘Vf 10 9∘Vc 1 O2∘Vw 2 .i64∘Vp [3]∘Vo (vI (x.task%65535:Nat)) (by exact za .i64 _ 65535)∘Vp [4]∘Vo (vI (1+(x.task%65535):Nat)) (by exact q7 om om)∘Vp [15]∘Vc 6 O2∘Vw 7 .i64∘Vp [8]∘Vo (vI (x.weight%65536:Nat)) (by exact za .i64 _ 65536)∘Vp [9]∘Vo (vI (1+(x.weight%65536):Nat)) (by exact q7 om om)∘Vp [16]∘Vc 11 O2∘Vw 12 .i64∘Vp [13]∘Vo (vI (x.got%65535:Nat)) (by exact za .i64 _ 65535)∘Vp [14]∘Vo (vI (1+(x.got%65535):Nat)) (by exact q7 om om)∘Vp [17]∘Vd∘gu∘JQ∘JP∘Jg 3 O0∘Jj∘JB∘JP∘Jp 2∘aK∘Jj) (Je (λg=>?_) λg=>?_))
 ·
  refine (JT∘Vs (.f .n) [19]) λN=>(Vp [0]∘Vf 1 5∘Vp [5]∘Vf 6 10∘Vf 8 2∘Vc 2 O1∘Vw 3 .i64∘Vp [4]∘Vo (vI (x.group%256:Nat)) (by exact za .i64 _ 256)∘Vc 7 O1) λa Z b d=>?_
  refine s_on Z 9 rfl ?_
  refine Yl.wp (S:=λu=>Mem w u _) (v:=vB (x.cpu%64:Nat)) (Pd rfl rfl kr (λ_ h=>h.cell (i:=0) rfl rfl)) Z b rfl de λa Z=>?_
  refine ay d (λd=>?_)
  refine Vb Z b d ((Vf 12 4∘Vy 10 (v:=vQ (2^ (x.cpu%64):Nat)) (h:=by exact q8o rfl rfl rfl (adr _ de))∘Vp [11]∘Vo (vQ (x.mask|||2^ (x.cpu%64):Nat)) (by exact zh8 s (adr _ de))) λa Z b d=>?_)
  refine s_on Z 13 rfl (fE Z b 0 λy b=>?_)
  refine ay (b.pk [1,2]) (λd=>?_)
  refine Vb Z b d ((Vf 14 5) λa Z b d=>?_)
  refine s_on Z 15 rfl (fE Z b 0 λz b=>?_)
  refine ay (b.pk [1,2]) (λd=>?_)
  refine Vb Z b d ((Vf 16 7) λa Z b d=>?_)
  refine s_on Z 17 rfl (fE Z b 0 λA b=>?_)
  refine ay (b.pk [1,2]) (λd=>?_)
  refine Vb Z b d ((Vf 18 9) λa Z b d=>?_)
  refine s_on Z 19 rfl (fE Z b 0 λB b=>?_)
  refine dJ kr ?_
  refine qd kr ?_
  refine Jb Z b ((JG∘JP∘Jy (v:= .agg #[vI (1+x.seq:Nat),vI x.time,vB (x.cpu%64:Nat),vB (1+(x.kind%10):Nat),vI (1+(x.task%65535):Nat),vI (x.group%256:Nat),vI 0,vI (1+(x.weight%65536):Nat),vI 0,vQ (x.mask|||2^ (x.cpu%64):Nat),vI 0]) (h:=by exact Pe rfl rfl ⟨kr,kr⟩ rfl (λ_ h=>qi (h.blk (i:=0) rfl)))∘JV ⟨kr,kr⟩ fU) λc=>(iE∘Jj∘JZ) ?_)
  have e:x.kind%10=0:=by omega
  intro a Z b
  exact iq rfl Z (.cellS (i:=1) Z b rfl rfl ⟨kr,kr⟩ rfl) (⟨by simp [Sm.ev,Ev.cells,e],b.below⟩)
 refine (JF∘JP∘Jp 2∘aK∘Jj) (Je (λj=>?_) λj=>?_)
 ·
  refine (JT∘JR∘Jp 1∘Jf 4∘JW aT rW) λJ=>(mI∘Jr∘d9 ⟨kr,kr⟩ O0∘JV ⟨kr,kr⟩ fU) λc=>(mW∘Jj∘JZ) ?_
  have e:x.kind%10=1:=by omega
  intro a Z b
  exact iq rfl Z (.cellS (i:=1) Z b rfl rfl ⟨kr,kr⟩ rfl) (⟨by simp [Sm.ev,Ev.cells,e],b.below⟩)
 refine (JF∘JP∘Jp 2∘aK∘Jj) (Je (λk=>?_) λk=>?_)
 ·
  refine (JT∘JR∘Jg 8 O2∘Jw .i64∘Jy (v:=vI (if (1:Int)>(x.ticks:Int) then 1 else (x.ticks:Int))) (h:=by exact Yl.max rfl rfl rfl)∘Jo (vI (max x.ticks 1:Nat)) (by exact zeh _)∘Jp 2∘Jo (vI (x.got%65535:Nat)) (by exact q7 om om)∘Jf 8∘JW aT Nr) λC=>(Jf 10) λa Z b=>?_
  refine fo Z 9 rfl rfl (fE Z b 0 λD b=>?_)
  refine Jb Z b ((iE∘Jr∘Jy (v:= .agg #[vI (1+x.seq:Nat),vI x.time,vB (x.cpu%64:Nat),vB (1+(x.kind%10):Nat),vI 0,vI 0,vI 0,vI 0,vI (max x.ticks 1:Nat),vQ 0,vI (x.got%65535:Nat)]) (h:=by exact Pe rfl rfl ⟨kr,kr⟩ rfl (λ_ h=>qi (h.blk (i:=0) rfl)))∘JV ⟨kr,kr⟩ fU) λc=>(mI∘Jj∘JZ) ?_)
  have e:x.kind%10=4:=by omega
  intro a Z b
  exact iq rfl Z (.cellS (i:=1) Z b rfl rfl ⟨kr,kr⟩ rfl) (⟨by simp [Sm.ev,Ev.cells,e],b.below⟩)
 refine (JF∘JP∘Jp 2∘aK∘Jj) (Je (λl=>?_) λl=>?_)
 ·
  refine (JT∘JR∘Jp 2∘Jo (vI (x.got%65535:Nat)) (by exact q7 om om)∘Jf 10) λa Z b=>?_
  refine fo Z 3 rfl rfl (fE Z b 0 λE b=>?_)
  refine Jb Z b ((ow∘Jr∘Jy (v:= .agg #[vI (1+x.seq:Nat),vI x.time,vB (x.cpu%64:Nat),vB (1+(x.kind%10):Nat),vI 0,vI 0,vI 0,vI 0,vI 0,vQ 0,vI (x.got%65535:Nat)]) (h:=by exact Pe rfl rfl ⟨kr,kr⟩ rfl (λ_ h=>qi (h.blk (i:=0) rfl)))∘JV ⟨kr,kr⟩ fU) λc=>(mW∘Jj∘JZ) ?_)
  have e:x.kind%10=5:=by omega
  intro a Z b
  exact iq rfl Z (.cellS (i:=1) Z b rfl rfl ⟨kr,kr⟩ rfl) (⟨by simp [Sm.ev,Ev.cells,e],b.below⟩)
 refine (JF∘JP∘Jp 2∘aK∘Jj) (Je (λm=>?_) λm=>?_)
 ·
  refine (JT∘JR∘Jp 2∘Jf 4∘JW aT rW) λF=>(Jf 7∘JW aT xB) λG=>(wI∘Jr∘d9 ⟨kr,kr⟩ O0∘JV ⟨kr,kr⟩ fU) λc=>(mW∘Jj∘JZ) ?_
  have e:x.kind%10=6:=by omega
  intro a Z b
  exact iq rfl Z (.cellS (i:=1) Z b rfl rfl ⟨kr,kr⟩ rfl) (⟨by simp [Sm.ev,Ev.cells,e],b.below⟩)
 refine (JF∘JP∘Jp 2∘aK∘Jj) (Je (λo=>?_) λo=>?_)
 ·
  refine (JT∘JR∘Jg 5 O2∘Jw .i64∘Jp 1∘Jo (vI (x.group%255:Nat)) (by exact za .i64 _ 255)∘Jp 1∘Jo (vI (1+(x.group%255):Nat)) (by exact q7 om om)∘Jp 1∘Jf 5∘JW aT tX) λH=>(Jf 7∘JW aT xB) λI=>(iE∘Jr∘d9 ⟨kr,kr⟩ O0∘JV ⟨kr,kr⟩ fU) λc=>(mI∘Jj∘JZ) ?_
  have e:x.kind%10=7:=by omega
  intro a Z b
  exact iq rfl Z (.cellS (i:=1) Z b rfl rfl ⟨kr,kr⟩ rfl) (⟨by simp [Sm.ev,Ev.cells,e],b.below⟩)
 refine (JF∘JP∘Jp 2∘aK∘Jj) (Je (λp=>?_) λp=>?_)
 ·
  refine (JT∘Vs (.f .n) [14]) λK=>(Vp [0]∘Vf 1 2∘Vf 5 6∘Vc 6 O1∘Vw 7 .i64∘Vp [8]∘Vo (vI (x.to%63:Nat)) (by exact za .i64 _ 63)) λa Z b d=>?_
  refine s_on Z 2 rfl ?_
  refine Yl.wp (S:=λu=>Mem w u _) (v:=vB (x.cpu%64:Nat)) (Pd rfl rfl kr (λ_ h=>h.cell (i:=0) rfl rfl)) Z b rfl de λa Z=>?_
  refine ay d (λd=>?_)
  refine Vb Z b d ((Vf 11 4∘Vw 3 .i64∘xE 4 1∘Va 9∘Vp [10]∘Vo (vI ((x.cpu%64+1+(x.to%63))%64:Nat)) (by exact za .i64 _ 64)) λa Z b d=>?_)
  refine s_on Z 12 rfl (fE Z b 0 λq b=>?_)
  refine ay (b.pk [1,2]) (λd=>?_)
  refine Vb Z b d ((Vf 13 6) λa Z b d=>?_)
  refine s_on Z 14 rfl (fE Z b 0 λr b=>?_)
  refine dJ kr ?_
  refine qd kr ?_
  refine Jb Z b ((JG∘JP∘Jy (v:= .agg #[vI (1+x.seq:Nat),vI x.time,vB (x.cpu%64:Nat),vB (1+(x.kind%10):Nat),vI (1+(x.task%65535):Nat),vI 0,vI ((x.cpu%64+1+(x.to%63))%64:Nat),vI 0,vI 0,vQ 0,vI 0]) (h:=by exact Pe rfl rfl ⟨kr,kr⟩ rfl (λ_ h=>qi (h.blk (i:=0) rfl)))∘JV ⟨kr,kr⟩ fU) λc=>(iE∘Jj∘JZ) ?_)
  have e:x.kind%10=8:=by omega
  intro a Z b
  exact iq rfl Z (.cellS (i:=1) Z b rfl rfl ⟨kr,kr⟩ rfl) (⟨by simp [Sm.ev,Ev.cells,e],b.below⟩)
 refine (JF∘JR∘Jp 1∘Jf 10) λa Z b=>?_
 refine fo Z 2 rfl rfl (fE Z b 0 λL b=>?_)
 refine Jb Z b ((mI∘Jr∘Jy (v:= .agg #[vI (1+x.seq:Nat),vI x.time,vB (x.cpu%64:Nat),vB (1+(x.kind%10):Nat),vI 0,vI 0,vI 0,vI 0,vI 0,vQ 0,vI (1+(x.got%65535):Nat)]) (h:=by exact Pe rfl rfl ⟨kr,kr⟩ rfl (λ_ h=>qi (h.blk (i:=0) rfl)))∘JV ⟨kr,kr⟩ fU) λc=>(mW∘Jj∘JZ) ?_)
 have O:x.kind%10≠0:=om;have P:x.kind%10≠1:=om;have Q:x.kind%10≠4:=om;have R:x.kind%10≠5:=om;have T:x.kind%10≠6:=om;have U:x.kind%10≠7:=om;have V:x.kind%10≠8:=om;have W:(x.kind%10=2∨x.kind%10=3∨x.kind%10=9):=by omega
 intro a Z b
 exact iq rfl Z (.cellS (i:=1) Z b rfl rfl ⟨kr,kr⟩ rfl) (⟨by simp [Sm.ev,Ev.cells,O,P,Q,R,T,U,V,W],b.below⟩)
section
variable {P:Program} {Q:Exit→Act→World→Prop} {a:Act} {W w w':World} {n d:Nat} {D:List Deferred} {σ:List (Nat×Value)} {o:Oper} {v:Value} {K:Act→World→Prop} {fs:List Fact}
def run_copy_row (w:World) (p q r elem:TypeId) (i:TypeInfo) (b off e h:Nat) (ad:Addr) (c f:Nat) (g:List Value) (s:P.underlying p=some (.slice elem)) (hi:P.info? elem=some i) (t:abl g=afP c e*i.size)
  (k:∀j v,g[j]?=some v→w.cell? (ad.add j)=some v) (hc:w.there b off (abl g)) (h1:∀v∈g,v.oneCell'=true):
  (agh #[p,q] r #[.slice (some ⟨b,off,none⟩) e h,.slice (some ad) c f]).run P w= .ok (goInt (afP c e)) (w.setCells b off g):=by
 have u:=run_firstCells_some (P:=P) w i.size (afP c e) ad c f g t k
 have l:=run_storeCells_cells (P:=P) b off g 0 w (by simpa using λj m=>(hc j m).1) (by simpa using λj m=>(hc j m).2) h1
 simp only [acF] at l
 simp [agh,run_underlying s,ae5,sizeOf,typeInfo,hi,u,l]
def KD (Z:Fr a n D σ) (s:Mem W w fs) {x y:Operand} {t e:TypeId} {z:Value} {size bytes i g off h u sn sc m c:Nat} {ad:Addr} {xs:List Value} (news:List Value) (l:o.op= .call {callee:= .builtin .copy,args:= #[x,y],argTypes:= #[t,t]}) (A:EI P t e z size bytes)
  (E:look σ x=some (.slice (some ⟨g,off,none⟩) h u)) (hy:look σ y=some (.slice (some ad) sn sc)) (hi:fs[i]?=some (.row (.slice (some ⟨g,0,none⟩) m c) m xs e size)) (hk:news.length=Nat.min sn h*size) (b:∀j v,news[j]?=some v→w.cell? (ad.add j)=some v) (h1:∀v∈news,v.oneCell'=true) (B:off+news.length≤xs.length)
  (F:o.dst=some d) (p:d<n) (k:∀C w',Fr C n D ((d,.int .i64 (Nat.min sn h:Nat))::σ)→Mem W w' (fs.set i (.row (.slice (some ⟨g,0,none⟩) m c) m (putAt xs off news) e size))→K C w'):o.wp P a w K Q:=by
 obtain ⟨G,q,hz,r,H⟩:=info_parts A.hi
 have f:=run_copy_row (P:=P) w t t o.type e G g off h u ad sn sc news A.ht q (by rw [r];exact hk) b (J9 s hi off _ B) h1
 unfold acR execOp
 simp only [l,resolve,invoke,builtin,abL,abR,abx,acT,acS,ade,Z.eval E,Z.eval hy,f,aco,F]
 exact k _ _ (Z.put p _) (s.nP hi B)
def qnz (w:World) (t e i:TypeId) (z:Value) (ht:P.underlying t=some (.slice e)) (k:∀w,(zeroValue e).run P w= .ok z w) (b off n c:Nat) (l:0<n) (hc:w.there b off (abY z.cells n).toList.length) (h1:∀v∈(abY z.cells n).toList,v.oneCell'=true):
  (agb #[t] i #[.slice (some ⟨b,off,none⟩) n c]).run P w= .ok (.tuple #[]) (w.setCells b off (abY z.cells n).toList):=by
 have f:=run_storeCells_cells (P:=P) b off (abY z.cells n).toList 0 w (λj g=>by have h:=(hc j g).1;simpa only [acF] using h) (λj g=>by have h:=(hc j g).2;simpa only [acF] using h) h1
 simp only [acF] at f
 obtain ⟨m,rfl⟩:∃m,n=m+1:=⟨n-1,by omega⟩
 simp [agb,run_underlying ht,k,f]
def zen (Z:Fr a n D σ) (q:Mem W w fs) {x:Operand} {t e:TypeId} {z:Value} {size bytes i g off b r m c:Nat} {xs:List Value} (j:o.op= .call {callee:= .builtin .clear,args:= #[x],argTypes:= #[t]}) (l:EI P t e z size bytes)
  (y:look σ x=some (.slice (some ⟨g,off,none⟩) b r)) (hi:fs[i]?=some (.row (.slice (some ⟨g,0,none⟩) m c) m xs e size)) (f:0<b) (h1:∀v∈(Builtin.zeroCells z.cells b).toList,v.oneCell'=true) (s:off+b*size≤xs.length)
  (A:o.dst=none) (k:∀w',Mem W w' (fs.set i (.row (.slice (some ⟨g,0,none⟩) m c) m (putAt xs off (Builtin.zeroCells z.cells b).toList) e size))→K a w'):o.wp P a w K Q:=by
 obtain ⟨E,p,hz,B,C⟩:=info_parts l.hi
 have u:(abY z.cells b).toList.length=b*size:=by rw [acv,size_zeroCells,l.hz]
 have h:=qnz (P:=P) w t e o.type z l.ht (λw=>by simp [zeroValue,typeInfo,p,hz]) g off b r f (J9 q hi off _ (by rw [u];exact s)) h1
 unfold acR execOp
 simp only [j,resolve,invoke,builtin,abL,abR,abx,acT,acS,ade,Z.eval y,h,aco,A]
 exact k _ (q.nP hi (by rw [u];exact s))
def qi8 (w:World) (t tn B e:TypeId) (i:TypeInfo) (z:Value) (k kn:IntKind) (ht:P.underlying t=some (.slice e)) (q:P.underlying tn=some (.int kn)) (hi:P.info? e=some i) (hz:i.zero=some z)
  (b:Addr) (c f:Nat) (g:List Value) (r:abl g=c*i.size) (holds:∀j v,g[j]?=some v→w.cell? (b.add j)=some v) (n:Nat) (h0:0<n) (hs:0<i.size) (F:f<c+n) (h63:((c+n:Nat):Int)≤9223372036854775807) (y:afn (c+n) f*i.bytes≤281474976710656) (C:n*i.bytes≤281474976710656):
  (ac0 #[t, tn] B #[.slice (some b) c f, .int k n]).run P w =
   .ok (.slice (some ⟨w.heap.size,0,none⟩) (c+n) (grownCap w (c+n) f e)) (w.drew.alloc (.cells (g.toArray++abY z.cells n++abY z.cells (grownCap w (c+n) f e- (c+n))) e)):=by
 have A:n≠0:=by omega
 have E:IntKind.i64.wrap (n:Int)=n:=by rw [IntKind.wrap_i64];omega
 have s:¬(c+n≤f):=by omega
 have h:¬(9223372036854775807<((c:Int)+(n:Int))):=by omega
 have l:¬(281474976710656<afn (c+n) f*i.bytes):=by omega
 have m:¬(281474976710656<(n:Int)*(i.bytes:Int)):=by
  rw [←Int.natCast_mul]
  omega
 have p:¬((n:Int)<0):=by omega
 have u:¬(n*i.size=0):=agx A om
 have x:=run_firstCells_some (P:=P) w.drew i.size c b c f g r (by simpa using holds)
 simp [ac0,run_underlying ht,run_underlying q,sizeOf,typeInfo,zeroValue,hi,hz,asInt,asIntOf,E,A,s,p,u,h,l,m,Question.forced,x,newRow,grownCap]
def qls (Z:Fr a n D σ) (F:Mem W w fs) {s x:Operand} {t tn e:TypeId} {z:Value} {size bytes c cap m:Nat} {ad:Addr} {xs:List Value} {kn k:IntKind} (r:o.op= .call {callee:= .builtin .append,args:= #[s,x],argTypes:= #[t,tn]}) (f:EI P t e z size bytes) (u:P.underlying tn=some (.int kn))
  (hs:look σ s=some (.slice (some ad) c cap)) (G:look σ x=some (.int k (m:Int))) (b:xs.length=c*size∧∀j v,xs[j]?=some v→w.cell? (ad.add j)=some v) (hm:0<m) (C:cap<c+m) (hb:(c+m)*bytes≤140737488355328) (h63:c+m≤9223372036854775807)
  (H:o.dst=some d) (y:d<n) (I:∀E w' g A,Fr E n D ((d,.slice (some ⟨g,0,none⟩) (c+m) A)::σ)→Mem W w' (.row (.slice (some ⟨g,0,none⟩) (c+m) A) (c+m) (xs++(Builtin.zeroCells z.cells m).toList) e size::fs)→c+m≤A→K E w'):o.wp P a w K Q:=by
 obtain ⟨i,hi,hz,h,l⟩:=info_parts f.hi
 have J:=qi8 (P:=P) w t tn o.type e i z k kn f.ht u hi hz ad c cap xs (by rw [h];exact b.1) b.2 m hm (by rw [h];exact f.hs) C om (by rw [l];exact growslice_fits C hb) (by rw [l];exact acM (acD _ (Nat.le_add_left _ _)) (acM hb de))
 have h1:=grownCap_ge w (c+m) cap e
 have h2:=grownCap_le_maxLen w (c+m) cap e (by unfold maxLen;omega)
 have B:(abY z.cells m).size=m*size:=by rw [size_zeroCells,f.hz]
 have p:abl (xs++(abY z.cells m).toList)=(c+m)*size:=by rw [abn,b.1,adY];show c*size+(abY z.cells m).toList.length=_;rw [acv (xs:=abY z.cells m),B]
 have q:(w.drew.alloc (.cells (xs.toArray++abY z.cells m++abY z.cells (grownCap w (c+m) cap e- (c+m))) e)).ownsRow w.heap.size e size (.slice (some ⟨w.heap.size,0,none⟩) (c+m) (grownCap w (c+m) cap e)) (c+m) (xs++(abY z.cells m).toList):=by
  refine ⟨p,.inr ⟨w.heap.size,_,_,rfl,abq _,adM w.drew _,h1,h2,?_,?_⟩⟩
  ·simp only [aez,ac2,size_zeroCells,f.hz,b.1,←adY]
   congr 1
   omega
  ·grind
 unfold acR execOp
 simp only [r,resolve,invoke,builtin,abL,abR,abx,acT,acS,ade,Z.eval hs,Z.eval G,J]
 rw [aco,H]
 exact I _ _ w.heap.size _ (Z.put y _) (F.bL ((adI _ _).drew.alloc (by simp) _) q) h1
theorem Mem.nU (h:Mem W w fs) {i g m m' c size:Nat} {e:TypeId} {xs:List Value} (hi:fs[i]?=some (.row (.slice (some ⟨g,0,none⟩) m c) m xs e size)) (h1:m≤m') (h2:m'≤c):∃r:List Value,abl r=(m'-m)*size∧Mem W w (fs.set i (.row (.slice (some ⟨g,0,none⟩) m' c) m' (xs++r) e size)):=by
 have s:=h.own hi
 obtain ⟨y,h3⟩:=s
 rcases h3 with ⟨h4,_⟩|⟨t,cap,cur,b,j,k,u,l,f,ht⟩
 ·cases h4
 ·injection b with b x p
  injection b with b
  injection b with b
  subst b;subst p
  have e1:m'*size=m*size+(m'-m)*size:=by rw [←adY];congr 1;omega
  have e2:m'*size≤abl cur.toList:=by rw [acv,f];exact acD _ h2
  refine ⟨(cur.toList.drop (m*size)).take ((m'-m)*size),by rw [abr,abN];omega,?_⟩
  have e3:xs++(cur.toList.drop (m*size)).take ((m'-m)*size)=cur.toList.take (m'*size):=by rw [←ht,e1,List.take_add]
  rw [e3]
  refine h.turn hi h.below (λ_ _ _=>rfl) ⟨by rw [abr];omega,.inr ⟨g,c,cur,rfl,j,k,h2,l,f,rfl⟩⟩ (λt q=> .inl q)
theorem Mem.E8 (h:Mem W w fs) {i g m m' c size:Nat} {e:TypeId} {xs ys:List Value} (hi:fs[i]?=some (.row (.slice (some ⟨g,0,none⟩) m c) m xs e size)) (h1:m'≤m) (hy:xs.take (m'*size)=ys):Mem W w (fs.set i (.row (.slice (some ⟨g,0,none⟩) m' c) m' ys e size)):=by
 subst hy
 have h2:=h.shrink hi h1 (λe=>by cases e)
 exact h2
def qtc (Z:Fr a n D σ) (U:Mem W w fs) {s x:Operand} {t e:TypeId} {z:Value} {size bytes i b m c r g:Nat} {ad:Addr} {xs news:List Value} (L:o.op= .call {callee:= .builtin .append,args:= #[s,x],argTypes:= #[t,t]}) (V:EI P t e z size bytes)
  (hs:look σ s=some (.slice (some ⟨g,0,none⟩) b r)) (Y:look σ x=some (.slice (some ad) m c)) (hi:fs[i]?=some (.row (.slice (some ⟨g,0,none⟩) b r) b xs e size)) (M:news.length=m*size) (f:∀j v,news[j]?=some v→w.cell? (ad.add j)=some v) (p:b+m≤r) (h1:∀u∈news,u.oneCell'=true)
  (hd:o.dst=some d) (N:d<n) (k:∀X w',Fr X n D ((d,.slice (some ⟨g,0,none⟩) (b+m) r)::σ)→Mem W w' (fs.set i (.row (.slice (some ⟨g,0,none⟩) (b+m) r) (b+m) (xs++news) e size))→K X w'):o.wp P a w K Q:=by
 obtain ⟨J,O,hz,l,hby⟩:=info_parts V.hi
 have B:=U.own hi
 obtain ⟨C,h2⟩:=B
 rcases h2 with ⟨h3,_⟩|⟨g',cap,cur,y,hbb,hgg,hnc,hcm,hcs,ht⟩
 ·cases h3
 ·injection y with y hv2 R
  injection y with y
  injection y with y
  subst y;subst R
  have S:abl news=m*J.size:=by rw [l];exact M
  obtain ⟨ys,E,F⟩:=U.nU hi (adS b m) p
  have G:abl xs=b*size:=C
  have A:=F.nP (off:=b*size) (vs:=news) (acO (abv.1 hi).1) (by rw [abn,E,G,M];rw [acH];exact abq _)
  have H:=J9 F (acO (abv.1 hi).1) (b*size) (abl news) (by rw [abn,E,G,M];rw [acH];exact abq _)
  have hf:=run_firstCells_some (P:=P) w J.size m ad m c news S f
  have I:=run_storeCells_cells (P:=P) g (b*J.size) news 0 w (λj T=>by rw [l];have h:=(H j T).1;simpa only [acF] using h) (λj T=>by rw [l];have h:=(H j T).2;simpa only [acF] using h) h1
  simp only [acF] at I
  have q:(ac0 #[t,t] o.type #[.slice (some ⟨g,0,none⟩) b r,.slice (some ad) m c]).run P w= .ok (.slice (some ⟨g,0,none⟩) (b+m) r) (w.setCells g (b*J.size) news):=by
   simp [ac0,run_underlying V.ht,sizeOf,typeInfo,O,ae5,p,hf,acN,I]
  rw [List.set_set] at A
  have e2:putAt (xs++ys) (b*size) news=xs++news:=by
   unfold putAt
   simp_all
  rw [e2] at A
  rw [l] at q
  unfold acR execOp
  simp only [L,resolve,invoke,builtin,abL,abR,abx,acT,acS,ade,Z.eval hs,Z.eval Y,q,aco,hd]
  exact k _ _ (Z.put N _) A
def q8v (Z:Fr a n D σ) (j:Mem W w fs) {f:FuncId} {xs:Array Operand} {ts:Array TypeId} {vs:List Value} (c:o.op= .call {callee:= .value (.func f),args:=xs,argTypes:=ts}) (h:looks σ xs.toList=some vs) (b:(callFunc f vs.toArray).run P w= .ok (.value v) w) (i:o.dst=some d) (e:d<n)
  (k:∀g,Fr g n D ((d,v)::σ)→K g w):o.wp P a w K Q:=by
 have e1:xs.map a.eval=vs.toArray:=by
  have:=yR Z h
  grind
 unfold acR execOp
 simp only [c,resolve,Act.eval,adB,invoke,abL,abR,abx]
 have e3: #[]++adu a.eval xs++ #[]=vs.toArray:=by simp [e1]
 show agc P o a K Q (((callFunc f (#[]++adu a.eval xs++ #[])).run P w))
 rw [e3,b,aco,i]
 exact k _ (Z.put e _)
theorem qqo (q:Mem W w fs) {i j f g off J L m c:Nat} {C:Array Value} {xs:List Value} {t e r u:TypeId} {size:Nat} {z:Value} {bytes:Nat} (s:EI P t e z size bytes) (M:fs[i]?=some (.blk f C u)) (hi:fs[j]?=some (.row (.slice (some ⟨g,0,none⟩) m c) m xs e size)) (x:i≠j) (hm:0<c) (ln lc:Nat):
  (adF #[t,t] #[r] #[.slice (some ⟨f,0,none⟩) ln lc,.slice (some ⟨g,off,none⟩) J L]).run P w= .ok (.bool false) w:=by
 obtain ⟨V,y,hz,A,O⟩:=info_parts s.hi
 have B:=q.blk M
 obtain ⟨X,h3⟩:=q.own hi
 rcases h3 with ⟨h4,_⟩|⟨Y,cap,cur,E,R,F,S,T,G,ht⟩
 ·cases h4
 ·injection E with b U H
  injection b with b
  injection b with b
  subst b;subst H
  have I:f≠g:=by
   intro e
   subst e
   obtain ⟨h,k⟩:=abv.1 M
   obtain ⟨l,p⟩:=abv.1 hi
   rcases Nat.lt_or_gt_of_ne x with h5|h5
   ·have:=acu.1 q.apart i j h l h5
    rw [k,p] at this
    exact this f rfl rfl
   ·have:=acu.1 q.apart j i l h h5
    rw [k,p] at this
    exact this f rfl rfl
  have N:=s.hs
  exact Lib.run_overlaps_apart w t r e s.ht size (λw=>by simp [sizeOf,typeInfo,y,A]) ⟨f,0,none⟩ ⟨g,off,none⟩ ln lc J L I u e C.size cur.size (by simp [afm,B]) (by simp [afm,F]) (by rw [G];exact agx om om) (by simp [agq,B]) (by simp [agq,B])
end
theorem KE {a b c:List Value}:putAt (a++b) (abl a) c=a++c++b.drop (abl c):=by
 unfold putAt
 rw [adG,←acV,agw]
theorem qyj {a b c:List Value}:putAt (a++b) (abl a+k) c=a++putAt b k c:=by
 unfold putAt
 rw [aeO,abP (adS _ _),acH,show abl a+k+abl c=abl a+(k+abl c) by omega,aeP,acp (adS _ _),ac4,acH]
 simp only [aby]
def eO (x:Gr):List Value:=[.int .i64 x.parent,.int .i64 x.weight]
def bI (x:Tk):List Value:=[.int .i64 x.id,.int .i64 x.group,.int .i64 x.weight,.int .i64 x.cpu,.int .u64 (x.mask:Int),.bool x.ready,.int .u64 (x.v:Int),.int .u32 (x.r:Int)]
def iQ (x:Sp):List Value:=[.int .u64 (x.v:Int),.int .u32 (x.r:Int),.int .u64 (x.floor:Int)]
def Gr.cells (x:Gr):Array Value:= #[.int .i64 x.parent,.int .i64 x.weight]
def Tk.cells (x:Tk):Array Value:= #[.int .i64 x.id,.int .i64 x.group,.int .i64 x.weight,.int .i64 x.cpu,.int .u64 (x.mask:Int),.bool x.ready,.int .u64 (x.v:Int),.int .u32 (x.r:Int)]
def Sp.cells (x:Sp):Array Value:= #[.int .u64 (x.v:Int),.int .u32 (x.r:Int),.int .u64 (x.floor:Int)]
theorem pR (x:Gr):abl (eO x)=2:=rfl
theorem qk (x:Tk):abl (bI x)=8:=rfl
theorem Bf (x:Sp):abl (iQ x)=3:=rfl
theorem Xb (x:Gr):∀v∈x.cells.toList,v.oneCell'=true:=by simp [Gr.cells,acd]
theorem E9 (x:Tk):∀v∈x.cells.toList,v.oneCell'=true:=by simp [Tk.cells,acd]
theorem Xc (x:Sp):∀v∈x.cells.toList,v.oneCell'=true:=by simp [Sp.cells,acd]
structure Rw where
 A:Option Addr
 c:Nat
 l:List Sp
def Rw.zero:Rw:=⟨none,0,[]⟩
def aac (x:Rw):Value:= .slice x.A (abl x.l) x.c
def Rw.own (x:Rw):Own:=⟨x.A,abl x.l,x.c,x.l.flatMap iQ⟩
structure aC where
 ak:Int
 aj:Nat
 gA:Option Addr
 gc:Nat
 gs:List Gr
 lA:Option Addr
 lc:Nat
 cl:List Int
 uA:Option Addr
 uc:Nat
 cu:List Int
 tA:Option Addr
 tc:Nat
 ts:List Tk
 sA:Option Addr
 sc:Nat
 rs:List Rw
def aC.av (x:aC):aW:=⟨x.ak,x.aj,x.gs,x.cl,x.cu,x.ts,x.rs.map Rw.l⟩
def aC.cells (x:aC):Array Value:= #[.int .i64 x.ak,.int .u64 (x.aj:Int),.slice x.gA (abl x.gs) x.gc,.slice x.lA (abl x.cl) x.lc,.slice x.uA (abl x.cu) x.uc,.slice x.tA (abl x.ts) x.tc,.slice x.sA (abl x.rs) x.sc]
def Xd (x:aC):∀v∈x.cells.toList,v.oneCell'=true:=by simp [aC.cells,acd]
structure dZ (w:World) (x:aC):Prop where
 g:Rd w w.heap.size 2 x.gA (abl x.gs) (x.gs.flatMap eO)
 l:Rd w w.heap.size 1 x.lA (abl x.cl) (x.cl.map aP)
 u:Rd w w.heap.size 1 x.uA (abl x.cu) (x.cu.map aP)
 t:Rd w w.heap.size 8 x.tA (abl x.ts) (x.ts.flatMap bI)
 s:Rd w w.heap.size 1 x.sA (abl x.rs) (x.rs.map aac)
 r:∀y∈x.rs,Rd w w.heap.size 3 y.A (abl y.l) (y.l.flatMap iQ)
structure eP (x:aC):Prop where
 g:abl x.gs≤x.gc
 l:abl x.cl≤x.lc
 u:abl x.cu≤x.uc
 t:abl x.ts≤x.tc
 s:abl x.rs≤x.sc
 r:∀y∈x.rs,abl y.l≤y.c
structure bN (x:aC):Prop where
 g:abl x.gs≤1000000
 l:abl x.cl≤1000000
 u:abl x.cu≤1000000
 t:abl x.ts≤1000000
 s:abl x.rs≤1000000
 r:∀y∈x.rs,abl y.l≤1000000
theorem dZ.old {x:aC} (h:dZ W x) (a:Mem W w fs):dZ w x:=⟨a.old h.g,a.old h.l,a.old h.u,a.old h.t,a.old h.s,λy b=>a.old (h.r y b)⟩
theorem jR {x:aC} (h:g<abl x.rs):x.av.sp.getD g []=(x.rs.getD g Rw.zero).l:=by
 show (x.rs.map Rw.l).getD g []=_
 rw [abo,abo,ac3,abp h]
 rfl
theorem dZ.row {x:aC} (h:dZ w x) {g:Nat} (a:g<abl x.rs):Rd w w.heap.size 3 (x.rs.getD g Rw.zero).A (x.rs.getD g Rw.zero).l.length ((x.rs.getD g Rw.zero).l.flatMap iQ):=h.r _ (qe Rw.zero a)
theorem lq:SI abm 198 2:=⟨by kernel_rfl,by kernel_rfl⟩
theorem eU:SI abm 232 8:=⟨by kernel_rfl,by kernel_rfl⟩
theorem nI:SI abm 200 3:=⟨by kernel_rfl,by kernel_rfl⟩
def xJ:SI abm 44 3:=⟨by kernel_rfl,by kernel_rfl⟩
def fK:SI abm 48 7:=⟨by kernel_rfl,by kernel_rfl⟩
theorem qm:SI abm 333 3:=⟨by kernel_rfl,by kernel_rfl⟩
theorem zn:SI abm 50 8:=⟨by kernel_rfl,by kernel_rfl⟩
def iO:EI abm 42 198 (.agg Gr.zero.cells) 2 16:=⟨by kernel_rfl,by kernel_rfl,rfl,by omega⟩
theorem bW:EI abm 45 232 (.agg Tk.zero.cells) 8 64:=⟨by kernel_rfl,by kernel_rfl,rfl,by omega⟩
theorem lu:EI abm 176 200 (.agg Sp.zero.cells) 3 24:=⟨by kernel_rfl,by kernel_rfl,rfl,by omega⟩
def nJ:EI abm 46 176 (.slice none 0 0) 1 24:=⟨by kernel_rfl,by kernel_rfl,rfl,by omega⟩
section
variable {w w':World} {p q:Prop} [Decidable p] [Decidable q]
def Bg (h:q↔p) (hb:Below w.heap.size w w'):Is w (.bool (decide p)) (.returned (.bool (decide q))) w':=⟨by rw [decide_eq_decide.2 h],hb⟩
def zid (h:p) (hb:Below w.heap.size w w'):Is w (.bool (decide p)) (.returned (.bool true)) w':=⟨by rw [decide_eq_true h],hb⟩
def lC (h:¬p) (hb:Below w.heap.size w w'):Is w (.bool (decide p)) (.returned (.bool false)) w':=⟨by rw [decide_eq_false h],hb⟩
theorem bP {a b:Bool} (h:a=b) (hb:Below w.heap.size w w'):Is w (.bool b) (.returned (.bool a)) w':=h▸ ⟨rfl,hb⟩
end
def Ow {l:List Gr} (h:¬(1≤abl l∧abl l≤256∧l.getD 0 Gr.zero=⟨0,1⟩)):bU l=false:=by unfold bU;rw [decide_eq_false h,afK]
def KI {l:List Gr} (a:g<abl l) (h:oQ l g=false):bU l=false:=by unfold bU;rw [zD a h,adH]
def q8w {l:List Gr} (h:1≤abl l∧abl l≤256∧l.getD 0 Gr.zero=⟨0,1⟩) (a:fB (abl l) (oQ l)):bU l=true:=by unfold bU;rw [decide_eq_true h,a.all];rfl
theorem q8x (l:List Gr):oQ l 0=true:=rfl
def KJ {l:List Gr} (h0:0<g) (h:¬(0≤(l.getD g Gr.zero).parent∧(l.getD g Gr.zero).parent<g∧(1≤(l.getD g Gr.zero).weight∧(l.getD g Gr.zero).weight≤65536)∧iG l g≤4)):oQ l g=false:=by grind [oQ,lN]
theorem zeo {l:List Gr} (h:0≤(l.getD g Gr.zero).parent∧(l.getD g Gr.zero).parent<g∧(1≤(l.getD g Gr.zero).weight∧(l.getD g Gr.zero).weight≤65536)∧iG l g≤4):oQ l g=true:=by grind [oQ,lN]
def q23 {l:List Gr} (a:fB g (oQ l)) (h:0≤(l.getD g Gr.zero).parent∧(l.getD g Gr.zero).parent<g):∀i,0<i→i≤g→dP l i:=λi h0 hi=>by
 rcases ab7 i g with h1|h1
 ·exact KF (a i h1) h0
 ·obtain rfl:i=g:=by omega
  exact h
theorem uE {l:List Gr} (h:bU l=true) {g:Nat} (a:g<abl l):∀i,0<i→i≤g→dP l i:=λi h0 hi=>KF ((qp h).2.2.2 i om) h0
def q8y (x y:Gr):oJ abm 4 198 (.agg x.cells) (.agg y.cells)=some (decide (x=y)):=by
 have h:oJ abm 4 198 (.agg x.cells) (.agg y.cells)=some ((x.parent==y.parent)&& ((x.weight==y.weight)&&true)):=by kernel_rfl
 refine h.trans (congrArg some ?_)
 obtain ⟨a,b⟩:=x
 obtain ⟨c,d⟩:=y
 rw [ace]
 simp only [abF,beq_iff_eq,decide_eq_true_eq,Gr.mk.injEq,and_true]
theorem zep (h:1≤n):(((m/2^ (n-1)/2:Nat):Int) !=(0:Int))=decide (2^n≤m):=by
 have e:m/2^ (n-1)/2=m/2^n:=by rw [Nat.div_div_eq_div_mul,←Nat.pow_succ,show (n-1).succ=n by omega]
 rw [e,ace,bne_iff_ne,decide_eq_true_eq]
 have h1:= @Nat.div_pos_iff m (2^n)
 have h2:0<2^n:=agv n
 generalize m/2^n=q at*
 constructor
 ·intro h3
  exact (h1.1 om).2
 ·intro h3
  have:=h1.2 ⟨h2,h3⟩
  omega
section
variable {x:aC} {t:Tk}
def Df (h:¬(1≤t.id∧t.id≤65535∧0≤t.group∧t.group<abl x.rs∧0≤t.cpu∧t.cpu<x.ak)):dH x.av t=false:=by
 unfold dH
 rw [decide_eq_false (by rwa [show abl x.av.sp=abl x.rs from abu ..]),afK]
def zie (h:¬(1≤t.weight∧t.weight≤65536)):dH x.av t=false:=by grind [dH,lN]
def zif (h:2^x.ak.toNat≤t.mask):dH x.av t=false:=by
 unfold dH wM
 rw [show decide (2^x.av.ak.toNat≤t.mask)=true from decide_eq_true h]
 simp
def zig (h:¬t.mask/2^t.cpu.toNat%2=1):dH x.av t=false:=by unfold dH;rw [decide_eq_false h];simp
def zih (h:1≤t.id∧t.id≤65535∧0≤t.group∧t.group<abl x.rs∧0≤t.cpu∧t.cpu<x.ak) (h2:1≤t.weight∧t.weight≤65536) (h3:¬2^x.ak.toNat≤t.mask) (h4:t.mask/2^t.cpu.toNat%2=1):dH x.av t=bK t.v t.r t.weight:=by
 unfold dH lN wM
 rw [decide_eq_true (by rwa [show abl x.av.sp=abl x.rs from abu ..]),decide_eq_true h2,show decide (2^x.av.ak.toNat≤t.mask)=false from decide_eq_false h3,decide_eq_true h4]
 simp
def q24 (h:¬(1≤x.ak∧x.ak≤64∧x.aj≤1099511627776)):fC x.av=false:=by unfold fC;rw [show decide (1≤x.av.ak∧x.av.ak≤64∧x.av.aj≤1099511627776)=false from decide_eq_false h];rfl
def zeq (h:1≤x.ak∧x.ak≤64∧x.aj≤1099511627776):fC x.av=bU x.gs:=by unfold fC;rw [show decide (1≤x.av.ak∧x.av.ak≤64∧x.av.aj≤1099511627776)=true from decide_eq_true h];rfl
def lX (h:fC x.av=true):1≤x.ak∧x.ak≤64∧x.aj≤1099511627776∧bU x.gs=true:=by
 unfold fC at h
 rw [abF,decide_eq_true_eq] at h
 exact ⟨h.1.1,h.1.2.1,h.1.2.2,h.2⟩
end
def uF (w:World) (n:Nat) (p:Nat→Bool) (r:Ending) (w':World):Prop:=(∃i:Int,r= .returned (.int .i64 i)∧decide (i≥0)= !gJ n p)∧Below w.heap.size w w'
def qyk {p:Nat→Bool} (hk:k<n) (h:p k=false) (hb:Below w.heap.size w w'):uF w n p (.returned (.int .i64 (k:Int))) w':=⟨⟨k,rfl,by rw [zD hk h,decide_eq_true om];rfl⟩,hb⟩
def qyl {p:Nat→Bool} (a:fB n p) (hb:Below w.heap.size w w'):uF w n p (.returned (.int .i64 (-1))) w':=⟨⟨-1,rfl,by rw [a.all];rfl⟩,hb⟩
def Ox (w:World) (l:List Gr) (r:Ending) (w':World):Prop:=(∃i e:Int,r= .returned (.tuple #[.int .i64 i,.int .i64 e])∧((e==0)=bU l))∧Below w.heap.size w w'
def Bh {l:List Gr} {i e:Int} (h:bU l=false) (a:e≠0) (hb:Below w.heap.size w w'):Ox w l (.returned (.tuple #[.int .i64 i,.int .i64 e])) w':=⟨⟨i,e,rfl,by rw [h];exact beq_false_of_ne a⟩,hb⟩
def qtd {l:List Gr} {i:Int} (h:bU l=true) (hb:Below w.heap.size w w'):Ox w l (.returned (.tuple #[.int .i64 i,.int .i64 0])) w':=⟨⟨i,0,rfl,by rw [h];rfl⟩,hb⟩
section
variable {x:aC} {g c i:Nat}
theorem kQ:abl x.av.sp=abl x.rs:=abu ..
theorem Oy:KG x.av=decide ((abl x.cl:Int)=x.ak∧(abl x.cu:Int)=x.ak∧abl x.rs=abl x.gs):=by unfold KG;rw [kQ];rfl
def zii (h:fC x.av=false):mY x.av=false:=by unfold mY;rw [h];rfl
def Oz (h:¬((abl x.cl:Int)=x.ak∧(abl x.cu:Int)=x.ak∧abl x.rs=abl x.gs)):mY x.av=false:=by grind [Oy,mY]
def Fa (h:gJ (abl x.cl) (λc=>gP (x.cl.getD c 0))=false):mY x.av=false:=by unfold mY;rw [show gJ (abl x.av.cl) (λc=>gP (x.av.cl.getD c 0))=false from h];simp
def Xf (a:g<abl x.rs) (h:rowOk x.av g=false):mY x.av=false:=by grind [zD,mY,kQ]
def Fb (hi:i<abl x.ts) (h:iN x.av i=false):mY x.av=false:=by unfold mY;rw [zD (n:=abl x.av.ts) hi h];simp
def zij (h1:fC x.av=true) (h2:(abl x.cl:Int)=x.ak∧(abl x.cu:Int)=x.ak∧abl x.rs=abl x.gs) (h3:gJ (abl x.cl) (λc=>gP (x.cl.getD c 0))=true) (h4:fB (abl x.rs) (rowOk x.av)) (h5:fB (abl x.ts) (iN x.av)):mY x.av=true:=by
 unfold mY
 rw [h1,Oy,decide_eq_true h2,show gJ (abl x.av.cl) (λc=>gP (x.av.cl.getD c 0))=true from h3,kQ,h4.all,show gJ (abl x.av.ts) (iN x.av)=true from h5.all]
 rfl
structure ShAt (x:aC):Prop where
 cfg:fC x.av=true
 cl:(abl x.cl:Int)=x.ak
 cu:(abl x.cu:Int)=x.ak
 rs:abl x.rs=abl x.gs
 cls:∀c,c<abl x.cl→gP (x.cl.getD c 0)=true
 row:∀g,g<abl x.rs→rowOk x.av g=true
 tk:∀i,i<abl x.ts→iN x.av i=true
theorem uG (h:mY x.av=true):ShAt x:=by
 unfold mY at h
 simp only [abF] at h
 obtain ⟨⟨h1,h2⟩,h3,h4,h5⟩:=h
 rw [Oy,decide_eq_true_eq] at h2
 rw [kQ] at h4
 exact ⟨h1,h2.1,h2.2.1,h2.2.2,λc hc=>uz h3 hc,λg a=>uz h4 a,λi hi=>uz h5 hi⟩
theorem KL (a:g<abl x.rs):rowOk x.av g=(decide (((x.rs.getD g Rw.zero).l.length:Int)=x.ak)&&gJ (x.rs.getD g Rw.zero).l.length λc=>dI x.av g ((x.rs.getD g Rw.zero).l.getD c Sp.zero)):=by
 unfold rowOk aW.spot
 rw [jR a]
 rfl
def zer (a:g<abl x.rs) (h:((x.rs.getD g Rw.zero).l.length:Int)≠x.ak):rowOk x.av g=false:=by rw [KL a,decide_eq_false h];rfl
def zes (a:g<abl x.rs) (hc:c<(x.rs.getD g Rw.zero).l.length) (h:dI x.av g ((x.rs.getD g Rw.zero).l.getD c Sp.zero)=false):rowOk x.av g=false:=by rw [KL a,zD hc h,adH]
theorem Xg (a:g<abl x.rs) (h:((x.rs.getD g Rw.zero).l.length:Int)=x.ak) (b:fB (x.rs.getD g Rw.zero).l.length (λc=>dI x.av g ((x.rs.getD g Rw.zero).l.getD c Sp.zero))):rowOk x.av g=true:=by rw [KL a,decide_eq_true h,b.all];rfl
theorem Bj (a:g<abl x.rs) (h:rowOk x.av g=true):((x.rs.getD g Rw.zero).l.length:Int)=x.ak∧∀c,c<(x.rs.getD g Rw.zero).l.length→dI x.av g ((x.rs.getD g Rw.zero).l.getD c Sp.zero)=true:=by grind [uz,KL]
variable {z:Sp}
theorem zik (h:bK z.v z.r (x.gs.getD g Gr.zero).weight=false):dI x.av g z=false:=by unfold dI;rw [show bK z.v z.r (x.av.gs.getD g Gr.zero).weight=false from h];rfl
theorem zil (h0:g=0) (h:¬(z.v=0∧z.r=0)):dI x.av g z=false:=by unfold dI;rw [decide_eq_false h,h0];simp
theorem zet (h:bK z.v z.r (x.gs.getD g Gr.zero).weight=true) (h0:g≠0):dI x.av g z=true:=by unfold dI;rw [show bK z.v z.r (x.av.gs.getD g Gr.zero).weight=true from h];simp [h0]
def zeu (h:bK z.v z.r (x.gs.getD g Gr.zero).weight=true) (h0:g=0) (a:z.v=0):((z.r:Int) !=(0:Int))= !dI x.av g z:=by
 unfold dI
 rw [show bK z.v z.r (x.av.gs.getD g Gr.zero).weight=true from h,h0,a]
 rw [ace,bne_iff_ne]
 simp
theorem Xh (h0:i=0∨(x.ts.getD (i-1) Tk.zero).id<(x.ts.getD i Tk.zero).id):iN x.av i=dH x.av (x.ts.getD i Tk.zero):=by
 unfold iN
 rw [show (i==0||decide ((x.av.ts.getD (i-1) Tk.zero).id<(x.av.ts.getD i Tk.zero).id))=true from by rw [adw,beq_iff_eq,decide_eq_true_eq];exact h0]
 rfl
theorem q8z (h0:0<i) (h:¬(x.ts.getD (i-1) Tk.zero).id<(x.ts.getD i Tk.zero).id):iN x.av i=false:=by
 unfold iN
 rw [show decide ((x.av.ts.getD (i-1) Tk.zero).id<(x.av.ts.getD i Tk.zero).id)=false from decide_eq_false h,show (i==0)=false from by rw [beq_eq_false_iff_ne];omega]
 rfl
def Dg (h:iN x.av i=true):(i=0∨(x.ts.getD (i-1) Tk.zero).id<(x.ts.getD i Tk.zero).id)∧dH x.av (x.ts.getD i Tk.zero)=true:=by
 unfold iN at h
 rw [abF,adw,beq_iff_eq,decide_eq_true_eq] at h
 exact h
end
def oU {l:List Gr} (h:bU l=true) {g:Nat} (a:g<abl l):1≤(l.getD g Gr.zero).weight∧(l.getD g Gr.zero).weight≤65536:=by grind [oQ,qp,lN]
def jH (a b:Int):Int:=if a<b then -1 else if b<a then 1 else 0
theorem Xl {a b:Int}:decide (jH a b<0)=decide (a<b):=by grind [jH]
theorem Xm {a b:Int}:(jH a b==0)=decide (a=b):=by grind [jH]
def zev {a b:Int}:(jH a b !=0)=decide (a≠b):=by
 rw [bne,Xm,decide_not]
def dW (l:List Tk):Prop:=∀i j,i<j→j<abl l→(l.getD i Tk.zero).id<(l.getD j Tk.zero).id
def Xn {x:aC} (h:ShAt x):dW x.ts:=by
 have step:∀i,i+1<abl x.ts→(x.ts.getD i Tk.zero).id<(x.ts.getD (i+1) Tk.zero).id:=λi hi=>by
  have:=(Dg (h.tk (i+1) hi)).1
  grind
 intro i j a
 induction j with
 |zero=>omega
 |succ j b=>
  grind
theorem OA {l:List Tk} {id:Int} (hi:i<abl l) (h:(l.getD i Tk.zero).id=id) (b:∀k,k<i→(l.getD k Tk.zero).id≠id):fJ l id=some i:=by
 unfold fJ
 rw [aeC]
 have e:∀k (a:k<abl l),l.getD k Tk.zero=l[k]:=λk a=>by rw [abo,abp a];rfl
 grind
theorem Xo {l:List Tk} {id:Int} (a:∀k,k<abl l→(l.getD k Tk.zero).id≠id):fJ l id=none:=by grind [fJ,List.findIdx?_eq_none_iff,abp,acB]
theorem OB {l:List Tk} {id:Int} (h:fJ l id=some i):i<abl l∧(l.getD i Tk.zero).id=id:=by grind [fJ,aeC,abp]
def fidx (l:List Tk) (id:Int):Int:=match fJ l id with
 |some i=>(i:Int)
 |none=> -1
def KN (w:World) (l:List Tk) (id:Int) (r:Ending) (a:World):Prop:=(∃(i:Nat) (b:Bool),r= .returned (.tuple #[.int .i64 (i:Int),.bool b])∧i≤abl l∧(if b=true then (i:Int) else -1)=fidx l id)∧Below w.heap.size w a
def q3b {l:List Tk} {id:Int} (hs:dW l) (hi:i<abl l) (h1:∀k,k<i→(l.getD k Tk.zero).id<id) (h2:∀k,i≤k→k<abl l→id≤(l.getD k Tk.zero).id) (hb:Below w.heap.size w W):KN w l id (.returned (.tuple #[.int .i64 (i:Int),.bool (decide ((l.getD i Tk.zero).id=id))])) W:=by
 refine ⟨⟨i,_,rfl,by omega,?_⟩,hb⟩
 unfold fidx
 by_cases h:(l.getD i Tk.zero).id=id
 ·rw [decide_eq_true h,if_pos rfl,OA hi h (λk a=>by have:=h1 k a;omega)]
 ·rw [decide_eq_false h,if_neg de,Xo (λk a=>?_)]
  rcases ab7 k i with h3|h3
  ·have:=h1 k h3;omega
  ·have h4:=h2 i (abq _) hi
   rcases ab7 i k with h5|h5
   ·have:=hs i k h5 a;omega
   ·obtain rfl:k=i:=by omega
    exact h
def search_end {l:List Tk} {id:Int} (h1:∀k,k<abl l→(l.getD k Tk.zero).id<id) (hb:Below w.heap.size w W):KN w l id (.returned (.tuple #[.int .i64 (abl l:Int),.bool false])) W:=by
 refine ⟨⟨_,_,rfl,abq _,?_⟩,hb⟩
 grind [fidx,Xo]
theorem Xp {x:aC} (h0:x.cu.getD c 0≠0) {i:Nat} (hi:fJ x.ts (x.cu.getD c 0)=some i):dR x.av c=((x.ts.getD i Tk.zero).ready&&decide ((x.ts.getD i Tk.zero).cpu=c)):=by
 unfold dR
 rw [show fJ x.av.ts (x.av.cu.getD c 0)=some i from hi,show decide (x.av.cu.getD c 0=0)=false from decide_eq_false h0]
 rfl
theorem Xq {x:aC} (h0:x.cu.getD c 0≠0) (hi:fJ x.ts (x.cu.getD c 0)=none):dR x.av c=false:=by
 unfold dR
 rw [show fJ x.av.ts (x.av.cu.getD c 0)=none from hi,show decide (x.av.cu.getD c 0=0)=false from decide_eq_false h0]
 rfl
theorem qym {x:aC} (h0:x.cu.getD c 0=0):dR x.av c=true:=by
 unfold dR
 rw [show decide (x.av.cu.getD c 0=0)=true from decide_eq_true h0]
 rfl
theorem OC (l:List Tk) (id:Int):(fidx l id= -1∧fJ l id=none)∨∃i:Nat,fidx l id=i∧fJ l id=some i∧i<abl l∧(l.getD i Tk.zero).id=id:=by grind [fidx,fJ,OB]
def Mb.nums (m:Mb):List Nat:=[m.v,m.k,m.id]
def Mb.cells (m:Mb):Array Value:= #[.int .u64 (m.v:Int),.int .u64 (m.k:Int),.int .u64 (m.id:Int)]
def Mb.Ok (m:Mb):Prop:=m.v<18446744073709551616∧m.k<18446744073709551616∧m.id<18446744073709551616
theorem Bl (x:Mb):∀v∈x.cells.toList,v.oneCell'=true:=by simp [Mb.cells,acd]
def q80 {a b:Mb} (hk:k<3) (d:∀i,i<k→a.nums.getD i 0=b.nums.getD i 0) (e:a.nums.getD k 0≠b.nums.getD k 0):decide (jH (a.nums.getD k 0:Int) (b.nums.getD k 0:Int)<0)=a.lt b:=by
 rw [Xl]
 obtain ⟨f,j,l⟩:=a
 obtain ⟨n,o,p⟩:=b
 unfold Mb.lt
 rw [decide_eq_decide]
 dsimp only
 rcases k with _|_|_|k
 ·simp [Mb.nums] at e⊢;omega
 ·grind [Mb.nums]
 ·have h0:=d 0 om
  grind [Mb.nums]
 ·omega
theorem q81 {a b:Mb} (d:∀i,i<3→a.nums.getD i 0=b.nums.getD i 0):a.lt b=false:=by
 obtain ⟨e,f,j⟩:=a
 obtain ⟨k,l,n⟩:=b
 have h0:=d 0 om
 have h1:=d 1 om
 have h2:=d 2 om
 grind [Mb.lt,Mb.nums]
def uH (w:World) (a b:Mb) (r:Ending) (d:World):Prop:=(∃c:Int,r= .returned (.int .i64 c)∧decide (c<0)=a.lt b)∧Below w.heap.size w d
theorem qyn (b:Mb) (l:List Mb) (m:Mb):aJ b (l++[m])=if m.lt (aJ b l) then m else aJ b l:=by unfold aJ;rw [aga];rfl
theorem OD {f:α→Option β} {l:List α} (d:α) (hk:k<abl l):(l.take (k+1)).filterMap f=(l.take k).filterMap f++(f (l.getD k d)).toList:=by
 rw [takeSnoc' d hk,List.filterMap_append]
 congr 1
where
 takeSnoc' {α:Type} {l:List α} {k:Nat} (d:α) (hk:k<abl l):l.take (k+1)=l.take k++[l.getD k d]:=by
  rw [adP,abp hk,abo,abp hk]
  rfl
def q82 {a b:Mb} (hk:k<3) (d:∀i,i<k→a.nums.getD i 0=b.nums.getD i 0) (e:a.nums.getD k 0≠b.nums.getD k 0) (hb:Below w.heap.size w W):uH w a b (.returned (.int .i64 (jH (a.nums.getD k 0:Int) (b.nums.getD k 0:Int)))) W:=⟨⟨_,rfl,q80 hk d e⟩,hb⟩
def q83 {a b:Mb} (d:∀i,i<3→a.nums.getD i 0=b.nums.getD i 0) (hb:Below w.heap.size w W):uH w a b (.returned (.int .i64 0)) W:=⟨⟨_,rfl,by rw [q81 d];rfl⟩,hb⟩
def qtg {h:Nat} (h1:g+1≤h) (h2:h<n):((acW n).drop (g+1)).getD (h- (g+1)) 0=h∧h- (g+1)<abl ((acW n).drop (g+1)):=by grind
def q84 {f:Nat→Option β} {h:Nat} (h1:g+1≤h) (h2:h<n):(((acW n).drop (g+1)).take (h+1- (g+1))).filterMap f=(((acW n).drop (g+1)).take (h- (g+1))).filterMap f++(f h).toList:=by
 obtain ⟨e,a⟩:=qtg h1 h2
 have:=OD (f:=f) 0 a
 grind
theorem zew {f:Nat→Option β}:(((acW n).drop (g+1)).take (n- (g+1))).filterMap f=((acW n).drop (g+1)).filterMap f:=by rw [abP (by simp)]
section
variable {x:aC} {g c h:Nat} {m:Nat→List Mb}
theorem q3c (a:(x.gs.getD h Gr.zero).parent≠g):kN x.av c m g h=none:=if_neg (λb=>a b.1)
theorem q3d (hm:m h=[]):kN x.av c m g h=none:=if_neg (λa=>a.2 hm)
theorem q85 (hr:h<abl x.rs) (a:(x.gs.getD h Gr.zero).parent=g) (hm:m h≠[]):kN x.av c m g h=some ⟨((x.rs.getD h Rw.zero).l.getD c Sp.zero).v,1,h⟩:=by
 unfold kN
 rw [if_pos ⟨a,hm⟩]
 unfold aW.spot
 rw [jR hr]
def Fh (h0:mY x.av=false):kG x.av=false:=by unfold kG;rw [h0];rfl
def Fj (hc:c<abl x.cu) (h:dR x.av c=false):kG x.av=false:=by unfold kG;rw [zD (n:=abl x.av.cu) hc (by rw [h];rfl),adH]
def Fp (hc:c<abl x.cu) (a:g<abl x.rs) (h:ko x.av g c=false):kG x.av=false:=by
 unfold kG
 rw [zD (n:=abl x.av.cu) hc (by rw [zD (n:=abl x.av.sp) (p:=λg=>ko x.av g c) (i:=g) (by rwa [kQ]) h,adH]),adH]
def Fq (h0:mY x.av=true) (a:fB (abl x.cu) λc=>dR x.av c&&gJ (abl x.rs) λg=>ko x.av g c):kG x.av=true:=by
 unfold kG
 rw [h0,kQ,show gJ (abl x.av.cu) _=true from a.all]
 rfl
theorem zex (h:aO x.av g c=[]):ko x.av g c=true:=decide_eq_true (.inl h)
theorem zim (h:aO x.av g c≠[]):ko x.av g c=decide ((aJ bB (aO x.av g c)).v≤(x.av.spot g c).floor):=by grind [ko]
theorem OE (hr:g<abl x.rs):x.av.spot g c=(x.rs.getD g Rw.zero).l.getD c Sp.zero:=by unfold aW.spot;rw [jR hr]
end
section
variable {P:Program} {S:World→Prop} {σ:List (Nat×Value)} {o:Oper}
end
section
variable {P:Program} {Q:Exit→Act→World→Prop} {W:World} {a:Act} {w:World} {n d:Nat} {D:List Deferred} {σ:List (Nat×Value)} {fs:List Fact} {o:Oper} {K:Act→World→Prop}
end
def zez {l:List Gr} (h:∀i,0<i→i≤g→dP l i):iG l g≤g:=by
 induction g using ae0 with
 | _ g a =>
  rcases ach g with h0|h0
  ·subst h0;exact abq _
  ·have b:=h g h0 (abq _)
   unfold dP at b
   have:=a (l.getD g Gr.zero).parent.toNat om (λi h1 h2=>h i h1 om)
   rw [Ot h h0]
   omega
def qqu (x:Int) (w:World):Calls abm 301 #[vI x] w (Is w (.bool (decide (1≤x∧x≤65536)))):=by
 refine (dV Tryz.func301 9) ?_
 refine (JP∘Jp 1∘Jr∘Jp 3) (Ji (λa=>?_) λa=>?_)
 ·
  exact (Jp 4∘aG∘Jj∘JZ∘aZ) λb=>Bg om b.below
 exact (Jp 4∘aG∘Jj∘JZ∘aZ) λb=>lC om b.below
def Xw (x:Int) (w:World):Calls abm 267 #[vI x] w (Is w (.bool (decide (1≤x∧x≤65536)))):=by
 refine (dV Tryz.func267 9) ?_
 refine (JP∘Jp 1∘Jr∘Jp 3) (Ji (λa=>?_) λa=>?_)
 ·
  exact (Jp 4∘aG∘Jj∘JZ∘aZ) λb=>Bg om b.below
 exact (Jp 4∘aG∘Jj∘JZ∘aZ) λb=>lC om b.below
def KQ (x:Int) (w:World):Calls abm 198 #[vI x] w (Is w (.bool (decide (1≤x∧x≤65536)))):=by
 refine (dV Tryz.func198 9) ?_
 refine (JP∘Jp 1∘Jr∘Jp 3) (Ji (λa=>?_) λa=>?_)
 ·
  exact (Jp 4∘aG∘Jj∘JZ∘aZ) λb=>Bg om b.below
 exact (Jp 4∘aG∘Jj∘JZ∘aZ) λb=>lC om b.below
def ze0 (W w:World) (d e h:Nat) (A:Option Addr) (c:Nat) (l:List Gr) (g:Nat) (Inv:Nat→List Fact→Prop) (o:List Fact) (hr:Rd W W.heap.size 2 A (abl l) (l.flatMap eO)) (L:abl l≤1000000) (M:g<abl l) (B:∀i,0<i→i≤g→dP l i)
    (hy:Xe abm W h (iG l g+1) Inv) (p:Inv 0 o) (b:Mem W w (.blk d #[vI g] 3:: .blk e #[abh A l c] 42::o)):
    Calls abm 320 (.func (.yield h) #[] #[]:: [vP d 0,vP e 0]).toArray w (q22 W (Inv (iG l g+1))):=by
 refine qC Tryz.func320 [.func (.yield h) #[] #[],vP d 0,vP e 0] [(0,.func (.yield h) #[] #[]),(1,vP d 0),(2,vP e 0)] λa Z=>?_
 refine Jb Z b ((JB) λa Z b=>?_)
 refine qg (λC E G=>∃(x:Nat) (i:Nat) (F:List Fact),(Inv i F)∧(x≤g)∧(iG l x+i=iG l g)∧C=0+x∧Fr E 16 [] [(0,.func (.yield h) #[] #[]),(1,vP d 0),(2,vP e 0)]∧Mem W G (.blk d #[vI x] 3:: .blk e #[abh A l c] 42::F)) (m:=0+g) ⟨g,0,o,p,abq _,acF _,rfl,Z.sub kr,b.pt 2 [0,1]⟩ ?_
 clear Z b;rintro C a N ⟨x,i,F,H,q,O,rfl,Z,b⟩
 refine Jb Z b ((JQ) λa Z b=>?_)
 refine wp_seq ?_
 refine Ni (i:=2) ?_
 refine Jb Z b ((Jp 1∘Jc O0∘Jq) λa Z b=>?_)
 refine wG Z (i:=2) (vs:=[vI x]) rfl rfl rfl rfl rfl rfl de (hy i F [.blk d #[vI x] 3,.blk e #[abh A l c] 42] _ (x:Int) H om (aai (es:=F) b)) zg ?_
 clear Z b;rintro v r a ⟨s,b,t,f⟩ Z;injection t with t;subst t
 replace b:Mem W r (.blk d #[vI x] 3:: .blk e #[abh A l c] 42::s):=aai (es:=[.blk d #[vI x] 3,.blk e #[abh A l c] 42]) b
 refine Jb Z b ((Jp 1∘Jc O0∘Jp 2∘aG∘Jq) (Ji (λj=>?_) λj=>?_))
 ·
  have k:0<x:=by omega
  obtain ⟨I,J⟩:=B x k q
  obtain ⟨y,n⟩:∃y:Nat,(l.getD x Gr.zero).parent=(y:Int):=⟨(l.getD x Gr.zero).parent.toNat,by omega⟩
  have u:=Ot (l:=l) (g:=x) (λi h0 hi=>B i h0 om) k
  rw [n,abG] at u
  refine (JT∘aD∘JB∘JR∘Jc O1∘Jc O0) ?_
  obtain ⟨gA,P,rfl,_⟩:=hr.sat x
  refine (gV x 2∘Jf 0∘CW pR hr x Gr.zero∘Jo (vI y) (by rw [n])∘JW aT aT) λD=>(qE∘Jq) λa Z b=>?_
  exact ⟨_,om,y,i+1,s,f,by omega,by omega,rfl,Z.sub kr,b.pt 2 [0,1]⟩
 obtain rfl:x=0:=by omega
 have K:=q2y l
 refine (JF∘JX) ?_
 have z:i+1=iG l g+1:=by omega
 rw [z] at f
 intro a Z b
 exact gM rfl Z ⟨_,rfl,s,aap [.blk d #[vI 0] 3,.blk e #[abh A l c] 42] b,f⟩
def zin (A:Option Addr) (n c:Nat) (g:Int) (w:World):
    Calls abm 314 #[.slice A n c,vI g] w λr d=>∃a b,r= .returned (.func (.func 320) #[] #[vP a 0,vP b 0])∧Mem w d [.blk a #[vI g] 3,.blk b #[.slice A n c] 42]:=by
 refine (iX Tryz.func314 6) ?_
 exact (JP∘AP) λj e=>(AP) λk f=>(Jp 1∘Jr∘Jy (h:=by exact Yl.makeFunc (fst:=[]) (caps:=[vP f 0,vP e 0]) rfl rfl rfl)∘Jp 1∘aK∘Jj∘JZ∘aZ) λi=>by exact ⟨_,_,rfl,i.pk [0,1]⟩
def q3g (A:Option Addr) (c:Nat) (l:List Gr) (g:Nat) (w:World) (hr:Rd w w.heap.size 2 A (abl l) (l.flatMap eO)) (q:abl l≤1000000) (s:g<abl l) (n:∀i,0<i→i≤g→dP l i):
    Calls abm 302 #[abh A l c,vI g] w (Is w (vI (iG l g:Int))):=by
 have j:=zez n
 refine Kh (vs:=[abh A l c,vI g]) Tryz.func302 rfl rfl kr (σ0:=[(0,abh A l c),(1,vI g)]) rfl ?_
 intro a Z
 have b:=Mem.start w
 refine Jb Z b ((JP∘Jp 1∘Jr∘JA #[vI 0]) λt e=>(JW aT aT) λo=>(Jj∘JQ∘JP∘Jp 2∘JL (h:=by exact λb=>zin A (abl l) c (g:Int) _)) ?_)
 rintro b _ E ⟨u,y,rfl,hm⟩
 refine ⟨_,rfl,_,b.join hm,?_⟩
 refine (bH∘Jj∘JB) λa Z b=>?_
 refine Kg Z b (λF=>F=[.blk e #[vI (((iG l g+1):Int)-1)] 3]) (λ_ _=>False) rfl kr ?_ ?_ (λ_ _ _ _ _ h=>h.elim)
 ·
  clear Z b;intro f B d z k b
  have C:Xe abm w f (iG l g+1) (λi F=>F=(.obj f (.loop (d .ready none)):: .obj B (.deferred (some [])):: [.blk e #[vI ((i:Int)-1)] 3])):=by
   rintro i F fr G x rfl hi b
   replace b:Mem w _ (.obj f (.loop (d .ready none)):: .obj B (.deferred (some [])):: .blk e #[vI ((i:Int)-1)] 3::fr):=b
   refine qqq (v1:=vI x) k b de λa Z=>?_
   refine wpIn_skip ?_
   refine ⟨(.obj B (.deferred (some [])):: .blk e #[vI ((i:Int)-1)] 3::fr),b.pt (fs':=(.obj f (.loop (d .ready none)):: .obj B (.deferred (some [])):: .blk e #[vI ((i:Int)-1)] 3::fr)) 3 [0,1,2],λH b=>?_⟩
   refine wpIn_block ?_
   refine qy ?_
   refine Jb Z b ((Jc O2∘Jp 1∘Jo (vI (((i+1:Nat):Int)-1)) (by have D:=j;exact (ou ⟨by omega,by omega⟩).trans (congrArg (abQ .i64) om))∘JW iM aT) λp=>(ow∘Jq) λa Z b=>?_)
   refine ⟨(.obj B (.deferred (some [])):: .blk e #[vI (((i+1:Nat):Int)-1)] 3::fr),b.pt (fs':=(.obj f (.loop (d .busy none)):: .obj B (.deferred (some [])):: .blk e #[vI (((i+1:Nat):Int)-1)] 3::fr)) 3 [0,1,2],λt b=>?_⟩
   exact ⟨(.obj f (.loop (d .ready none)):: .obj B (.deferred (some [])):: .blk e #[vI (((i+1:Nat):Int)-1)] 3:: []),b,rfl,rfl⟩
  refine (ze0 w z u y f A c l g _ _ hr q s n C rfl (b.pk [2,3,0,1,4])).mono ?_
  rintro r I ⟨v,rfl,J,m,rfl⟩
  exact ⟨v,rfl,.inl ⟨_,rfl,m⟩⟩
 clear Z b;rintro B a K _ rfl Z b
 refine Jb Z b ((JG∘JP∘Jc O1∘Jp 1∘aK∘Jj∘JZ) λa Z b=>?_)
 refine Ew Z b (i:=0) rfl λa L Z b=>?_
 exact kX rfl Z rfl (⟨by congr 2;omega,b.below⟩)
def qyo (A:Option Addr) (c:Nat) (l:List Gr) (t:∀x∈l,x.Ok) (w:World) (hr:Rd w w.heap.size 2 A (abl l) (l.flatMap eO)) (G:abl l≤1000000):
    Calls abm 261 #[abh A l c] w (Ox w l):=by
 refine (dV Tryz.func261 58) ?_
 refine (JP∘Jp 2∘Jj∘JQ∘JB∘JP∘Jp 1∘Jl∘Jp 2∘dQ∘Jj) (Ji (λu=>?_) λu=>?_)
 ·
  exact (JT∘JP∘Jp 2∘Jj∘JZ∘bG) λb=>Bh (Ow om) de b.below
 refine (JF∘JP∘Jp 1∘Jl∘Jp 2) (Je (λf=>?_) λf=>?_)
 ·
  exact (Jp 7∘aG∘Jj∘JT∘JP∘Jp 2∘Jj∘JZ∘bG) λb=>Bh (Ow om) de b.below
 obtain ⟨gA,s,rfl,_⟩:=hr.sat 0
 refine (Jp 1∘Jy (v:=vP gA s) (h:=by exact Yl.indexAddr (ad:=⟨gA,s,none⟩) (y:=0) (sz:=2) rfl rfl rfl om kr)∘oK Gr.cells pR hr lq 0 Gr.zero∘fu #[vI 0,vI 1]∘Jy (v:= .bool (!(decide ((l.getD 0 Gr.zero)=⟨0,1⟩)))) (h:=by exact aaN rfl rfl rfl (q8y (l.getD 0 Gr.zero) ⟨0,1⟩))∘Jp 2∘aG∘Jj) (Ju (λe=>?_) λe=>?_)
 ·
  have z:=of_decide_eq_false ((adA _).mp e)
  exact (JT∘JP∘Jp 2∘Jj∘JZ∘bG) λb=>Bh (Ow (λh=>by rw [h.2.2] at e;simp at e)) de b.below
 have z:=of_decide_eq_true ((aeX _).mp e)
 refine (JF∘aD∘JQ∘JP∘Jp 1∘Jj∘JB) λa Z b=>?_
 refine qg (λF H I=>∃(g:Nat),(1≤g)∧(g≤abl l)∧(fB g (oQ l))∧F=abl l-g∧Fr H 58 [] [(4,vI g),(9,.bool false),(5,.bool false),(3,vI 0),(2,vI 0),(0,abh (some ⟨gA,s,none⟩) l c)]∧Mem w I []) (m:=abl l-1) ⟨1,abq _,by omega,fB.zero.succ (q8x l),rfl,Z.sub kr,b.pk []⟩ ?_
 clear Z b;rintro F a N ⟨g,J,K,B,rfl,Z,b⟩
 refine Jb Z b ((JQ∘JP∘Jp 2∘Jl∘Jp 1∘dQ∘Jj) (Ji (λj=>?_) λj=>?_))
 ·
  have d:g<abl l:=by omega
  have k:=t _ (qe Gr.zero d)
  have C:=k.parent
  intro a Z b
  unfold aR at C
  have D:=k.weight
  unfold aR at D
  refine Jb Z b ((JT∘aD∘JQ∘JB∘JB∘JP∘Jp 2∘gV g 2∘Jf 0∘CW pR hr g Gr.zero∘Jp 2) (Ji (λn=>?_) λn=>?_))
  ·
   exact (Jv 9 [(26,.bool true)]∘aG∘Jj∘JT∘JP∘Jp 3∘Jj∘JZ∘bG) λb=>Bh (KI d (KJ om om)) de b.below
  refine (Jp 2∘gV g 2∘Jf 0∘CW pR hr g Gr.zero∘Jp 4∘aG∘Jj) (Ji (λo=>?_) λo=>?_)
  ·
   exact (JT∘JP∘Jp 3∘Jj∘JZ∘bG) λb=>Bh (KI d (KJ om om)) de b.below
  have E:=q23 B ⟨by omega,by omega⟩
  refine (JF∘JP∘Jp 2∘gV g 2∘Jf 1∘Nu pR hr 1 g Gr.zero∘JL (h:=by exact λb=>qqu ((l.getD g Gr.zero).weight) _)) ?_
  rintro b _ L ⟨rfl,p⟩
  refine ⟨_,rfl,_,b.call p,?_⟩
  refine (Jp 2∘aG∘Jj) (oz (λq=>?_) λq=>?_)
  ·
   exact (JT∘JP∘Jp 3∘Jj∘JZ∘bG) λb=>Bh (KI d (KJ om om)) de b.below
  refine (JF∘JP∘Jp 2∘JI (h:=by exact λb=>q3g (some ⟨gA,s,none⟩) c l g _ (b.old hr) G om E)) λM p=>(Jp 2∘gu∘Jj) (Ji (λr=>?_) λr=>?_)
  ·
   exact (JT∘JP∘Jp 3∘Jj∘JZ∘bG) λb=>Bh (KI d (KJ om om)) de b.below
  refine (JF∘aD∘JR∘Jp 1∘bT 1∘Jp 1∘bH∘Jq) λa Z b=>?_
  exact ⟨_,om,g+1,by omega,by omega,B.succ (zeo ⟨by omega,by omega,by omega,by omega⟩),rfl,Z.sub kr,b.pk []⟩
 exact (JF∘JX∘JG∘JP∘Jp 2∘Jj∘JZ∘bG) λb=>by exact qtd (q8w ⟨by omega,by omega,by simpa using e⟩ (λi hi=>B i om)) b.below
def qyp (A:Option Addr) (c:Nat) (l:List Gr) (b:∀x∈l,x.Ok) (w:World) (hr:Rd w w.heap.size 2 A (abl l) (l.flatMap eO)) (f:abl l≤1000000):
    Calls abm 191 #[abh A l c] w (Is w (.bool (bU l))):=by
 refine (dV Tryz.func191 12) ?_
 refine (JP∘Jp 1∘Jr∘Jp 1∘JL (h:=by exact λa=>qyo A c l b _ (a.old hr) f)) ?_
 rintro a _ j ⟨⟨i,e,rfl,g⟩,d⟩
 refine ⟨_,rfl,_,a.call d,?_⟩
 exact (Jp 1∘Jx∘Jx∘Jp 2∘aG∘Jr∘Jp 3∘dQ∘Jj∘JZ∘aZ) λa=>bP g a.below
theorem OI (v r:Nat) (b:Int) (g:v<18446744073709551616) (hr:r<4294967296) (i:0≤b∧b<4294967296) (w:World):
    Calls abm 218 #[.agg #[vQ v,vW r,vW b]] w (Is w (.bool (bK v r b))):=by
 obtain ⟨z,rfl⟩:∃z:Nat,b=(z:Int):=⟨b.toNat,by omega⟩
 refine (dV Tryz.func218 24) ?_
 refine (JP∘JE) λj k=>(Jp 1∘Jr∘Jg 2 O0∘Jw .i64∘JL (h:=by exact λa=>Xw (z:Int) _)) ?_
 rintro a _ l ⟨rfl,e⟩
 refine ⟨_,rfl,_,a.call e,?_⟩
 refine (Jp 1) (Ji (λf=>?_) λf=>?_)
 ·
  refine (Jg 1 O0∘Jg 2 O0∘Jp 3) (Ji (λc=>?_) λc=>?_)
  ·
   refine (Jg 0 O0∘Jp 2) (Ji (λd=>?_) λd=>?_)
   ·
    exact (Jp 6∘aG∘Jj∘JZ∘aZ) λa=>zid om a.below
   exact (Jg 1 O0∘Jp 4∘aG∘Jj∘JZ∘aZ) λa=>Bg om a.below
  exact (Jv 10 [(2,.bool false)]∘aG∘Jj∘JZ∘aZ) λa=>lC om a.below
 exact (Jv 17 [(2,.bool false)]∘gu∘Jj∘JZ∘aZ) λa=>lC om a.below
theorem q8 (v r:Nat) (b:Int) (e:0≤b∧b<4294967296) (w:World):
    Calls abm 208 #[vQ v,vW r,vI b] w (Is w (.agg #[vQ v,vW r,vW b])):=by
 obtain ⟨z,rfl⟩:∃z:Nat,b=(z:Int):=⟨b.toNat,by omega⟩
 refine (xD Tryz.func208 12) ?_
 refine (JP∘JA #[vQ 0,vW 0,vW 0]) λf g=>(Jr∘Jp 3∘Jv 1 [(10,vW (IntKind.u32.wrap (z:Int)))]∘Jo (vW z) (by exact AA rfl om)∘fu #[vQ v,vW r,vW z]∘JV qm aT) λc=>(qE∘Jj∘JZ) λa Z d=>?_
 exact iq rfl Z (.cellS (i:=0) Z d rfl rfl qm rfl) (⟨rfl,d.below⟩)
theorem Xx (m n:Nat) (hm:m<18446744073709551616) (a:1≤n∧n≤64) (w:World):
    Calls abm 199 #[vQ m,vI n] w (Is w (.bool (decide (2^n≤m)))):=by
 refine (iX Tryz.func199 11) ?_
 exact (JP∘Jp 1∘Jr∘Jp 2∘yX 1∘Jy (v:=vQ (m/2^ (n-1):Nat)) (h:=by exact aao (m:=m) (n:=(n-1)) rfl rfl rfl (by show _≤64;omega))∘Jp 1∘Jo (vQ ((m/2^ (n-1))/2:Nat)) (by exact sN .u64 (m/2^ (n-1)) (j:=1) (q:=2) rfl rfl)∘Jp 2∘aG∘Jj∘JZ∘aZ) λb=>bP (zep a.1) b.below
def Xy (x : aC) (t : Tk) (c : t.Ok) (I : 1 ≤ x.ak ∧ x.ak ≤ 64) (J : abl x.rs ≤ 1000000) (w : World) :
    Calls abm 219 #[.agg x.cells,.agg t.cells] w (Is w (.bool (dH x.av t))):=by
 obtain ⟨n,y⟩:∃n:Nat,x.ak=(n:Int):=⟨x.ak.toNat,by omega⟩
 have f:1≤n∧n≤64:=by omega
 have K:=c.v
 have L:=c.r
 have hi:=c.id
 have B:=c.group
 have hc:=c.cpu
 have C:=c.weight
 have hm:=c.mask
 unfold aR at hi B hc C
 refine (iX Tryz.func219 72) ?_
 refine (JP∘JE) λM N=>(JE) λO P=>(Jp 1∘Jr∘Jg 0 O0∘Jp 2) (Ji (λz=>?_) λz=>?_)
 ·
  refine (Jg 0 O0∘Jp 3) (Ji (λg=>?_) λg=>?_)
  ·
   refine (Jg 1 O0∘Jp 3) (Ji (λi=>?_) λi=>?_)
   ·
    refine (Jg 1 O0∘Jg 6 O1∘Jl∘Jp 3) (Ji (λl=>?_) λl=>?_)
    ·
     refine (Jg 3 O0∘Jp 3) (Ji (λo=>?_) λo=>?_)
     ·
      refine (Jg 3 O0∘Jf 0∘Jg 0 O1∘Jp 3) (Ji (λp=>?_) λp=>?_)
      ·
       obtain ⟨k,A⟩:∃k:Nat,t.cpu=(k:Int):=⟨t.cpu.toNat,by omega⟩
       refine (Jg 2 O0∘JL (h:=by exact λb=>KQ t.weight _)) ?_
       rintro b _ D ⟨rfl,e⟩
       refine ⟨_,rfl,_,b.call e,?_⟩
       refine (Jp 2) (Ji (λq=>?_) λq=>?_)
       ·
        refine (Jg 4 O0∘Jf 0∘Jf 0∘Jc O1∘Jo (vI n) (by rw [y])∘JI (h:=by exact λb=>Xx t.mask n c.mask f _)) λE e=>(Jp 3) (Ju (λd=>?_) λd=>?_)
        ·
         have s:=of_decide_eq_false ((adA _).mp d)
         have F:=aew t.mask (2^k)
         refine (Jg 4 O0∘Jf 3∘Jc O0∘Jo (vI k) (by rw [A])∘Jy (v:=vQ (t.mask/2^k:Nat)) (h:=by exact aao (m:=t.mask) (n:=k) rfl rfl rfl (by show _≤64;omega))∘Jp 1∘Jo (vQ ((t.mask/2^k)%2:Nat)) (by exact Ke (n:=1) (j:=1) rfl de om)∘Jp 3) (Je (λu=>?_) λu=>?_)
         ·
          refine (Jg 6 O0∘Jg 7 O0∘Jg 2 O0∘JI (h:=by exact λb=>q8 t.v t.r t.weight om _)) λG e=>(JI (h:=by exact λb=>OI t.v t.r t.weight om om om _)) λH e=>(Jp 2∘aG∘Jq) λa Z b=>?_
          replace Z:=Z.to [(4,.bool (bK t.v t.r t.weight))]
          exact Jb Z b ((JG∘JZ∘aZ) λb=>bP (zih om om (by rw [y,abG];simpa using d) (by rw [A,abG];omega)).symm b.below)
         refine (Jv 10 [(4,.bool false)]∘aG∘Jq) λa Z b=>?_
         replace Z:=Z.to [(4,.bool false)]
         exact Jb Z b ((JG∘JZ∘aZ) λb=>bP (zig (by rw [A,abG];omega)).symm b.below)
        have s:=of_decide_eq_true ((aeX _).mp d)
        exact (Jv 19 [(4,.bool false)]∘aG∘Jj∘JZ∘aZ) λb=>bP (zif (by rw [y,abG];simpa using d)).symm b.below
       exact (Jv 28 [(4,.bool false)]∘aG∘Jj∘JZ∘aZ) λb=>bP (zie om).symm b.below
      exact (Jv 33 [(4,.bool false)]∘aG∘Jj∘JZ∘aZ) λb=>bP (Df om).symm b.below
     exact (Jv 41 [(4,.bool false)]∘aG∘Jj∘JZ∘aZ) λb=>bP (Df om).symm b.below
    exact (Jv 46 [(4,.bool false)]∘aG∘Jj∘JZ∘aZ) λb=>bP (Df om).symm b.below
   exact (Jv 54 [(4,.bool false)]∘aG∘Jj∘JZ∘aZ) λb=>bP (Df om).symm b.below
  exact (Jv 59 [(4,.bool false)]∘aG∘Jj∘JZ∘aZ) λb=>bP (Df om).symm b.below
 exact (Jv 64 [(4,.bool false)]∘dQ∘Jj∘JZ∘aZ) λb=>bP (Df om).symm b.below
def Xz (x:aC) (b:x.av.Ok) (i:bN x) (w:World) (j:dZ w x):
    Calls abm 146 #[.agg #[vI x.ak,vQ (x.aj:Int),abh x.gA x.gs x.gc]] w (Is w (.bool (fC x.av))):=by
 have hc:=b.ak
 have c:=b.aj
 replace hc:aR x.ak:=hc
 replace c:x.aj<18446744073709551616:=c
 unfold aR at hc
 refine (dV Tryz.func146 21) ?_
 refine (JP∘JE) λm n=>(Jp 1∘Jr∘Jg 0 O0∘Jp 2) (Ji (λf=>?_) λf=>?_)
 ·
  refine (Jg 0 O0∘Jp 3) (Ji (λd=>?_) λd=>?_)
  ·
   refine (Jg 1 O0∘Jp 3) (Ji (λe=>?_) λe=>?_)
   ·
    exact (Jg 2 O0∘JI (h:=by exact λa=>qyp x.gA x.gc x.gs b.gs _ (a.old j.g) i.g)) λk l=>(Jp 2∘aG∘Jj∘JZ∘aZ) λa=>bP (zeq om).symm a.below
   exact (Jp 5∘aG∘Jj∘JZ∘aZ) λa=>bP (q24 om).symm a.below
  exact (Jv 10 [(2,.bool false)]∘aG∘Jj∘JZ∘aZ) λa=>bP (q24 om).symm a.below
 exact (Jv 15 [(2,.bool false)]∘dQ∘Jj∘JZ∘aZ) λa=>bP (q24 om).symm a.below
def q3h (t:Int) (w:World):Calls abm 217 #[vI t] w (Is w (.bool (!gP t))):=by
 refine (dV Tryz.func217 9) ?_
 refine (JP∘Jp 1∘Jr∘Jp 3) (Ji (λa=>?_) λa=>?_)
 ·
  exact (Jp 4∘aG∘Jj∘JZ∘aZ) λb=>bP (by first|(unfold gP;rw [decide_eq_false om];rfl)|(unfold gP;rw [←decide_not];exact decide_eq_decide.2 om)) b.below
 exact (Jp 4∘aG∘Jj∘JZ∘aZ) λb=>bP (by first|(unfold gP;rw [decide_eq_false om];rfl)|(unfold gP;rw [←decide_not];exact decide_eq_decide.2 om)) b.below
def qtm (A:Option Addr) (c:Nat) (l:List Int) (w:World) (hr:Rd w w.heap.size 1 A (abl l) (l.map aP)) (s:abl l≤1000000):
    Calls abm 270 #[abh A l c,.func (.func 217) #[] #[]] w (uF w (abl l) (λc=>gP (l.getD c 0))):=by
 refine (iX Tryz.func270 19) ?_
 refine (JP∘Jp 1∘Jj∘JQ∘JP∘Jp 1∘Jl∘Jp 1∘Jj∘JB) λa Z b=>?_
 refine qg (λn p q=>∃(k:Nat),(k≤abl l)∧(fB k (λc=>gP (l.getD c 0)))∧n=abl l-k∧Fr p 19 [] [(8,vI k),(7,vI (abl l)),(4,vI 0),(0,abh A l c),(1,.func (.func 217) #[] #[])]∧Mem w q []) (m:=abl l-0) ⟨0,abw _,fB.zero,rfl,Z.sub kr,b.pk []⟩ ?_
 clear Z b;rintro n a t ⟨k,u,o,rfl,Z,b⟩
 refine Jb Z b ((JP∘Jp 1∘Jj∘JQ) (Ji (λe=>?_) λe=>?_))
 ·
  have g:k<abl l:=by omega
  refine (JT∘aD∘JQ∘JB∘JP∘Jp 2∘aK∘Jr∘Jp 3) ?_
  obtain ⟨gA,v,rfl,_⟩:=hr.sat k
  refine (gV k 1∘Jy (h:=by exact aad hr k 0 om rfl rfl)) λa Z b=>?_
  refine fo Z 5 rfl rfl ?_
  refine mU Z (f:=217) (vs:=[vI (l.getD k 0)]) (fst:=[]) (caps:=[]) rfl rfl rfl kr rfl de (q3h (l.getD k 0) _) ?_
  rintro _ r ⟨rfl,j⟩
  refine ⟨_,rfl,?_⟩
  replace b:=b.call j
  clear Z;intro a Z
  refine Jb Z b ((l8∘Jj) (Ju (λd=>?_) λd=>?_))
  ·
   exact (JT∘JP∘Jp 2∘aK∘Jj∘JZ∘aZ) λb=>qyk g (by simpa using d) b.below
  refine (JF∘aD∘JR∘bT 1∘Jp 1∘aK∘Jq) λa Z b=>?_
  exact ⟨_,om,k+1,by omega,o.succ (by simpa using d),rfl,Z.sub kr,b.pk []⟩
 exact (JF∘JX∘JG∘JP∘Jp 1∘Jj∘JZ∘aZ) λb=>qyl (λi hi=>o i om) b.below
def qlt (A:Option Addr) (c:Nat) (l:List Int) (w:World) (hr:Rd w w.heap.size 1 A (abl l) (l.map aP)) (d:abl l≤1000000):
    Calls abm 216 #[abh A l c,.func (.func 217) #[] #[]] w (Is w (.bool (!gJ (abl l) (λc=>gP (l.getD c 0))))):=by
 refine (iX Tryz.func216 9) ?_
 refine (JP∘Jp 1∘Jr∘Jp 2∘JL (h:=by exact λa=>qtm A c l _ (a.old hr) d)) ?_
 rintro a _ f ⟨⟨i,rfl,e⟩,b⟩
 refine ⟨_,rfl,_,a.call b,?_⟩
 exact (Jp 2∘gu∘Jj∘JZ∘aZ) λa=>bP e a.below
def qyq (x:aC) (V:x.av.Ok) (K:bN x) (w:World) (M:dZ w x):
    Calls abm 160 #[.agg x.cells] w (Is w (.bool (mY x.av))):=by
 have hfs:=K.s;have hft:=K.t;have hfg:=K.g;have hfl:=K.l;have hfu:=K.u
 refine (dV Tryz.func160 123) ?_
 refine (JP∘JE) λw1 L=>(Jp 1∘Jj∘JQ∘JP∘Jf 0∘Jy (v:= .agg #[vI x.ak,vQ x.aj,abh x.gA x.gs x.gc]) (h:=by exact Pe rfl rfl xJ rfl (λ_ h=>h.sub (i:=0) rfl 0 rfl))∘JI (h:=by exact λb=>Xz x V K _ (M.old b))) λwK B=>(Jp 2) (Ju (λC=>?_) λC=>?_)
 ·
  exact (Jv 27 [(40,.bool true)]∘l8∘Jj∘JT∘JP∘Jp 1∘Jj∘JZ∘aZ) λb=>bP (zii (by simpa using C)).symm b.below
 have hcf:fC x.av=true:=by simpa using C
 obtain ⟨hc1,hc2,hc3,hgs⟩:=lX hcf
 have hcp:1≤x.ak∧x.ak≤64:=⟨hc1,hc2⟩
 refine (Jg 3 O0∘Jl∘Jf 0∘Jg 0 O0∘Jp 3) (Jh (λOJ=>?_) λOJ=>?_)
 ·
  exact (Jv 18 [(40,.bool true)]∘aG∘Jj∘JT∘JP∘Jp 1∘Jj∘JZ∘aZ) λb=>bP (Oz om).symm b.below
 refine (Jg 4 O0∘Jl∘Jf 0∘Jg 0 O0∘Jp 3) (Jh (λhd31=>?_) λhd31=>?_)
 ·
  exact (Jv 9 [(40,.bool true)]∘aG∘Jj∘JT∘JP∘Jp 1∘Jj∘JZ∘aZ) λb=>bP (Oz om).symm b.below
 refine (Jg 6 O0∘Jl∘Jf 0∘Jg 2 O0∘Jl∘Jp 2∘aG∘Jj) (Jh (λBp=>?_) λBp=>?_)
 ·
  exact (JT∘JP∘Jp 1∘Jj∘JZ∘aZ) λb=>bP (Oz om).symm b.below
 refine (JF∘aD∘JQ∘JP∘Jg 3 O0∘JI (h:=by exact λb=>qlt x.lA x.lc x.cl _ (b.old M.l) K.l)) λXA B=>(aK∘Jj) (Ju (λD=>?_) λD=>?_)
 ·
  exact (JT∘JP∘Jp 1∘Jj∘JZ∘aZ) λb=>bP (Fa (by simpa using D)).symm b.below
 have hcl:gJ (abl x.cl) (λc=>gP (x.cl.getD c 0))=true:=by simpa using D
 refine (JF∘aD∘JQ∘JP∘Jg 6 O0∘Jl∘Jp 1∘Jj∘JB) λa Z b=>?_
 refine qg (λR N O=>∃(g:Nat),(g≤abl x.rs)∧(fB g (rowOk x.av))∧R=abl x.rs-g∧Fr N 123 [] [(47,vI g),(46,vI (abl x.rs)),(45,abh x.sA x.rs x.sc),(43,.bool false),(40,.bool false),(2,.bool false),(1,vP L 0)]∧Mem w O [.blk L x.cells 48]) (m:=abl x.rs-0) ⟨0,abw _,fB.zero,rfl,Z.sub kr,b.pk [0]⟩ ?_
 clear Z b;rintro R a w_ ⟨g,hg,hu,rfl,Z,b⟩
 refine Jb Z b ((JP∘Jp 1∘Jj∘JQ) (Ji (λOL=>?_) λOL=>?_))
 ·
  have d:g<abl x.rs:=by omega
  obtain ⟨y,P⟩:∃z,x.rs.getD g Rw.zero=z:=⟨_,rfl⟩
  have pU:Rd w w.heap.size 3 y.A (abl y.l) (y.l.flatMap iQ):=by rw [←P];exact M.row d
  have hyl:abl y.l≤1000000:=by rw [←P];exact K.r _ (qe Rw.zero d)
  have mK:∀z∈y.l,z.Ok:=by rw [←P,←jR d];exact V.sp _ (qe [] (by rw [kQ];exact d))
  obtain ⟨wt,E⟩:∃z,(x.gs.getD g Gr.zero).weight=z:=⟨_,rfl⟩
  have hw1:=oU hgs (show g<abl x.gs by omega)
  rw [E] at hw1
  obtain ⟨Fy,Fz,hq1,_⟩:=Rd.sat M.g g
  have S:=M.g;rw [hq1] at S
  refine (JT∘aD∘JQ∘JB∘JP∘Jp 1) ?_
  obtain ⟨W,X,Y,_⟩:=Rd.sat M.s g
  have T:=M.s;rw [Y] at T
  refine (Jk 45 (.slice (some ⟨W,X,none⟩) (abl x.rs) x.sc) (h:=by rw [Y];try rfl)∘gV g 1∘Jy (v:= .slice ((x.rs.getD g Rw.zero).A) ((x.rs.getD g Rw.zero).l.length) ((x.rs.getD g Rw.zero).c)) (h:=by exact aad T g Rw.zero (by first|omega|(simp;omega)) rfl rfl)∘Jo (.slice y.A (abl y.l) y.c) (by rw [P])∘Jp 2∘Jj∘JQ∘JP∘Jp 1∘Jl∘Jf 0∘Jg 0 O0∘Jp 1∘gu∘Jj) (Jh (λBq=>?_) λBq=>?_)
  ·
   exact (JT∘JP∘Jp 1∘Jj∘JZ∘aZ) λb=>bP (Xf d (zer d (by rw [P];omega))).symm b.below
  refine (JF∘aD∘JP∘Jp 1∘Jl∘Jp 1∘Jj∘JB) λa Z b=>?_
  refine qg (λR N O=>∃(c:Nat),(c≤abl y.l)∧(fB c (λc=>dI x.av g (y.l.getD c Sp.zero)))∧R=abl y.l-c∧Fr N 123 [] [(60,vI c),(59,vI (abl y.l)),(58,abh y.A y.l y.c),(57,.bool false),(4,abh y.A y.l y.c),(3,vI g),(45,abh (some ⟨W,X,none⟩) x.rs x.sc),(48,.bool true),(47,vI g),(46,vI (abl x.rs)),(43,.bool false),(40,.bool false),(2,.bool false),(1,vP L 0)]∧Mem w O [.blk L x.cells 48]) (m:=abl y.l-0) ⟨0,abw _,fB.zero,rfl,Z.sub kr,b.pk [0]⟩ ?_
  clear Z b;rintro R a w_ ⟨c,hc,hu2,rfl,Z,b⟩
  refine Jb Z b ((JP∘Jp 1∘Jj∘JQ) (Ji (λBr=>?_) λBr=>?_))
  ·
   have F:c<abl y.l:=by omega
   obtain ⟨z,hz⟩:∃q,y.l.getD c Sp.zero=q:=⟨_,rfl⟩
   have OM:=mK _ (qe Sp.zero F)
   rw [hz] at OM
   have hzv:=OM.v;have hzr:=OM.r
   refine (JT∘aD∘JQ∘JB∘JP) ?_
   obtain ⟨Bt,Bu,hq3,_⟩:=Rd.sat pU c
   have U:=pU;rw [hq3] at U
   refine (Jk 58 (.slice (some ⟨Bt,Bu,none⟩) (abl y.l) y.c) (h:=by rw [hq3];try rfl)∘gV c 3∘oK Sp.cells Bf U nI c Sp.zero (hk:=F)∘Jo (.agg z.cells) (by rw [hz])∘JA #[vQ 0,vW 0,vQ 0]) λw6 g6=>(JV nI aT (h1:=by exact Xc z)) λFB=>(bH∘Jj) λa Z b=>?_
   refine q9 (λN O=>Fr N 123 [] [(91,.bool (!dI x.av g z)),(6,vP g6 0),(58,abh (some ⟨Bt,Bu,none⟩) y.l y.c),(61,.bool true),(60,vI c),(59,vI (abl y.l)),(57,.bool false),(4,abh y.A y.l y.c),(3,vI g),(45,abh (some ⟨W,X,none⟩) x.rs x.sc),(48,.bool true),(47,vI g),(46,vI (abl x.rs)),(43,.bool false),(40,.bool false),(2,.bool false),(1,vP L 0)]∧Mem w O [.blk g6 z.cells 200,.blk L x.cells 48]) ?_ ?_
   ·
    refine Jb Z b ((Vs .n []) λFC=>(Vf 0 0∘Vf 2 1∘Vf 4 0∘Vf 5 2∘Vp [7]∘Vc 1 O0∘Vc 3 O0∘Vc 6 O1) λa Z b e=>?_)
    replace Z:=Z.sp 70 (abh (some ⟨Fy,Fz,none⟩) x.gs x.gc) rfl (by rw [hq1];try rfl)
    refine Vb Z b e ((yY 8 g 2∘Vf 9 1∘EC 10 pR S 1 g Gr.zero∘Vo (vI wt) (by rw [E])∘VI 11 .n (h:=by exact λb=>q8 z.v z.r wt om _)) λw75 B=>(VI 12 .n (h:=by exact λb=>OI z.v z.r wt om om om _)) λw76 B=>(Vp [13,14]) λa Z b e=>?_)
    rcases Z.tf 78 rfl with ⟨p,Z⟩|⟨p,Z⟩
    ·
     refine Vb Z b e ((Vq [15,16,17,18,19,20,21,22,23,24,25,26,27] [(91,.bool true)]∘Vd∘aG) λa Z b=>?_)
     have Z:=Z.sp 91 (.bool (!dI x.av g z)) rfl (congrArg abX (by rw [zik (by rw [E];simpa using p)];rfl))
     exact ⟨Z.sub kr,b.pk [0,1]⟩
    refine ap Z (λ_=>e) [15,16,17] (bt 28 [18,19,20,21,22,23,24,25,26,27]) [(81,.bool ((g:Int)==(0:Int)))] λa Z=>?_
    refine Jb Z b (Je (λOO=>?_) λOO=>?_)
    ·
     intro a Z b
     refine ap Z (λ_=>e) [18] (bt 28 [19,20,21,22,23,24,25,26,27]) [(82,vP g6 0)] λa Z=>?_
     refine dO Z e 19 0 (v:=vQ z.v) λa Z=>?_
     refine ap Z (λ_=>e) [20,21] (bt 28 [22,23,24,25,26,27]) [(85,.bool ((z.v:Int) !=(0:Int)))] λa Z=>?_
     refine Jb Z b (Jh (λOP=>?_) λOP=>?_)
     ·
      intro a Z b
      refine ap Z (λ_=>e) [22,23,24,25,26,27] (bt 28 []) [(91,.bool true)] λa Z=>?_
      refine qd kr ?_
      have Z:=Z.sp 91 (.bool (!dI x.av g z)) rfl (congrArg abX (by rw [zil om om];rfl))
      exact ⟨Z.sub kr,b.pk [0,1]⟩
     intro a Z b
     refine ap Z (λ_=>e) [22] (bt 28 [23,24,25,26,27]) [(86,vP g6 1)] λa Z=>?_
     refine dO Z e 23 0 (v:=vW z.r) λa Z=>?_
     refine ap Z (λ_=>e) [24,25,26,27] (bt 28 []) [(91,.bool ((z.r:Int) !=(0:Int)))] λa Z=>?_
     refine qd kr ?_
     have Z:=Z.sp 91 (.bool (!dI x.av g z)) rfl (congrArg abX (zeu (by rw [E];simpa using p) om om))
     exact ⟨Z.sub kr,b.pk [0,1]⟩
    intro a Z b
    refine ap Z (λ_=>e) [18,19,20,21,22,23,24,25,26,27] (bt 28 []) [(91,.bool false)] λa Z=>?_
    refine qd kr ?_
    have Z:=Z.sp 91 (.bool (!dI x.av g z)) rfl (congrArg abX (by rw [zet (by rw [E];simpa using p) om];rfl))
    exact ⟨Z.sub kr,b.pk [0,1]⟩
   clear Z b;rintro a wL ⟨Z,b⟩
   refine Jb Z b (Ju (λG=>?_) λG=>?_)
   ·
    exact (JT∘JP∘Jp 1∘Jj∘JZ∘aZ) λb=>bP (Xf d (zes d (by rw [P];exact F) (by rw [P,hz];simpa using G))).symm b.below
   refine (JF∘aD∘JR∘bT 1∘Jp 1∘aK∘Jq) λa Z b=>?_
   replace Z:=Z.sp 58 (abh y.A y.l y.c) rfl (by rw [hq3])
   exact ⟨_,om,c+1,by omega,hu2.succ (by rw [hz];simpa using G),rfl,Z.sub kr,b.pk [1]⟩
  refine (JF∘JX∘JG∘JR∘bT 1∘Jp 1∘aK∘Jq) λa Z b=>?_
  replace Z:=Z.sp 45 (abh x.sA x.rs x.sc) rfl (by rw [Y])
  exact ⟨_,om,g+1,by omega,hu.succ (Xg d (by rw [P];omega) (by rw [P];exact λi hi=>hu2 i om)),rfl,Z.sub kr,b.pk [0]⟩
 refine (JF∘JX∘JG∘JQ∘JP∘Jg 5 O0∘Jl∘Jp 1∘Jj∘JB) λa Z b=>?_
 refine qg (λR N O=>∃(i:Nat),(i≤abl x.ts)∧(fB i (iN x.av))∧R=abl x.ts-i∧Fr N 123 [] [(97,vI i),(96,vI (abl x.ts)),(95,abh x.tA x.ts x.tc),(48,.bool false),(47,vI g),(46,vI (abl x.rs)),(45,abh x.sA x.rs x.sc),(43,.bool false),(40,.bool false),(2,.bool false),(1,vP L 0)]∧Mem w O [.blk L x.cells 48]) (m:=abl x.ts-0) ⟨0,abw _,fB.zero,rfl,Z.sub kr,b.pk [0]⟩ ?_
 clear Z b;rintro R a w_ ⟨i,hi,hu3,rfl,Z,b⟩
 refine Jb Z b ((JP∘Jp 1∘Jj∘JQ) (Ji (λhd98=>?_) λhd98=>?_))
 ·
  have H:i<abl x.ts:=by omega
  obtain ⟨t,ht⟩:∃q,x.ts.getD i Tk.zero=q:=⟨_,rfl⟩
  have I:t.Ok:=by rw [←ht];exact V.ts _ (qe Tk.zero H)
  have hti:=I.id
  intro a Z b
  unfold aR at hti
  refine Jb Z b ((JT∘aD∘JQ∘JB∘JP∘Jp 1) ?_)
  obtain ⟨zG,zH,Q,_⟩:=Rd.sat M.t i
  have J:=M.t;rw [Q] at J
  refine (Jk 95 (.slice (some ⟨zG,zH,none⟩) (abl x.ts) x.tc) (h:=by rw [Q];try rfl)∘gV i 8∘oK Tk.cells qk J eU i Tk.zero (hk:=H)∘Jo (.agg t.cells) (by rw [ht])∘JA #[vI 0,vI 0,vI 0,vI 0,vQ 0,.bool false,vQ 0,vW 0]) λw8 g8=>(Jp 1∘JV eU aT (h1:=by exact E9 t)) λFD=>(Jj) λa Z b=>?_
  refine q9 (λN O=>Fr N 123 [] [(121,.bool (!iN x.av i)),(7,vI i),(8,vP g8 0),(95,abh (some ⟨zG,zH,none⟩) x.ts x.tc),(98,.bool true),(97,vI i),(96,vI (abl x.ts)),(48,.bool false),(47,vI g),(46,vI (abl x.rs)),(45,abh x.sA x.rs x.sc),(43,.bool false),(40,.bool false),(2,.bool false),(1,vP L 0)]∧Mem w O [.blk g8 t.cells 232,.blk L x.cells 48]) ?_ ?_
  ·
   refine Jb Z b ((Vs .n []) λOQ=>(Vp [0,1,2]) λa Z b e=>?_)
   rcases Z.tf 104 rfl with ⟨f,Z⟩|⟨f,Z⟩
   ·
    have hd104:=of_decide_eq_true f
    refine Vb Z b e ((Vf 3 5∘Vp [5]∘Vf 10 0∘Vc 4 O1∘ED 6 1) λa Z b e=>?_)
    replace Z:=Z.sp 106 (abh (some ⟨zG,zH,none⟩) x.ts x.tc) rfl (by rw [Q];try rfl)
    refine Vb Z b e ((yY 7 (i-1) 8∘Vf 8 0∘U2 9 qk J (i-1) Tk.zero (hk:=by first|omega|(simp;omega))∘Vc 11 O0∘Vp [12,13,14]) λa Z b e=>?_)
    rcases Z.tf 116 rfl with ⟨k,Z⟩|⟨k,Z⟩
    ·
     have FE:=of_decide_eq_true k
     refine Vb Z b e ((Vp [15,16,17,18,19]∘Vd∘aG) λa Z b=>?_)
     have Z:=Z.sp 121 (.bool (!iN x.av i)) rfl (congrArg abX (by rw [q8z om (by rw [ht];omega)];rfl))
     exact ⟨Z.sub kr,b.pk [0,1]⟩
    have FE:=of_decide_eq_false k
    refine jG Z e 15 rfl (v:= .agg x.cells) (Pe rfl rfl fK rfl (λ_ h=>qi (h.blk (i:=1) rfl))) λa Z=>?_
    refine jG Z e 16 rfl (v:= .agg t.cells) (Pe rfl rfl eU rfl (λ_ h=>qi (h.blk (i:=0) rfl))) λa Z=>?_
    refine s_on Z 17 rfl (iR Z b [.agg x.cells,.agg t.cells] (.bool (dH x.av t)) rfl rfl (Xy x t I hcp K.s _) λOT B b a Z=>?_)
    refine ay (b.pk [0,1]) (λe=>?_)
    refine ap Z (λ_=>e) [18,19] (bt 20 []) [(121,.bool (!(dH x.av t)))] λa Z=>?_
    refine qd kr ?_
    have Z:=Z.sp 121 (.bool (!iN x.av i)) rfl (congrArg abX (by rw [Xh (by rw [ht];omega),ht]))
    exact ⟨Z.sub kr,b.pk [0,1]⟩
   have hd104:=of_decide_eq_false f
   refine ap Z (λ_=>e) [3,4,5,6,7,8,9,10,11,12,13,14] (bt 20 [15,16,17,18,19]) [(116,.bool false)] λa Z=>?_
   refine jG Z e 15 rfl (v:= .agg x.cells) (Pe rfl rfl fK rfl (λ_ h=>qi (h.blk (i:=1) rfl))) λa Z=>?_
   refine jG Z e 16 rfl (v:= .agg t.cells) (Pe rfl rfl eU rfl (λ_ h=>qi (h.blk (i:=0) rfl))) λa Z=>?_
   refine s_on Z 17 rfl (iR Z b [.agg x.cells,.agg t.cells] (.bool (dH x.av t)) rfl rfl (Xy x t I hcp K.s _) λOT B b a Z=>?_)
   refine ay (b.pk [0,1]) (λe=>?_)
   refine ap Z (λ_=>e) [18,19] (bt 20 []) [(121,.bool (!(dH x.av t)))] λa Z=>?_
   refine qd kr ?_
   have Z:=Z.sp 121 (.bool (!iN x.av i)) rfl (congrArg abX (by rw [Xh (by rw [ht];omega),ht]))
   exact ⟨Z.sub kr,b.pk [0,1]⟩
  clear Z b;rintro a OU ⟨Z,b⟩
  refine Jb Z b (Ju (λo=>?_) λo=>?_)
  ·
   exact (JT∘JP∘Jp 1∘Jj∘JZ∘aZ) λb=>bP (Fb H (by simpa using o)).symm b.below
  refine (JF∘aD∘JR∘bT 1∘Jp 1∘aK∘Jq) λa Z b=>?_
  replace Z:=Z.sp 95 (abh x.tA x.ts x.tc) rfl (by rw [Q])
  exact ⟨_,om,i+1,by omega,hu3.succ (by simpa using o),rfl,Z.sub kr,b.pk [1]⟩
 exact (JF∘JX∘JG∘JP∘Jp 1∘Jj∘JZ∘aZ) λb=>bP (zij hcf om hcl (λi hi=>hu i om) (λj hj=>hu3 j om)).symm b.below
end Go.Proofs.YtekiimhdnigmcaaGreatDoor
