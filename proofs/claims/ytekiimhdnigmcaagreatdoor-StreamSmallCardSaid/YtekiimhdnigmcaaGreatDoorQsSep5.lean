/- A part of the proof. -/
import Derived.Test.YtekiimhdnigmcaaGreatDoorQsSep4
import Derived.Deep.DeepAppendWide
namespace Go.Proofs.YtekiimhdnigmcaaGreatDoor
open Go.RowKit
section
variable {P:Program} {Q:Exit→Act→World→Prop} {a:Act} {W w:World} {n d:Nat} {D:List Deferred} {σ:List (Nat×Value)} {o:Oper} {v:Value} {K:Act→World→Prop} {fs:List Fact}
theorem q57 {base:Nat} {e:TypeId} {size m:Nat} {xs:List Value} (h:w.ownsRow base e size v m xs) (hm:0<m):∃g c,v= .slice (some ⟨g,0,none⟩) m c∧m≤c:=by
 rcases h.2 with ⟨_,h2⟩|⟨g,cap,cur,h1,_,_,h2,_⟩
 ·omega
 ·exact ⟨g,cap,h1,h2⟩
theorem zw {base:Nat} {e:TypeId} {size m:Nat} {xs:List Value} (h:w.ownsRow base e size v m xs):∃A c,v= .slice A m c∧m≤c:=by
 rcases h.2 with ⟨h1,h2⟩|⟨g,cap,cur,h1,_,_,h2,_⟩
 ·subst h2;exact ⟨_,_,h1,Nat.le_refl _⟩
 ·exact ⟨_,cap,h1,h2⟩
theorem qV (Z:Fr a n D σ) (HM:Mem W w fs) {s x:Operand} {t e:TypeId} {z:Value} {size bytes i m0 m c B:Nat} {A:Option Addr} {xs news:List Value} (hop:o.op= .call {callee:= .builtin .append,args:= #[s,x],argTypes:= #[t,t]}) (ei:EI P t e z size bytes)
  (hs:look σ s=some v) (hx:look σ x=some (.slice A m c)) (hi:fs[i]?=some (.row v m0 xs e size)) (hr:Rd w B size A m news) (h1:∀u∈news,u.oneCell'=true) (hb:(m0+m)*bytes≤140737488355328) (h63:m0+m≤9223372036854775807)
  (hd:o.dst=some d) (hdn:d<n) (k:∀a' w' A' c',Fr a' n D ((d,.slice A' (m0+m) c')::σ)→Mem W w' (fs.set i (.row (.slice A' (m0+m) c') (m0+m) (xs++news) e size))→m0+m≤c'→K a' w'):o.wp P a w K Q:=
 Rl hop ei (HM.own hi) (Z.eval hs) hr (Z.eval hx) h1 hb h63 HM.size fun A' c' w' ho hg hbl=>by
  rw [hd]
  refine k _ _ _ _ (Z.put hdn _) (HM.append hi ho hg hbl) ?_
  rcases ho.2 with ⟨h2,h3⟩|⟨g,cap,cur,h2,_,_,h3,_⟩
  ·omega
  ·injection h2 with _ _ h4;omega
theorem qiy {t e:TypeId} {z:Value} {size bytes:Nat} (ei:EI P t e z size bytes) (ty:TypeId) {v:Value} {m0:Nat} {xs:List Value} {base:Nat} (hown:w.ownsRow base e size v m0 xs)
  {B:Nat} {A:Option Addr} {m c:Nat} {news:List Value} (hr:Rd w B size A m news) (h1:∀u∈news,u.oneCell'=true)
  (hb:((m0+m)+(m0+m)/4+192)*bytes≤281474976710656) (h63:m0+m≤9223372036854775807) (hbase:base≤w.heap.size):
  ∃A' c' w',(Builtin.append_ #[t,t] ty #[v,.slice A m c]).run P w= .ok (.slice A' (m0+m) c') w'∧w'.ownsRow base e size (.slice A' (m0+m) c') (m0+m) (xs++news)∧w.grownBy w' v.ownBlock∧
   ((Value.slice A' (m0+m) c').ownBlock=v.ownBlock∨(Value.slice A' (m0+m) c').ownBlock=some w.heap.size):=by
 by_cases hA:A=none∨m=0
 ·have hm:m=0:=by
   rcases hA with h|h
   ·rcases Nat.eq_zero_or_pos m with h0|h0
    ·exact h0
    ·obtain ⟨ad,h2,_⟩:=hr.row h0
     rw [h] at h2;cases h2
   ·exact h
  subst hm
  have hn:news=[]:=List.eq_nil_of_length_eq_zero (by simpa using hr.len)
  subst hn
  obtain ⟨A',c',rfl,_⟩:=zw hown
  refine ⟨A',c',w,?_,by simpa using hown,World.grownBy.refl w _,.inl rfl⟩
  cases A with
  |none=>exact Rj ei ty hown c
  | some ad =>
   obtain ⟨i,hi,_⟩:=info_parts ei.hi
   rcases hown.2 with ⟨h2,h3⟩|⟨g,cap,cur,h2,_,_,hnc,_⟩
   ·injection h2 with h2 h4 h5
    subst h2;subst h4;subst h5
    simp [Builtin.append_,run_underlying ei.ht,sizeOf,typeInfo,hi,Builtin.lenOf,Builtin.firstCells,loadCells,loadCellsFrom]
   ·injection h2 with h2 h4 h5
    subst h2;subst h5
    simp [Builtin.append_,run_underlying ei.ht,sizeOf,typeInfo,hi,Builtin.lenOf,Builtin.firstCells,hnc,storeCells,loadCells,loadCellsFrom]
 ·have hm:0<m:=by
   rcases Nat.eq_zero_or_pos m with h|h
   ·exact absurd (.inr h) hA
   ·exact h
  obtain ⟨ad,hAe,_,hcells⟩:=hr.row hm
  subst hAe
  obtain ⟨i,hi,hz,hsz,hby⟩:=info_parts ei.hi
  obtain ⟨v',w',hrun,h2,h3,_⟩:=run_append_own_wide (P:=P) w base t ty e i z size bytes ei.ht hi hz hsz hby ei.hz ei.hs v m0 xs hown ad m c news hr.len hcells h1 (by unfold maxLen;exact h63) hb hbase
  obtain ⟨A',c',rfl,_⟩:=zw h2
  refine ⟨A',c',w',hrun,h2,h3,?_⟩
  rcases hown.2 with ⟨rfl,rfl⟩|⟨g,cap,cur,rfl,hbg,hg,hnc,hcm,hcs,htake⟩
  ·have hx:xs=[]:=List.eq_nil_of_length_eq_zero (by simpa using hown.1)
   subst hx
   have hr2:=run_append_nil (P:=P) w t ty e i z ei.ht hi hz ad m c news (by rw [hsz];exact hr.len) hcells om om (by rw [hby];have hb':=hb;simp only [Nat.zero_add] at hb';exact Nat.le_trans (Nat.mul_le_mul_right _ om) hb')
   rw [hrun] at hr2
   injection hr2 with hr2 _
   injection hr2 with hr2 _ _
   exact .inr (by rw [hr2];rfl)
  ·by_cases hroom:m0+m≤cap
   ·have hfit:m0*i.size+news.length≤cur.size:=by rw [hsz,hr.len,hcs,←Nat.add_mul];exact Nat.mul_le_mul_right _ hroom
    have hr2:=run_append_room (P:=P) w t ty e i ei.ht hi g m0 cap cur hg ad m c news (by rw [hsz];exact hr.len) hcells h1 hroom hfit
    rw [hrun] at hr2
    injection hr2 with hr2 _
    injection hr2 with hr2 _ _
    exact .inl (by rw [hr2];rfl)
   ·have holds:∀j u,xs[j]?=some u→w.cell? ((⟨g,0,none⟩:Addr).add j)=some u:=hown.cells (g:=g) rfl
    have hr2:=run_append_grow (P:=P) w t ty e i z ei.ht hi hz ⟨g,0,none⟩ m0 cap xs (by rw [hsz];exact hown.1) holds ad m c news (by rw [hsz];exact hr.len) hcells om om (growslice_fits_wide om (by rw [hby];exact hb))
    rw [hrun] at hr2
    injection hr2 with hr2 _
    injection hr2 with hr2 _ _
    exact .inr (by rw [hr2];rfl)
theorem qme (Z:Fr a n D σ) (HM:Mem W w fs) {s x:Operand} {t e:TypeId} {z:Value} {size bytes i m0 m c B:Nat} {A:Option Addr} {xs news:List Value} (hop:o.op= .call {callee:= .builtin .append,args:= #[s,x],argTypes:= #[t,t]}) (ei:EI P t e z size bytes)
  (hs:look σ s=some v) (hx:look σ x=some (.slice A m c)) (hi:fs[i]?=some (.row v m0 xs e size)) (hr:Rd w B size A m news) (h1:∀u∈news,u.oneCell'=true) (hb:((m0+m)+(m0+m)/4+192)*bytes≤281474976710656) (h63:m0+m≤9223372036854775807)
  (hd:o.dst=some d) (hdn:d<n) (k:∀a' w' A' c',Fr a' n D ((d,.slice A' (m0+m) c')::σ)→Mem W w' (fs.set i (.row (.slice A' (m0+m) c') (m0+m) (xs++news) e size))→m0+m≤c'→K a' w'):o.wp P a w K Q:=by
 obtain ⟨A',c',w',hrun,ho,hg,hbl⟩:=qiy (P:=P) ei o.type (HM.own hi) hr h1 (c:=c) hb h63 HM.size
 unfold Oper.wp execOp
 simp only [hop,resolve,invoke,builtin,Sem.run_bind,Sem.run_pure,Result.andThen_ok,List.map_toArray,List.map_cons,List.map_nil,Z.eval hs,Z.eval hx,hrun]
 rw [Oper.upon_value,hd]
 refine k _ _ _ _ (Z.put hdn _) (HM.append hi ho hg hbl) ?_
 rcases ho.2 with ⟨h2,h3⟩|⟨g,cap,cur,h2,_,_,h3,_⟩
 ·omega
 ·injection h2 with _ _ h4;omega
def wT (σ:List (Nat×Value)):List (Nat×Operand)→Option (List (Nat×Value))
 |[]=>some []
 |(i,x)::r=>match look σ x,wT σ r with
  |some v,some vs=>some ((i,v)::vs)
  |_,_=>none
theorem RY (Z:Fr a n D σ):∀{ps:List (Nat×Operand)} {vs:List (Nat×Value)},wT σ ps=some vs→ps.map (fun p=>(p.1,a.eval p.2))=vs
 |[],vs,h=>by cases h;rfl
 | (i, x) :: r, vs, h => by
  unfold wT at h
  split at h
  ·rename_i v us hx hr
   injection h with h
   subst h
   rw [List.map_cons,Z.eval hx,RY Z hr]
  ·cases h
theorem RZ (Z:Fr a n D σ) {ps:Array (Nat×Operand)} {vs:List (Nat×Value)} (h:wT σ ps.toList=some vs):ps.map (fun p=>(p.1,a.eval p.2))=vs.toArray:=by
 rw [←RY Z h,←Array.toList_map,Array.toArray_toList]
def Ip (z:Array Value) (m:Nat):Array Value:=(Array.range m).map (z[· %z.size]!)
theorem R3 (Z:Fr a n D σ) (HM:Mem W w fs) {t len e:Nat} {ps:Array (Nat×Operand)} {vs:List (Nat×Value)} {z:Value} {size bytes:Nat} {cs:Array Value} (hop:o.op= .buildSlice t len ps) (ei:EI P t e z size bytes) (hl:decide (0<len∧len*size≤16777216)=true) (hv:wT σ ps.toList=some vs)
  (hf:Instr.fill (fun i=>some (i*size,size)) (Ip z.cells (len*size)) vs=some cs) (hd:o.dst=some d) (hdn:d<n)
  (k:∀a' w' g,Fr a' n D ((d,.slice (some ⟨g,0,none⟩) len len)::σ)→Mem W w' (.blk g cs e::fs)→K a' w'):o.wp P a w K Q:=by
 obtain ⟨i,hi,hz,hsz,_⟩:=info_parts ei.hi
 have hpos:=ei.hs
 simp only [decide_eq_true_eq] at hl
 have h0:¬len*size=0:=by
  have:=Nat.mul_pos hl.1 hpos
  omega
 have h2:¬len*size>2^24:=by omega
 have hrun:(execOp a.eval o).run P w= .ok (.value (.slice (some ⟨w.heap.size,0,none⟩) len len)) (w.alloc (.cells cs e)):=by
  unfold execOp
  have hpm:=RZ Z hv
  unfold Ip at hf
  simp only [hop]
  have e1:(Instr.buildSlice t len (ps.map fun p=>(p.1,a.eval p.2))).run P w= .ok (.slice (some ⟨w.heap.size,0,none⟩) len len) (w.alloc (.cells cs e)):=by
   rw [hpm]
   unfold Instr.buildSlice
   simp only [Sem.run_bind,run_underlying ei.ht,Result.andThen_ok,sizeOf,typeInfo,program,Sem.run,hi,Sem.run_pure,hsz,if_neg h2,if_neg h0,zeroValue,hz,hf,newRow,newObj]
   rfl
  simp only [Sem.run_bind,Sem.run_pure]
  show ((Instr.buildSlice t len (ps.map fun p=>(p.1,a.eval p.2))).run P w).andThen _=_
  rw [e1]
  rfl
 unfold Oper.wp
 rw [hrun,Oper.upon_value,hd]
 exact k _ _ _ (Z.put hdn _) (HM.alloc cs e)
theorem Mem.LU (h:Mem W w fs) {i g m c:Nat} {e:TypeId} {size:Nat} {xs:List Value} (hi:fs[i]?=some (.row (.slice (some ⟨g,0,none⟩) m c) m xs e size)) (off:Nat) {ys:List Value} (hy:∀j u,ys[j]?=some u→xs[off+j]?=some u):w.rangeAt g off ys:=fun j u hu=>by
 have ho:=h.own hi
 have:=ho.cells (g:=g) rfl (off+j) u (hy j u hu)
 rw [Addr.add_mid,Nat.zero_add] at this
 exact this
theorem Mem.q67 (h:Mem W w fs) {i g m c:Nat} {e:TypeId} {size:Nat} {xs:List Value} (hi:fs[i]?=some (.row (.slice (some ⟨g,0,none⟩) m c) m xs e size)):w.rangeAt g 0 xs:=h.LU hi 0 (fun j u hu=>by rw [Nat.zero_add];exact hu)
theorem Cc (Z:Fr a n D σ) (HM:Mem W w fs) {t e:Nat} {z:Value} {size bytes:Nat} (hop:o.op= .buildSlice t 0 #[]) (ei:EI P t e z size bytes) (hd:o.dst=some d) (hdn:d<n)
  (k:∀a' w' g,Fr a' n D ((d,.slice (some ⟨g,0,none⟩) 0 0)::σ)→Mem W w' (.row (.slice (some ⟨g,0,none⟩) 0 0) 0 [] e size::fs)→K a' w'):o.wp P a w K Q:=by
 obtain ⟨i,hi,hz,hsz,_⟩:=info_parts ei.hi
 have hrun:(execOp a.eval o).run P w= .ok (.value (.slice (some ⟨w.heap.size,0,none⟩) 0 0)) (w.alloc (.cells #[] e)):=by
  unfold execOp
  simp only [hop]
  have e1:(Instr.buildSlice t 0 #[]).run P w= .ok (.slice (some ⟨w.heap.size,0,none⟩) 0 0) (w.alloc (.cells #[] e)):=by
   unfold Instr.buildSlice
   simp only [Sem.run_bind,run_underlying ei.ht,Result.andThen_ok,sizeOf,typeInfo,program,Sem.run,hi,Sem.run_pure,newRow,newObj]
   simp [Instr.fill,show Array.range 0= #[] from rfl]
   rfl
  simp only [Sem.run_bind,Sem.run_pure,List.map_toArray,List.map_nil]
  show ((Instr.buildSlice t 0 #[]).run P w).andThen _=_
  rw [e1]
  rfl
 unfold Oper.wp
 rw [hrun,Oper.upon_value,hd]
 refine k _ _ w.heap.size (Z.put hdn _) ?_
 have:=(HM.alloc #[] e).dz (i:=0) (size:=size) (n:=0) rfl (by simp) om
 exact this
def Ce:Nat→List Value→List (Nat×Value)
 |_,[]=>[]
 |i,v::r=>(i,v)::Ce (i+1) r
theorem LV:∀(vs:List Value) (i t:Nat) (v:Value),(Ce i vs).lookup t=some v→i≤t∧vs[t-i]?=some v
 |[],_,_,_,h=>by cases h
 | u :: r, i, t, v, h => by
  rw [Ce,List.lookup_cons] at h
  split at h
  ·rename_i e
   rw [beq_iff_eq] at e
   subst e
   exact ⟨Nat.le_refl _,by simpa using h⟩
  ·obtain ⟨h1,h2⟩:=LV r (i+1) t v h
   refine ⟨by omega,?_⟩
   rw [show t-i=(t- (i+1))+1 by omega,List.getElem?_cons_succ]
   exact h2
theorem Cg {f N:Nat} {fn:Func} {c:Code} {vs:List Value} {R:Ending→World→Prop} (hf:P.funcs[f]?=some fn) (hb:fn.body=some c) (hn:fn.ntmps=N) (hl:decide (vs.length≤N)=true) {σ0:List (Nat×Value)} (h0:Ce 0 vs=σ0)
  (k:∀a,Fr a N [] σ0→c.wp P (bodyPost P fn R) a w):Calls P f vs.toArray w R:=by
 subst h0
 rw [decide_eq_true_eq] at hl
 refine calls_of_wp hf hb (k _ ⟨by simp [hn];omega,rfl,fun t v hv=>?_⟩)
 obtain ⟨_,h1⟩:=LV vs 0 t v hv
 rw [Nat.sub_zero] at h1
 have hlt:=(List.getElem?_eq_some_iff.1 h1).1
 simp only [Array.getD_eq_getD_getElem?,Array.getElem?_append,List.size_toArray,if_pos hlt]
 simp [h1]
def uS (tmps:Array Value):ResultVar→Sem Value
 | .tmp t=>pure (tmps.getD t undef)
 | .cell b t=>do loadVar t (←asAddr (tmps.getD b undef))
def lV (P:Program) (a:Act) (w:World) (r:ResultVar) (v:Value):Prop:=(uS a.tmps r).run P w= .ok v w
theorem Iq (fn:Func) (tmps:Array Value):results fn tmps=(do
 let vs←fn.results.mapM (uS tmps)
 pure (if h:vs.size=1 then vs[0] else .tuple vs)):=by
 unfold results
 have:uS tmps=(fun| .tmp t=>pure (tmps.getD t undef)| .cell a t=>do loadVar t (←asAddr (tmps.getD a undef))):=by
  funext r;cases r<;>rfl
 rw [this]
 rfl
theorem lV.tmp {t:Nat} (Z:Fr a n D σ) (h:σ.lookup t=some v):lV P a w (.tmp t) v:=by
 unfold lV uS
 simp only [Z.slot t v h]
 rfl
theorem lV.cellS {b i g m:Nat} {t tb:TypeId} {cs:Array Value} (Z:Fr a n D σ) (HM:Mem W w fs) (h:σ.lookup b=some (.pointer (some ⟨g,0,none⟩))) (hi:fs[i]?=some (.blk g cs tb)) (si:SI P t m) (hm:cs.size=m):lV P a w (.cell b t) (.agg cs):=by
 obtain ⟨ds,hu,hd⟩:=si.desc
 have hl:=run_loadVar_mid (P:=P) w g 0 t cs.toList ds (qb (HM.blk hi)) hu hd (by rw [si.size,←hm];simp)
 unfold lV uS
 simp only [Z.slot b _ h]
 simp [asAddr,hl]
theorem lV.cell1 {b i g:Nat} {t tb:TypeId} {cs:Array Value} (Z:Fr a n D σ) (HM:Mem W w fs) (h:σ.lookup b=some (.pointer (some ⟨g,0,none⟩))) (hi:fs[i]?=some (.blk g cs tb)) (ht:fT P t=true) (hc:cs[0]?=some v):lV P a w (.cell b t) v:=by
 unfold lV uS
 simp only [Z.slot b _ h]
 simp [asAddr,loadVar,Io ht,load,Sem.run,HM.cell hi hc]
section
variable {fn:Func} {R:Ending→World→Prop}
theorem iy {r1:ResultVar} {v1:Value} (hr:fn.results= #[r1]) (Z:Fr a n [] σ) (h1:lV P a w r1 v1) (hR:R (.returned v1) w):bodyPost P fn R .ret a w:=
 bodyPost_ret (v:=v1) (by
  unfold lV at h1
  rw [Iq,hr]
  generalize uS a.tmps=f at*
  simp [h1]) Z.defers hR
theorem dP {r1 r2:ResultVar} {v1 v2:Value} (hr:fn.results= #[r1,r2]) (Z:Fr a n [] σ) (h1:lV P a w r1 v1) (h2:lV P a w r2 v2) (hR:R (.returned (.tuple #[v1,v2])) w):bodyPost P fn R .ret a w:=
 bodyPost_ret (v:= .tuple #[v1,v2]) (by
  unfold lV at h1 h2
  rw [Iq,hr]
  generalize uS a.tmps=f at*
  simp [h1,h2]) Z.defers hR
theorem bE {r1 r2 r3:ResultVar} {v1 v2 v3:Value} (hr:fn.results= #[r1,r2,r3]) (Z:Fr a n [] σ) (h1:lV P a w r1 v1) (h2:lV P a w r2 v2) (h3:lV P a w r3 v3) (hR:R (.returned (.tuple #[v1,v2,v3])) w):bodyPost P fn R .ret a w:=
 bodyPost_ret (v:= .tuple #[v1,v2,v3]) (by
  unfold lV at h1 h2 h3
  rw [Iq,hr]
  generalize uS a.tmps=f at*
  simp [h1,h2,h3]) Z.defers hR
end
theorem qv6 {c:Operand} {x y:Code} (Z:Fr a n D σ) (hc:look σ c=some (.bool true)) (h:x.wp P Q a w):(Code.cond c x y).wp P Q a w:=wp_cond_true (Z.eval hc) h
theorem qtn {c:Operand} {x y:Code} (Z:Fr a n D σ) (hc:look σ c=some (.bool false)) (h:y.wp P Q a w):(Code.cond c x y).wp P Q a w:=wp_cond_false (Z.eval hc) h
theorem Fr.as {u:Value} {t:Nat} (h:Fr a n D σ) (hl:σ.lookup t=some v) (e:v=u):Fr a n D ((t,u)::σ):=by
 subst e
 refine ⟨h.size,h.defers,fun s x hx=>?_⟩
 rw [List.lookup_cons] at hx
 split at hx
 ·rename_i hs
  rw [beq_iff_eq] at hs
  subst hs
  injection hx with hx
  subst hx
  exact h.slot s v hl
 ·exact h.slot s x hx
theorem qw {x y:Code} (R:Act→World→Prop) (h:x.wp P (Exit.then R Q) a w) (k:∀a w,R a w→y.wp P Q a w):(Code.seq x y).wp P Q a w:=
 wp_seq (Code.wp_mono (fun e a w hq=>by cases e<;>first|exact k _ _ hq|exact hq) h)
theorem qc {c:Code} (J:Nat→Act→World→Prop) {m:Nat} (h0:J m a w) (round:∀k a w,J k a w→c.wp P (Exit.then (fun a' w'=>∃k',k'<k∧J k' a' w') Q) a w):(Code.loop c).wp P Q a w:=by
 intro b ks cs
 have key:∀m a w,J m a w→∃e a' w',Q e a' w'∧Arrives P (lone (b.at a (.code c:: .inLoop c::ks)) cs w) b ks cs e a' w':=by
  intro m
  induction m using Nat.strongRecOn with
  | _ m ih =>
   intro a w hJ
   obtain ⟨e,a1,w1,hq,harr⟩:=round m a w hJ b (.inLoop c::ks) cs
   cases e with
   |normal=>
    obtain ⟨m',hlt,hJ'⟩:=hq
    obtain ⟨e2,a2,w2,hq2,D7⟩:=ih m' hlt a1 w1 hJ'
    exact ⟨e2,a2,w2,hq2,.of_steps (Steps.trans harr (.one step_inLoop)) D7⟩
   |exit id=>exact ⟨_,a1,w1,hq,.pass (x:= .inLoop c) rfl (fun _ _=> .inl (by simp)) harr⟩
   |goto l=>exact ⟨_,a1,w1,hq,.pass (x:= .inLoop c) rfl (fun _ _=> .inl (by simp)) harr⟩
   |ret=>exact ⟨_,a1,w1,hq,.pass (x:= .inLoop c) rfl (fun _ _=> .inl (by simp)) harr⟩
   |panic ch=>exact ⟨_,a1,w1,hq,.pass (x:= .inLoop c) rfl (fun _ _=> .inl (by simp)) harr⟩
   |outgrown=>exact ⟨_,a1,w1,hq,.pass (x:= .inLoop c) rfl (fun _ _=> .inl (by simp)) harr⟩
 obtain ⟨e,a',w',hq,harr⟩:=key m a w h0
 exact ⟨e,a',w',hq,.of_steps (.one step_loop) harr⟩
end
end Go.Proofs.YtekiimhdnigmcaaGreatDoor
