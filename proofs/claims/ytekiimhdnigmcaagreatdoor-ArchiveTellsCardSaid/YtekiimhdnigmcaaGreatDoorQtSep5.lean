/- A part of the proof. -/
import Derived.Test.YtekiimhdnigmcaaGreatDoorQtSep4
import Derived.Deep.DeepAppendWide
namespace Go.Proofs.YtekiimhdnigmcaaGreatDoor
open Go.RowKit
section
variable {P:Program} {Q:Exit→Act→World→Prop} {a:Act} {W w:World} {n d:Nat} {D:List Deferred} {σ:List (Nat×Value)} {o:Oper} {v:Value} {K:Act→World→Prop} {fs:List Fact}
theorem zdc {base:Nat} {e:TypeId} {size m:Nat} {xs:List Value} (h:w.ownsRow base e size v m xs) (hm:0<m):∃g c,v= .slice (some ⟨g,0,none⟩) m c∧m≤c:=by
 rcases h.2 with ⟨_,h2⟩|⟨g,cap,cur,h1,_,_,h2,_⟩
 ·omega
 ·exact ⟨g,cap,h1,h2⟩
theorem EY {base:Nat} {e:TypeId} {size m:Nat} {xs:List Value} (h:w.ownsRow base e size v m xs):∃A c,v= .slice A m c∧m≤c:=by
 rcases h.2 with ⟨h1,h2⟩|⟨g,cap,cur,h1,_,_,h2,_⟩
 ·subst h2;exact ⟨_,_,h1,Nat.le_refl _⟩
 ·exact ⟨_,cap,h1,h2⟩
theorem qz (Z:Fr a n D σ) (E:Mem W w fs) {s x:Operand} {t e:TypeId} {z:Value} {size bytes i m0 m c B:Nat} {A:Option Addr} {xs news:List Value} (hop:o.op= .call {callee:= .builtin .append,args:= #[s,x],argTypes:= #[t,t]}) (ei:EI P t e z size bytes)
  (hs:look σ s=some v) (hx:look σ x=some (.slice A m c)) (hi:fs[i]?=some (.row v m0 xs e size)) (hr:Rd w B size A m news) (h1:∀u∈news,u.oneCell'=true) (hb:(m0+m)*bytes≤140737488355328) (h63:m0+m≤9223372036854775807)
  (hd:o.dst=some d) (hdn:d<n) (k:∀a' w' A' c',Fr a' n D ((d,.slice A' (m0+m) c')::σ)→Mem W w' (fs.set i (.row (.slice A' (m0+m) c') (m0+m) (xs++news) e size))→m0+m≤c'→K a' w'):o.wp P a w K Q:=
 qof hop ei (E.own hi) (Z.eval hs) hr (Z.eval hx) h1 hb h63 E.size fun A' c' w' ho hg hbl=>by
  rw [hd]
  refine k _ _ _ _ (Z.put hdn _) (E.append hi ho hg hbl) ?_
  rcases ho.2 with ⟨h2,h3⟩|⟨g,cap,cur,h2,_,_,h3,_⟩
  ·omega
  ·injection h2 with _ _ h4;omega
def Dk (σ:List (Nat×Value)):List (Nat×Operand)→Option (List (Nat×Value))
 |[]=>some []
 |(i,x)::r=>match look σ x,Dk σ r with
  |some v,some vs=>some ((i,v)::vs)
  |_,_=>none
theorem qh6 (Z:Fr a n D σ):∀{ps:List (Nat×Operand)} {vs:List (Nat×Value)},Dk σ ps=some vs→ps.map (fun p=>(p.1,a.eval p.2))=vs
 |[],vs,h=>by cases h;rfl
 | (i, x) :: r, vs, h => by
  unfold Dk at h
  split at h
  ·rename_i v us hx hr
   injection h with h
   subst h
   rw [List.map_cons,Z.eval hx,qh6 Z hr]
  ·cases h
theorem VF (Z:Fr a n D σ) {ps:Array (Nat×Operand)} {vs:List (Nat×Value)} (h:Dk σ ps.toList=some vs):ps.map (fun p=>(p.1,a.eval p.2))=vs.toArray:=by
 rw [←qh6 Z h,←Array.toList_map,Array.toArray_toList]
def Sy (z:Array Value) (m:Nat):Array Value:=(Array.range m).map (z[· %z.size]!)
theorem qy1 (Z:Fr a n D σ) (E:Mem W w fs) {t len e:Nat} {ps:Array (Nat×Operand)} {vs:List (Nat×Value)} {z:Value} {size bytes:Nat} {cs:Array Value} (hop:o.op= .buildSlice t len ps) (ei:EI P t e z size bytes) (hl:decide (0<len∧len*size≤16777216)=true) (hv:Dk σ ps.toList=some vs)
  (hf:Instr.fill (fun i=>some (i*size,size)) (Sy z.cells (len*size)) vs=some cs) (hd:o.dst=some d) (hdn:d<n)
  (k:∀a' w' g,Fr a' n D ((d,.slice (some ⟨g,0,none⟩) len len)::σ)→Mem W w' (.blk g cs e::fs)→K a' w'):o.wp P a w K Q:=by
 obtain ⟨i,hi,hz,hsz,_⟩:=info_parts ei.hi
 have hpos:=ei.hs
 simp only [decide_eq_true_eq] at hl
 have h0:¬len*size=0:=by
  have:=Nat.mul_pos hl.1 hpos
  omega
 have h2:¬len*size>2^24:=by omega
 have hrun:(execOp a.eval o).run P w= .ok (.value (.slice (some ⟨w.heap.size,0,none⟩) len len)) (w.alloc (.cells cs e)):=by
  unfold execOp
  have hpm:=VF Z hv
  unfold Sy at hf
  simp only [hop]
  have e1:(Instr.buildSlice t len (ps.map fun p=>(p.1,a.eval p.2))).run P w= .ok (.slice (some ⟨w.heap.size,0,none⟩) len len) (w.alloc (.cells cs e)):=by
   rw [hpm]
   unfold Instr.buildSlice
   simp only [Sem.run_bind,run_underlying ei.ht,Result.andThen_ok,sizeOf,typeInfo,program,Sem.run,hi,Sem.run_pure,hsz,if_neg h2,if_neg h0,zeroValue,hz,hf,newRow,newObj]
   rfl
  simp only [Sem.run_bind,Sem.run_pure]
  show ((Instr.buildSlice t len (ps.map fun p=>(p.1,a.eval p.2))).run P w).andThen _=_
  rw [e1]
  rfl
 unfold Oper.wp
 rw [hrun,Oper.upon_value,hd]
 exact k _ _ _ (Z.put hdn _) (E.alloc cs e)
theorem Mem.VG (h:Mem W w fs) {i g m c:Nat} {e:TypeId} {size:Nat} {xs:List Value} (hi:fs[i]?=some (.row (.slice (some ⟨g,0,none⟩) m c) m xs e size)) (off:Nat) {ys:List Value} (hy:∀j u,ys[j]?=some u→xs[off+j]?=some u):w.rangeAt g off ys:=fun j u hu=>by
 have ho:=h.own hi
 have:=ho.cells (g:=g) rfl (off+j) u (hy j u hu)
 rw [Addr.add_mid,Nat.zero_add] at this
 exact this
theorem Mem.zfc (h:Mem W w fs) {i g m c:Nat} {e:TypeId} {size:Nat} {xs:List Value} (hi:fs[i]?=some (.row (.slice (some ⟨g,0,none⟩) m c) m xs e size)):w.rangeAt g 0 xs:=h.VG hi 0 (fun j u hu=>by rw [Nat.zero_add];exact hu)
theorem q43 (Z:Fr a n D σ) (E:Mem W w fs) {t e:Nat} {z:Value} {size bytes:Nat} (hop:o.op= .buildSlice t 0 #[]) (ei:EI P t e z size bytes) (hd:o.dst=some d) (hdn:d<n)
  (k:∀a' w' g,Fr a' n D ((d,.slice (some ⟨g,0,none⟩) 0 0)::σ)→Mem W w' (.row (.slice (some ⟨g,0,none⟩) 0 0) 0 [] e size::fs)→K a' w'):o.wp P a w K Q:=by
 obtain ⟨i,hi,hz,hsz,_⟩:=info_parts ei.hi
 have hrun:(execOp a.eval o).run P w= .ok (.value (.slice (some ⟨w.heap.size,0,none⟩) 0 0)) (w.alloc (.cells #[] e)):=by
  unfold execOp
  simp only [hop]
  have e1:(Instr.buildSlice t 0 #[]).run P w= .ok (.slice (some ⟨w.heap.size,0,none⟩) 0 0) (w.alloc (.cells #[] e)):=by
   unfold Instr.buildSlice
   simp only [Sem.run_bind,run_underlying ei.ht,Result.andThen_ok,sizeOf,typeInfo,program,Sem.run,hi,Sem.run_pure,newRow,newObj]
   simp [Instr.fill,show Array.range 0= #[] from rfl]
   rfl
  simp only [Sem.run_bind,Sem.run_pure,List.map_toArray,List.map_nil]
  show ((Instr.buildSlice t 0 #[]).run P w).andThen _=_
  rw [e1]
  rfl
 unfold Oper.wp
 rw [hrun,Oper.upon_value,hd]
 refine k _ _ w.heap.size (Z.put hdn _) ?_
 have:=(E.alloc #[] e).dJ (i:=0) (size:=size) (n:=0) rfl (by simp) om
 exact this
def EZ:Nat→List Value→List (Nat×Value)
 |_,[]=>[]
 |i,v::r=>(i,v)::EZ (i+1) r
theorem ML:∀(vs:List Value) (i t:Nat) (v:Value),(EZ i vs).lookup t=some v→i≤t∧vs[t-i]?=some v
 |[],_,_,_,h=>by cases h
 | u :: r, i, t, v, h => by
  rw [EZ,List.lookup_cons] at h
  split at h
  ·rename_i e
   rw [beq_iff_eq] at e
   subst e
   exact ⟨Nat.le_refl _,by simpa using h⟩
  ·obtain ⟨h1,h2⟩:=ML r (i+1) t v h
   refine ⟨by omega,?_⟩
   rw [show t-i=(t- (i+1))+1 by omega,List.getElem?_cons_succ]
   exact h2
theorem qbv {f N:Nat} {fn:Func} {c:Code} {vs:List Value} {R:Ending→World→Prop} (hf:P.funcs[f]?=some fn) (hb:fn.body=some c) (hn:fn.ntmps=N) (hl:decide (vs.length≤N)=true) {σ0:List (Nat×Value)} (h0:EZ 0 vs=σ0)
  (k:∀a,Fr a N [] σ0→c.wp P (bodyPost P fn R) a w):Calls P f vs.toArray w R:=by
 subst h0
 rw [decide_eq_true_eq] at hl
 refine calls_of_wp hf hb (k _ ⟨by simp [hn];omega,rfl,fun t v hv=>?_⟩)
 obtain ⟨_,h1⟩:=ML vs 0 t v hv
 rw [Nat.sub_zero] at h1
 have hlt:=(List.getElem?_eq_some_iff.1 h1).1
 simp only [Array.getD_eq_getD_getElem?,Array.getElem?_append,List.size_toArray,if_pos hlt]
 simp [h1]
def zD (tmps:Array Value):ResultVar→Sem Value
 | .tmp t=>pure (tmps.getD t undef)
 | .cell b t=>do loadVar t (←asAddr (tmps.getD b undef))
def nY (P:Program) (a:Act) (w:World) (r:ResultVar) (v:Value):Prop:=(zD a.tmps r).run P w= .ok v w
theorem G6 (fn:Func) (tmps:Array Value):results fn tmps=(do
 let vs←fn.results.mapM (zD tmps)
 pure (if h:vs.size=1 then vs[0] else .tuple vs)):=by
 unfold results
 have:zD tmps=(fun| .tmp t=>pure (tmps.getD t undef)| .cell a t=>do loadVar t (←asAddr (tmps.getD a undef))):=by
  funext r;cases r<;>rfl
 rw [this]
 rfl
theorem nY.tmp {t:Nat} (Z:Fr a n D σ) (h:σ.lookup t=some v):nY P a w (.tmp t) v:=by
 unfold nY zD
 simp only [Z.slot t v h]
 rfl
theorem nY.cellS {b i g m:Nat} {t tb:TypeId} {cs:Array Value} (Z:Fr a n D σ) (E:Mem W w fs) (h:σ.lookup b=some (.pointer (some ⟨g,0,none⟩))) (hi:fs[i]?=some (.blk g cs tb)) (si:SI P t m) (hm:cs.size=m):nY P a w (.cell b t) (.agg cs):=by
 obtain ⟨ds,hu,hd⟩:=si.desc
 have hl:=run_loadVar_mid (P:=P) w g 0 t cs.toList ds (qb (E.blk hi)) hu hd (by rw [si.size,←hm];simp)
 unfold nY zD
 simp only [Z.slot b _ h]
 simp [asAddr,hl]
theorem nY.cell1 {b i g:Nat} {t tb:TypeId} {cs:Array Value} (Z:Fr a n D σ) (E:Mem W w fs) (h:σ.lookup b=some (.pointer (some ⟨g,0,none⟩))) (hi:fs[i]?=some (.blk g cs tb)) (ht:jl P t=true) (hc:cs[0]?=some v):nY P a w (.cell b t) v:=by
 unfold nY zD
 simp only [Z.slot b _ h]
 simp [asAddr,loadVar,Sv ht,load,Sem.run,E.cell hi hc]
section
variable {fn:Func} {R:Ending→World→Prop}
theorem nN {r1:ResultVar} {v1:Value} (hr:fn.results= #[r1]) (Z:Fr a n [] σ) (h1:nY P a w r1 v1) (hR:R (.returned v1) w):bodyPost P fn R .ret a w:=
 bodyPost_ret (v:=v1) (by
  unfold nY at h1
  rw [G6,hr]
  generalize zD a.tmps=f at*
  simp [h1]) Z.defers hR
theorem jc {r1 r2:ResultVar} {v1 v2:Value} (hr:fn.results= #[r1,r2]) (Z:Fr a n [] σ) (h1:nY P a w r1 v1) (h2:nY P a w r2 v2) (hR:R (.returned (.tuple #[v1,v2])) w):bodyPost P fn R .ret a w:=
 bodyPost_ret (v:= .tuple #[v1,v2]) (by
  unfold nY at h1 h2
  rw [G6,hr]
  generalize zD a.tmps=f at*
  simp [h1,h2]) Z.defers hR
theorem pJ {r1 r2 r3:ResultVar} {v1 v2 v3:Value} (hr:fn.results= #[r1,r2,r3]) (Z:Fr a n [] σ) (h1:nY P a w r1 v1) (h2:nY P a w r2 v2) (h3:nY P a w r3 v3) (hR:R (.returned (.tuple #[v1,v2,v3])) w):bodyPost P fn R .ret a w:=
 bodyPost_ret (v:= .tuple #[v1,v2,v3]) (by
  unfold nY at h1 h2 h3
  rw [G6,hr]
  generalize zD a.tmps=f at*
  simp [h1,h2,h3]) Z.defers hR
end
theorem qy2 {c:Operand} {x y:Code} (Z:Fr a n D σ) (hc:look σ c=some (.bool true)) (h:x.wp P Q a w):(Code.cond c x y).wp P Q a w:=wp_cond_true (Z.eval hc) h
theorem VJ {c:Operand} {x y:Code} (Z:Fr a n D σ) (hc:look σ c=some (.bool false)) (h:y.wp P Q a w):(Code.cond c x y).wp P Q a w:=wp_cond_false (Z.eval hc) h
theorem Fr.as {u:Value} {t:Nat} (h:Fr a n D σ) (hl:σ.lookup t=some v) (e:v=u):Fr a n D ((t,u)::σ):=by
 subst e
 refine ⟨h.size,h.defers,fun s x hx=>?_⟩
 rw [List.lookup_cons] at hx
 split at hx
 ·rename_i hs
  rw [beq_iff_eq] at hs
  subst hs
  injection hx with hx
  subst hx
  exact h.slot s v hl
 ·exact h.slot s x hx
theorem zn {x y:Code} (R:Act→World→Prop) (h:x.wp P (Exit.then R Q) a w) (k:∀a w,R a w→y.wp P Q a w):(Code.seq x y).wp P Q a w:=
 wp_seq (Code.wp_mono (fun e a w hq=>by cases e<;>first|exact k _ _ hq|exact hq) h)
theorem qc {c:Code} (J:Nat→Act→World→Prop) {m:Nat} (h0:J m a w) (round:∀k a w,J k a w→c.wp P (Exit.then (fun a' w'=>∃k',k'<k∧J k' a' w') Q) a w):(Code.loop c).wp P Q a w:=by
 intro b ks cs
 have key:∀m a w,J m a w→∃e a' w',Q e a' w'∧Arrives P (lone (b.at a (.code c:: .inLoop c::ks)) cs w) b ks cs e a' w':=by
  intro m
  induction m using Nat.strongRecOn with
  | _ m ih =>
   intro a w hJ
   obtain ⟨e,a1,w1,hq,harr⟩:=round m a w hJ b (.inLoop c::ks) cs
   cases e with
   |normal=>
    obtain ⟨m',hlt,hJ'⟩:=hq
    obtain ⟨e2,a2,w2,hq2,MN⟩:=ih m' hlt a1 w1 hJ'
    exact ⟨e2,a2,w2,hq2,.of_steps (Steps.trans harr (.one step_inLoop)) MN⟩
   |exit id=>exact ⟨_,a1,w1,hq,.pass (x:= .inLoop c) rfl (fun _ _=> .inl (by simp)) harr⟩
   |goto l=>exact ⟨_,a1,w1,hq,.pass (x:= .inLoop c) rfl (fun _ _=> .inl (by simp)) harr⟩
   |ret=>exact ⟨_,a1,w1,hq,.pass (x:= .inLoop c) rfl (fun _ _=> .inl (by simp)) harr⟩
   |panic ch=>exact ⟨_,a1,w1,hq,.pass (x:= .inLoop c) rfl (fun _ _=> .inl (by simp)) harr⟩
   |outgrown=>exact ⟨_,a1,w1,hq,.pass (x:= .inLoop c) rfl (fun _ _=> .inl (by simp)) harr⟩
 obtain ⟨e,a',w',hq,harr⟩:=key m a w h0
 exact ⟨e,a',w',hq,.of_steps (.one step_loop) harr⟩
end
end Go.Proofs.YtekiimhdnigmcaaGreatDoor
