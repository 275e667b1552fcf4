/- A part of the proof. -/
import Derived.Test.YtcajpeiobkcliaaGreatDoorQiSep18
import Derived.Test.YtcajpeiobkcliaaGreatDoorQiSep7
import Derived.Test.YtcajpeiobkcliaaGreatDoorQiSep10
set_option linter.all false
namespace Go.Proofs.YtcajpeiobkcliaaGreatDoor
open Go.RowKit
section
variable {P:Program} {ops:Array Oper} {Q:Exit→Act→World→Prop} {a:Act} {W w:World} {n i j d fuel:Nat} {D:List Deferred} {σ σ':List (Nat×Value)} {o:Oper} {v:Value} {md:Region.Mode} {S:World→Prop} {K:Act→World→Prop} {listed:Array Bool} {fs fs':List Fact} {ex:List Nat}
theorem Yl.o1 {α:Type} {F:α→Value} {l:List α} {g of m:Nat} {t:TypeId} {x:Operand} (hr:Rd W W.heap.size 1 (some ⟨g,of,none⟩) m (l.map F)) (kk:Nat) (dd:α) (hk:kk<l.length) (hop:o.op= .load t x) (hx:look σ x=some (.pointer (some ⟨g,of+kk*1,none⟩))) (ht:isOne P t=true:=by kernel_rfl) (hv:F (l.getD kk dd)=v:=by exact rfl):Yl P (fun wS=>Mem W wS fs) σ o v:=by
 subst hv
 exact Yl.qe hop hx ht fun _ h=>(h.old hr).qzm (k:=kk) (qn9 (getD_at dd hk))
theorem Yl.r1 {α:Type} {F:α→Value} {l:List α} {g m c:Nat} {t e:TypeId} {x:Operand} (j kk:Nat) (dd:α) (hk:kk<l.length) (hop:o.op= .load t x) (hx:look σ x=some (.pointer (some ⟨g,kk*1,none⟩))) (hi:fs[j]?=some (.row (.slice (some ⟨g,0,none⟩) m c) m (l.map F) e 1)) (ht:isOne P t=true:=by kernel_rfl) (hv:F (l.getD kk dd)=v:=by exact rfl):Yl P (fun wS=>Mem W wS fs) σ o v:=by
 subst hv
 exact Yl.qe hop hx ht fun _ h=>h.qzn hi (qn9 (getD_at dd hk))
def bt (n:Nat) (l:List Nat):Array Bool:=((List.range n).map fun i=> !l.contains i).toArray
def bf (n:Nat) (l:List Nat):Array Bool:=((List.range n).map fun i=>l.contains i).toArray
theorem s_az (Z:Fr a n D σ) (hS:S w) (i:Nat) (ho:ops[i]?=some o) (hy:Yl P S σ o v) (k:∀a',Fr a' n D ((d,v)::σ)→qh P md ops Q S ex fuel (listed.setIfInBounds i true) a' w) (hw:wantB ops σ o=some true:=by exact rfl) (hd:o.dst=some d:=by exact rfl)
  (hdn:d<n:=by decide) (hok:qed md ops ex listed i=true:=by kernel_rfl) (hQ:∀c (a:Act) w,Q (.panic c) (a.put o.dst v) w→Q (.panic c) a w:=by intro _ _ _ h;exact h):qh P md ops Q S ex (fuel+1) listed a w:=qh9 Z hS ho hw hd hdn hok hQ hy k
theorem s_ac {t:TypeId} {x:Operand} {g off:Nat} {cs:Array Value} {tb:TypeId} (Z:Fr a n D σ) (hS:Mem W w fs) (i j:Nat) (k:∀a',Fr a' n D ((d,v)::σ)→qh P md ops Q (fun wS=>Mem W wS fs) ex fuel (listed.setIfInBounds i true) a' w) (ho:ops[i]?=some o:=by exact rfl) (hop:o.op= .load t x:=by exact rfl) (hx:look σ x=some (.pointer (some ⟨g,off,none⟩)):=by exact rfl) (hi:fs[j]?=some (.blk g cs tb):=by exact rfl) (hv:cs[off]?=some v:=by exact rfl) (hw:wantB ops σ o=some true:=by exact rfl) (hd:o.dst=some d:=by exact rfl)
  (ht:isOne P t=true:=by kernel_rfl) (hdn:d<n:=by decide) (hok:qed md ops ex listed i=true:=by kernel_rfl) (hQ:∀c (a:Act) w,Q (.panic c) (a.put o.dst v) w→Q (.panic c) a w:=by intro _ _ _ h;exact h):qh P md ops Q (fun wS=>Mem W wS fs) ex (fuel+1) listed a w:=qh9 Z hS ho hw hd hdn hok hQ (Yl.qe hop hx ht fun _ h=>h.cell hi hv) k
theorem s_al {t:TypeId} {x:Operand} {A:Option Addr} {m c:Nat} (Z:Fr a n D σ) (hS:S w) (i:Nat) (k:∀a',Fr a' n D ((d,.int .i64 (m:Int))::σ)→qh P md ops Q S ex fuel (listed.setIfInBounds i true) a' w) (ho:ops[i]?=some o:=by exact rfl) (hop:o.op= .call {callee:= .builtin .len,args:= #[x],argTypes:= #[t]}:=by exact rfl) (hx:look σ x=some (.slice A m c):=by exact rfl) (hw:wantB ops σ o=some true:=by exact rfl) (hd:o.dst=some d:=by exact rfl)
  (ht:isSl P t=true:=by kernel_rfl) (hdn:d<n:=by decide) (hok:qed md ops ex listed i=true:=by kernel_rfl) (hQ:∀c (a:Act) w,Q (.panic c) (a.put o.dst (.int .i64 (m:Int))) w→Q (.panic c) a w:=by intro _ _ _ h;exact h):qh P md ops Q S ex (fuel+1) listed a w:=qh9 Z hS ho hw hd hdn hok hQ (Yl.len hop hx ht) k
theorem s_an {x:Operand} {p:Addr} (Z:Fr a n D σ) (hS:pastB ex listed=false→S w) (i:Nat) (k:∀a',Fr a' n D ((d,.pointer (some p))::σ)→qh P md ops Q S ex fuel (listed.setIfInBounds i true) a' w) (ho:ops[i]?=some o:=by exact rfl) (hop:o.op= .nilCheck x:=by exact rfl) (hx:look σ x=some (.pointer (some p)):=by exact rfl) (hw:wantB ops σ o=some true:=by exact rfl) (hd:o.dst=some d:=by exact rfl)
  (hdn:d<n:=by decide) (hok:qau md ops ex listed i=true:=by kernel_rfl) (hQ:∀c (a:Act) w,Q (.panic c) (a.put o.dst (.pointer (some p))) w→Q (.panic c) a w:=by intro _ _ _ h;exact h):qh P md ops Q S ex (fuel+1) listed a w:=qcs Z hS ho hw hd hdn hok hQ (fun _=>Yl.nilCheck hop hx) k
theorem s_am {x:Operand} {p:Addr} (Z:Fr a n D σ) (hS:S w) (i:Nat) (k:∀a',Fr a' n D ((d,.pointer (some p))::σ)→qh P md ops Q S ex fuel (listed.setIfInBounds i true) a' w) (ho:ops[i]?=some o:=by exact rfl) (hop:o.op= .nilCheck x:=by exact rfl) (hx:look σ x=some (.pointer (some p)):=by exact rfl) (hw:wantB ops σ o=some true:=by exact rfl) (hd:o.dst=some d:=by exact rfl)
  (hdn:d<n:=by decide) (hok:qed md ops ex listed i=true:=by kernel_rfl) (hQ:∀c (a:Act) w,Q (.panic c) (a.put o.dst (.pointer (some p))) w→Q (.panic c) a w:=by intro _ _ _ h;exact h):qh P md ops Q S ex (fuel+1) listed a w:=qh9 Z hS ho hw hd hdn hok hQ (Yl.nilCheck hop hx) k
theorem s_on (Z:Fr a n D σ) (i:Nat) (ho:ops[i]?=some o) (h:o.wp P a w (fun a' w'=>(pastB ex (listed.setIfInBounds i true)=false→S w')∧qh P md ops Q S ex fuel (listed.setIfInBounds i true) a' w') Q) (hr:Region.ready md ops listed=[i]:=by kernel_rfl) (hw:wantB ops σ o=some true:=by exact rfl):qh P md ops Q S ex (fuel+1) listed a w:=qo [i] hr rfl (all_cons (qc Z ho hw h) all_nil)
theorem s_ek {f:FuncId} {xs:Array Operand} {ts:Array TypeId} {V:Option Addr→Nat→Value} {m sz:Nat} {e:TypeId} {ys:List Value} (Z:Fr a n D σ) (I:Mem W w fs) (vs:List Value) (hC:Calls P f vs.toArray w (fun r w'=>(∃A c,r= .returned (V A c)∧w'.ownsRow w.heap.size e sz (.slice A m c) m ys∧m≤c)∧Below w.heap.size w w'))
  (k:∀A c w',m≤c→Mem W w' (.row (.slice A m c) m ys e sz::fs)→∀a',Fr a' n D ((d,V A c)::σ)→K a' w') (hop:o.op= .call {callee:= .value (.func f),args:=xs,argTypes:=ts}:=by exact rfl) (hd:o.dst=some d:=by exact rfl) (hv:looks σ xs.toList=some vs:=by kernel_rfl) (hf:callable P f=true:=by kernel_rfl) (hdn:d<n:=by decide):o.wp P a w K Q:=
 e_cl Z vs hop hd hC (fun e w' ⟨⟨A,c,h1,h2,h3⟩,h4⟩=>⟨_,h1,fun a' Z=>k A c w' h3 (I.callRow h4 h2) a' Z⟩) hv hf hdn
theorem s_ce {f N:Nat} {fn:Func} {c:Code} {R:Ending→World→Prop} (hf:P.funcs[f]?=some fn) (vs:List Value) (σ0:List (Nat×Value)) (k:∀a,Fr a N [] σ0→c.wp P (bodyPost P fn R) a w) (hb:fn.body=some c:=by exact rfl) (hn:fn.ntmps=N:=by exact rfl) (hl:decide (vs.length≤N)=true:=by kernel_rfl) (h0:qdj 0 vs=σ0:=by exact rfl):Calls P f vs.toArray w R:=zj hf hb hn hl h0 k
theorem Mem.pk (h:Mem W w fs) (is:List Nat) (hn:is.Nodup:=by decide) (he:Go.Proofs.YtcajpeiobkcliaaGreatDoor.picks fs is=fs':=by exact rfl):Mem W w fs':=h.picks is hn he
theorem Mem.pt (h:Mem W w fs) (n:Nat) (is:List Nat) (hn:is.Nodup:=by decide) (hlt:(is.all (· <n))=true:=by decide) (he:Go.Proofs.YtcajpeiobkcliaaGreatDoor.picks fs is++fs.drop n=fs':=by exact rfl):Mem W w fs':=h.qv2 n is hn hlt he
theorem s_ea (Z:Fr a n D σ) (I:Mem W w fs) {e:TypeId} (cs:Array Value) (k:∀a' w' g,Fr a' n D ((d,.pointer (some ⟨g,0,none⟩))::σ)→Mem W w' (.blk g cs e::fs)→K a' w') (hop:o.op= .alloc e:=by exact rfl) (hz:zl P e=some cs:=by kernel_rfl) (hd:o.dst=some d:=by exact rfl) (hdn:d<n:=by decide):o.wp P a w K Q:=qmk Z I hop hz hd hdn k
theorem s_es (Z:Fr a n D σ) (I:Mem W w fs) (i:Nat) {t:TypeId} {x y:Operand} {g off:Nat} {cs:Array Value} {tb:TypeId} (k:∀w',Mem W w' (fs.set i (.blk g (cs.setIfInBounds off v) tb))→K a w') (hop:o.op= .store t x y:=by exact rfl) (hd:o.dst=none:=by exact rfl) (hx:look σ x=some (.pointer (some ⟨g,off,none⟩)):=by exact rfl) (hy:look σ y=some v:=by exact rfl) (hs:(P.info? t).map (·.size)=some 1:=by kernel_rfl) (hv:v.oneCell'=true:=by exact rfl) (hi:fs[i]?=some (.blk g cs tb):=by exact rfl) (ho:off<cs.size:=by simp):o.wp P a w K Q:=qb3 Z I hop hd hx hy hs hv hi ho k
theorem s_el {t len e:Nat} {ps:Array (Nat×Operand)} {z:Value} {size bytes:Nat} (Z:Fr a n D σ) (I:Mem W w fs) (ei:EI P t e z size bytes) (vs:List (Nat×Value)) (cs:Array Value) (k:∀a' w' g,Fr a' n D ((d,.slice (some ⟨g,0,none⟩) len len)::σ)→Mem W w' (.blk g cs e::fs)→K a' w') (hop:o.op= .buildSlice t len ps:=by exact rfl) (hl:decide (0<len∧len*size≤16777216)=true:=by decide) (hv:qbb σ ps.toList=some vs:=by exact rfl)
  (hf:Instr.fill (fun i=>some (i*size,size)) (qdi z.cells (len*size)) vs=some cs:=by kernel_rfl) (hd:o.dst=some d:=by exact rfl) (hdn:d<n:=by decide):o.wp P a w K Q:=qsf Z I hop ei hl hv hf hd hdn k
section
variable {fn:Func} {R:Ending→World→Prop} {t1 t2 t3:Nat} {v1 v2 v3:Value}
theorem s_rt1 (hr:fn.results= #[.tmp t1]) (Z:Fr a n [] σ) (h1:σ.lookup t1=some v1) (hR:R (.returned v1) w):bodyPost P fn R .ret a w:=ret1 hr Z (.tmp Z h1) hR
theorem s_rt2 (hr:fn.results= #[.tmp t1,.tmp t2]) (Z:Fr a n [] σ) (h1:σ.lookup t1=some v1) (h2:σ.lookup t2=some v2) (hR:R (.returned (.tuple #[v1,v2])) w):bodyPost P fn R .ret a w:=ret2 hr Z (.tmp Z h1) (.tmp Z h2) hR
end
end
end Go.Proofs.YtcajpeiobkcliaaGreatDoor
