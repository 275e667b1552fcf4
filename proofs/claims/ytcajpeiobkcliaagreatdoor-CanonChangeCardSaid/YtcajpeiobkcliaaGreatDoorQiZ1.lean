/- Parts. -/
import Derived.Test.YtcajpeiobkcliaaGreatDoorQiChn
import Derived.Test.YtcajpeiobkcliaaGreatDoorQiTail
import Derived.Test.YtcajpeiobkcliaaGreatDoorQiSep14
import Derived.Laws.IdiomCopy
import Derived.Lib.Overlaps
import Derived.Test.YtcajpeiobkcliaaGreatDoorQiSta
import Derived.Test.YtcajpeiobkcliaaGreatDoorQiIs
import Derived.Test.YtcajpeiobkcliaaGreatDoorQiRnd1
import Derived.Test.YtcajpeiobkcliaaGreatDoorQiSep18
import Derived.Test.YtcajpeiobkcliaaGreatDoorQiSep16
import Derived.Test.YtcajpeiobkcliaaGreatDoorQiSep19
import Derived.Test.YtcajpeiobkcliaaGreatDoorQiLst
import Derived.Test.YtcajpeiobkcliaaGreatDoorQiMark
import Derived.Test.YtcajpeiobkcliaaGreatDoorQiSep6
import Derived.Test.YtcajpeiobkcliaaGreatDoorQiRnd2
set_option linter.all false
set_option maxRecDepth 100000
set_option maxHeartbeats 1000000
namespace Go.Proofs.YtcajpeiobkcliaaGreatDoor
open Go.RowKit
section
variable {P:Program} {ops o2:Array Oper} {Q:Exit→Act→World→Prop} {a:Act} {W w:World} {n d d2 fuel:Nat} {D:List Deferred} {σ σ':List (Nat×Value)} {o o':Oper} {op:Op} {v v1 v2 v3:Value} {X:Act→World→Prop} {fs gs fs':List Fact} {md:Region.Mode} {listed:Array Bool} {ex:List Nat} {S:World→Prop}
def VV (W w:World) (n:Nat) (D:List Deferred) (σ:List (Nat×Value)) (fs gs:List Fact) (X:Act→World→Prop):Prop:=∀a,Fr a n D σ→Mem W w fs→Mem W w gs→X a w
theorem Vb (Z:Fr a n D σ) (I:Mem W w fs) (HS:Mem W w gs) (h:VV W w n D σ fs gs X):X a w:=h a Z I HS
def setT (l:Array Bool) (is:List Nat):Array Bool:=is.foldl (fun l i=>l.setIfInBounds i true) l
theorem Vs (m:Sel fs gs) (ex:List Nat) {id f0:Nat} (hf:ops.size=f0:=by exact rfl) (hm:P.follows .mixedOrders=true:=by kernel_rfl) (k:∀w',VV W w' n D σ fs gs (qh P .any ops Q (fun wS=>Mem W wS gs) ex f0 (Array.replicate ops.size false))):JJ W w n D σ fs (Code.wp P (.region id ops true) Q):=
 fun a Z I=>qkr hm (fun wS=>Mem W wS gs) ex (by have h:=k w.drew a Z I.drew (I.drew.sel m);subst hf;exact h)
theorem Vd (hr:Region.ready md ops listed=[]:=by kernel_rfl) (k:JJ W w n D σ fs (Q .normal)):VV W w n D σ fs gs (qh P md ops Q S ex fuel listed):=fun a Z I _=>qb hr (k a Z I)
def qfa (P:Program) (ops:Array Oper) (n:Nat):List Nat→List (Nat×Value)→Option (List (Nat×Value))
 |[],σ=>some σ
 |i::is,σ=>match qbs P ops n i σ with
  |some σ'=>qfa P ops n is σ'
  |none=>none
def okSel (md:Region.Mode) (ops:Array Oper) (ex:List Nat):List Nat→Array Bool→Bool
 |[],_=>true
 |i::is,l=>qau md ops ex l i&&okSel md ops ex is (l.setIfInBounds i true)
theorem qd3:∀(is:List Nat) {l:Array Bool} {σ σ':List (Nat×Value)},qfa P ops n is σ=some σ'→okSel md ops ex is l=true→qba P md ops n ex is l σ=some (setT l is,σ')
 |[],_,_,_,h,_=>by injection h with h;subst h;rfl
 | i :: is, l, σ, σ', h, hk => by
  unfold qfa at h
  unfold okSel at hk
  rw [Bool.and_eq_true] at hk
  split at h
  ·rename_i s hs
   unfold qba
   rw [if_pos hk.1,hs]
   exact qd3 is h hk.2
  ·cases h
theorem Vp (is:List Nat) (h:qfa P ops n is σ=some σ':=by exact rfl) (hk:okSel md ops ex is listed=true:=by kernel_rfl) (hQ:∀c (a:Act) d v w,Q (.panic c) (a.put d v) w→Q (.panic c) a w:=by intro _ _ d _ _ h;cases d<;>exact h)
 (k:VV W w n D σ' fs gs (qh P md ops Q S ex fuel (setT listed is))) (hS:∀w,Mem W w gs→S w:=by exact fun _ h=>h):VV W w n D σ fs gs (qh P md ops Q S ex (fuel+is.length) listed):=
 fun a Z I HS=>qdh hQ is Z (fun _=>hS _ HS) (qd3 is h hk) fun a Z=>k a Z I HS
theorem Vq (is:List Nat) (new:List (Nat×Value)) (h:(qfa P ops n is σ).map (fun s=>(thin s σ new,new.map fun p=>s.lookup p.1))=some (true,new.map fun p=>some p.2):=by kernel_rfl) (hk:okSel md ops ex is listed=true:=by kernel_rfl) (hQ:∀c (a:Act) d v w,Q (.panic c) (a.put d v) w→Q (.panic c) a w:=by intro _ _ d _ _ h;cases d<;>exact h)
 (k:VV W w n D (new++σ) fs gs (qh P md ops Q (fun wS=>Mem W wS gs) ex fuel (setT listed is))):VV W w n D σ fs gs (qh P md ops Q (fun wS=>Mem W wS gs) ex (fuel+is.length) listed):=by
 cases hs:qfa P ops n is σ with
 |none=>rw [hs] at h;cases h
 |some s=>
  rw [hs] at h
  injection h with h
  injection h with h1 h2
  have hA:=qd3 is hs hk
  obtain ⟨full,hf⟩:=qc2 is hA
  exact fun a Z I HS=>qdh hQ is Z (fun _=>HS) hA fun a Z=>k a (Z.thin hf h1 h2) I HS
section
variable {i:Nat}
theorem VV.yl (h:opW ops σ n i=some (d,op)) (hk:qed md ops ex listed i=true) (hQ:∀c (a:Act) v w,Q (.panic c) (a.put (some d) v) w→Q (.panic c) a w) (hy:∀o:Oper,o.op=op→Yl P (fun wS=>Mem W wS gs) σ o v)
 (k:VV W w n D ((d,v)::σ) fs gs (qh P md ops Q (fun wS=>Mem W wS gs) ex fuel (listed.setIfInBounds i true))):VV W w n D σ fs gs (qh P md ops Q (fun wS=>Mem W wS gs) ex (fuel+1) listed):=by
 obtain ⟨o,ho,hw,hd,hdn,he⟩:=qei h
 exact fun a Z I HS=>qh9 Z HS ho hw hd hdn hk (fun c a w=>by rw [hd];exact hQ c a v w) (hy o he) fun a Z=>k a Z I HS
theorem VV.pu (h:opW ops σ n i=some (d,op)) (hk:qau md ops ex listed i=true) (hQ:∀c (a:Act) v w,Q (.panic c) (a.put (some d) v) w→Q (.panic c) a w) (hy:∀o:Oper,o.op=op→∀S',Yl P S' σ o v)
 (k:VV W w n D ((d,v)::σ) fs gs (qh P md ops Q (fun wS=>Mem W wS gs) ex fuel (listed.setIfInBounds i true))):VV W w n D σ fs gs (qh P md ops Q (fun wS=>Mem W wS gs) ex (fuel+1) listed):=by
 obtain ⟨o,ho,hw,hd,hdn,he⟩:=qei h
 exact fun a Z I HS=>qcs Z (fun _=>HS) ho hw hd hdn hk (fun c a w=>by rw [hd];exact hQ c a v w) (hy o he) fun a Z=>k a Z I HS
theorem VV.eff (h:opW ops σ n i=some (d,op)) (hr:Region.ready md ops listed=[i]) (k:∀(o:Oper) a,o.op=op→o.dst=some d→d<n→Fr a n D σ→Mem W w fs→o.wp P a w (fun a' w'=>(pastB ex (listed.setIfInBounds i true)=false→Mem W w' gs)∧qh P md ops Q (fun wS=>Mem W wS gs) ex fuel (listed.setIfInBounds i true) a' w') Q):VV W w n D σ fs gs (qh P md ops Q (fun wS=>Mem W wS gs) ex (fuel+1) listed):=by
 obtain ⟨o,ho,hw,hd,hdn,he⟩:=qei h
 exact fun a Z I _=>qo [i] hr rfl (all_cons (qc Z ho hw (k o a he hd hdn Z I)) all_nil)
end
theorem Vf (i off:Nat) {s f g b:Nat} {x:Operand} (h:opW ops σ n i=some (d,.fieldAddr s x f):=by exact rfl) (hx:look σ x=some (.pointer (some ⟨g,b,none⟩)):=by exact rfl) (hf:(qdg P s f==some off&&qau md ops ex listed i)=true:=by kernel_rfl) (hQ:∀c (a:Act) v w,Q (.panic c) (a.put (some d) v) w→Q (.panic c) a w:=by exact fun _ _ _ _ h=>h)
 (k:VV W w n D ((d,.pointer (some ⟨g,b+off,none⟩))::σ) fs gs (qh P md ops Q (fun wS=>Mem W wS gs) ex fuel (listed.setIfInBounds i true))):VV W w n D σ fs gs (qh P md ops Q (fun wS=>Mem W wS gs) ex (fuel+1) listed):=by
 rw [Bool.and_eq_true,beq_iff_eq] at hf
 exact VV.pu h hf.2 hQ (fun o ho _=>Yl.pure (by rw [ho];simp only [qa4,hx,hf.1];rw [Addr.add_mid])) k
theorem Vc (i:Nat) {g off:Nat} {x:Operand} {t tb:TypeId} {cs:Array Value} (O:At gs (.blk g cs tb)) (h:opW ops σ n i=some (d,.load t x):=by exact rfl) (hx:look σ x=some (.pointer (some ⟨g,off,none⟩)):=by exact rfl) (hv:nth cs.toList off=some v:=by exact rfl) (ht:(isOne P t&&qed md ops ex listed i)=true:=by kernel_rfl) (hQ:∀c (a:Act) v w,Q (.panic c) (a.put (some d) v) w→Q (.panic c) a w:=by exact fun _ _ _ _ h=>h)
 (k:VV W w n D ((d,v)::σ) fs gs (qh P md ops Q (fun wS=>Mem W wS gs) ex fuel (listed.setIfInBounds i true))):VV W w n D σ fs gs (qh P md ops Q (fun wS=>Mem W wS gs) ex (fuel+1) listed):=by
 rw [Bool.and_eq_true] at ht
 exact VV.yl h ht.2 hQ (fun o ho=>Yl.qe ho hx ht.1 fun _ h=>let ⟨_,hi⟩:=O.get;h.cell hi (qi8 hv)) k
theorem Vl (i:Nat) {x:Operand} {t:TypeId} {A:Option Addr} {m c:Nat} (h:opW ops σ n i=some (d,.call {callee:= .builtin .len,args:= #[x],argTypes:= #[t]}):=by exact rfl) (hx:look σ x=some (.slice A m c):=by exact rfl) (ht:(isSl P t&&qau md ops ex listed i)=true:=by kernel_rfl) (hQ:∀c (a:Act) v w,Q (.panic c) (a.put (some d) v) w→Q (.panic c) a w:=by exact fun _ _ _ _ h=>h)
 (k:VV W w n D ((d,.int .i64 (m:Int))::σ) fs gs (qh P md ops Q (fun wS=>Mem W wS gs) ex fuel (listed.setIfInBounds i true))):VV W w n D σ fs gs (qh P md ops Q (fun wS=>Mem W wS gs) ex (fuel+1) listed):=by
 rw [Bool.and_eq_true] at ht
 exact VV.pu h ht.2 hQ (fun o ho _=>Yl.len ho hx ht.1) k
theorem Vn (i:Nat) {x:Operand} {p:Addr} (h:opW ops σ n i=some (d,.nilCheck x):=by exact rfl) (hx:look σ x=some (.pointer (some p)):=by exact rfl) (ht:qau md ops ex listed i=true:=by kernel_rfl) (hQ:∀c (a:Act) v w,Q (.panic c) (a.put (some d) v) w→Q (.panic c) a w:=by exact fun _ _ _ _ h=>h)
 (k:VV W w n D ((d,.pointer (some p))::σ) fs gs (qh P md ops Q (fun wS=>Mem W wS gs) ex fuel (listed.setIfInBounds i true))):VV W w n D σ fs gs (qh P md ops Q (fun wS=>Mem W wS gs) ex (fuel+1) listed):=
 VV.pu h ht hQ (fun o ho _=>Yl.nilCheck ho hx) k
theorem Vx (i:Nat) {x:Operand} {e:Nat} {vs:Array Value} (h:opW ops σ n i=some (d,.extract x e):=by exact rfl) (hx:look σ x=some (.tuple vs):=by exact rfl) (hv:nth vs.toList e=some v:=by exact rfl) (ht:qau md ops ex listed i=true:=by kernel_rfl) (hQ:∀c (a:Act) v w,Q (.panic c) (a.put (some d) v) w→Q (.panic c) a w:=by exact fun _ _ _ _ h=>h)
 (k:VV W w n D ((d,v)::σ) fs gs (qh P md ops Q (fun wS=>Mem W wS gs) ex fuel (listed.setIfInBounds i true))):VV W w n D σ fs gs (qh P md ops Q (fun wS=>Mem W wS gs) ex (fuel+1) listed):=
 VV.pu h ht hQ (fun o ho _=>Yl.pure (by rw [ho];simp only [qa4,hx];exact qi8 hv)) k
theorem Vy (i:Nat) (ho:ops[i]?=some o:=by exact rfl) (hw:wantB ops σ o=some true:=by exact rfl) (hd:o.dst=some d:=by exact rfl) (hdn:d<n:=by decide) (h:Yl P (fun wS=>Mem W wS gs) σ o v) (ht:qed md ops ex listed i=true:=by kernel_rfl) (hQ:∀c (a:Act) w,Q (.panic c) (a.put o.dst v) w→Q (.panic c) a w:=by exact fun _ _ _ h=>h)
 (k:VV W w n D ((d,v)::σ) fs gs (qh P md ops Q (fun wS=>Mem W wS gs) ex fuel (listed.setIfInBounds i true))):VV W w n D σ fs gs (qh P md ops Q (fun wS=>Mem W wS gs) ex (fuel+1) listed):=
 fun a Z I HS=>qh9 Z HS ho hw hd hdn ht hQ h fun a Z=>k a Z I HS
theorem Vu (i:Nat) (ho:ops[i]?=some o:=by exact rfl) (hw:wantB ops σ o=some true:=by exact rfl) (hd:o.dst=some d:=by exact rfl) (hdn:d<n:=by decide) (h:∀S':World→Prop,Yl P S' σ o v) (ht:qau md ops ex listed i=true:=by kernel_rfl) (hQ:∀c (a:Act) w,Q (.panic c) (a.put o.dst v) w→Q (.panic c) a w:=by exact fun _ _ _ h=>h)
 (k:VV W w n D ((d,v)::σ) fs gs (qh P md ops Q (fun wS=>Mem W wS gs) ex fuel (listed.setIfInBounds i true))):VV W w n D σ fs gs (qh P md ops Q (fun wS=>Mem W wS gs) ex (fuel+1) listed):=
 fun a Z I HS=>qcs Z (fun _=>HS) ho hw hd hdn ht hQ h fun a Z=>k a Z I HS
theorem Vo (u:Value) (h:v=u) (k:VV W w n D ((d,u)::σ) fs gs X):VV W w n D ((d,v)::σ) fs gs X:=by subst h;exact k
theorem VH {p:Prop} (h:p) (k:p→VV W w n D σ fs gs X):VV W w n D σ fs gs X:=k h
section
variable {x y:Operand} {t t2:TypeId} {k:Go.IntKind} {m p B:Nat}
theorem VV.bin (i:Nat) {bo:BinOp} {u:Value} {a1 a2:Value} (h:opW ops σ n i=some (d,.binOp bo t x y t2)) (hx:look σ x=some a1) (hy:look σ y=some a2) (ht:qau md ops ex listed i=true) (hQ:∀c (a:Act) v w,Q (.panic c) (a.put (some d) v) w→Q (.panic c) a w) (hn:qko a1=true) (hb:qbr bo a1 a2=some v) (e:v=u)
 (K:VV W w n D ((d,u)::σ) fs gs (qh P md ops Q (fun wS=>Mem W wS gs) ex fuel (listed.setIfInBounds i true))):VV W w n D σ fs gs (qh P md ops Q (fun wS=>Mem W wS gs) ex (fuel+1) listed):=by
 subst e
 exact VV.pu h ht hQ (fun o ho _=>Yl.pure (by rw [ho];simp only [qa4,hx,hy,hn,if_true];exact hb)) K
theorem Va (i:Nat) (h:opW ops σ n i=some (d,.binOp .add t x y t2):=by exact rfl) (hx:look σ x=some (.int k (m:Int)):=by exact rfl) (hy:look σ y=some (.int k (p:Int)):=by exact rfl) (hB:mostO k=some B:=by exact rfl) (hb:m+p≤B:=by omega) (ht:qau md ops ex listed i=true:=by kernel_rfl) (hQ:∀c (a:Act) v w,Q (.panic c) (a.put (some d) v) w→Q (.panic c) a w:=by exact fun _ _ _ _ h=>h)
 (K:VV W w n D ((d,.int k ((m+p:Nat):Int))::σ) fs gs (qh P md ops Q (fun wS=>Mem W wS gs) ex fuel (listed.setIfInBounds i true))):VV W w n D σ fs gs (qh P md ops Q (fun wS=>Mem W wS gs) ex (fuel+1) listed):=
 VV.bin i h hx hy ht hQ rfl (qsl _ _ _) (by rw [show ((m:Int)+(p:Int))=((m+p:Nat):Int) from rfl,qch hB hb]) K
theorem VaK (i p:Nat) {z:Int} (h:opW ops σ n i=some (d,.binOp .add t x y t2):=by exact rfl) (hx:look σ x=some (.int k (m:Int)):=by exact rfl) (hy:look σ y=some (.int k z):=by exact rfl) (hz:z=(p:Int):=by exact rfl) (hB:mostO k=some B:=by exact rfl) (hb:m+p≤B:=by omega) (ht:qau md ops ex listed i=true:=by kernel_rfl) (hQ:∀c (a:Act) v w,Q (.panic c) (a.put (some d) v) w→Q (.panic c) a w:=by exact fun _ _ _ _ h=>h)
 (K:VV W w n D ((d,.int k ((m+p:Nat):Int))::σ) fs gs (qh P md ops Q (fun wS=>Mem W wS gs) ex fuel (listed.setIfInBounds i true))):VV W w n D σ fs gs (qh P md ops Q (fun wS=>Mem W wS gs) ex (fuel+1) listed):=by
 subst hz;exact Va i h hx hy hB hb ht hQ K
theorem VsK (i p:Nat) {z:Int} (h:opW ops σ n i=some (d,.binOp .sub t x y t2):=by exact rfl) (hx:look σ x=some (.int k (m:Int)):=by exact rfl) (hy:look σ y=some (.int k z):=by exact rfl) (hz:z=(p:Int):=by exact rfl) (hB:mostO k=some B:=by exact rfl) (hb:p≤m∧m-p≤B:=by omega) (ht:qau md ops ex listed i=true:=by kernel_rfl) (hQ:∀c (a:Act) v w,Q (.panic c) (a.put (some d) v) w→Q (.panic c) a w:=by exact fun _ _ _ _ h=>h)
 (K:VV W w n D ((d,.int k ((m-p:Nat):Int))::σ) fs gs (qh P md ops Q (fun wS=>Mem W wS gs) ex fuel (listed.setIfInBounds i true))):VV W w n D σ fs gs (qh P md ops Q (fun wS=>Mem W wS gs) ex (fuel+1) listed):=by
 subst hz
 exact VV.bin i h hx hy ht hQ rfl (qsm _ _ _) (by rw [show ((m:Int)- (p:Int))=((m-p:Nat):Int) by omega,qch hB hb.2]) K
theorem Vw (i:Nat) (k:Go.IntKind) {k0:Go.IntKind} (h:opW ops σ n i=some (d,.convert t t2 x):=by exact rfl) (hx:look σ x=some (.int k0 (m:Int)):=by exact rfl) (hk:(intK P t t2==some k&&qau md ops ex listed i)=true:=by kernel_rfl) (hB:mostO k=some B:=by exact rfl) (hb:m≤B:=by omega) (hQ:∀c (a:Act) v w,Q (.panic c) (a.put (some d) v) w→Q (.panic c) a w:=by exact fun _ _ _ _ h=>h)
 (K:VV W w n D ((d,.int k (m:Int))::σ) fs gs (qh P md ops Q (fun wS=>Mem W wS gs) ex fuel (listed.setIfInBounds i true))):VV W w n D σ fs gs (qh P md ops Q (fun wS=>Mem W wS gs) ex (fuel+1) listed):=by
 rw [Bool.and_eq_true,beq_iff_eq] at hk
 obtain ⟨hk,ht⟩:=hk
 refine VV.pu h ht hQ (fun o ho _=>Yl.pure (by
  rw [ho]
  unfold intK at hk
  split at hk
  ·rename_i q1 q2 h1 h2
   injection hk with hk
   subst hk
   simp only [qa4,h1,h2,hx,qch hB hb]
  ·cases hk)) K
end
theorem VA (i:Nat) (m:Sel fs gs) (cs:Array Value) {e:TypeId} (h:opW ops σ n i=some (d,.alloc e):=by exact rfl) (hz:zl P e=some cs:=by kernel_rfl) (hr:Region.ready md ops listed=[i]:=by kernel_rfl)
 (k:∀w' g,VV W w' n D ((d,.pointer (some ⟨g,0,none⟩))::σ) (.blk g cs e::fs) gs (qh P md ops Q (fun wS=>Mem W wS gs) ex fuel (listed.setIfInBounds i true))):VV W w n D σ fs gs (qh P md ops Q (fun wS=>Mem W wS gs) ex (fuel+1) listed):=
 VV.eff h hr fun _ _ he hd hdn Z I=>qmk Z I he hz hd hdn fun a w' g Z I=>⟨fun _=>I.sel (.f m),k w' g a Z I (I.sel (.f m))⟩
theorem VI (i:Nat) (m:Sel fs gs) {f:FuncId} {xs:Array Operand} {ts:Array TypeId} {vs:List Value} (h0:opW ops σ n i=some (d,.call {callee:= .value (.func f),args:=xs,argTypes:=ts}):=by exact rfl) (hv:looks σ xs.toList=some vs:=by exact rfl) (h:Mem W w fs→Calls P f vs.toArray w (fun r w'=>r= .returned v∧Below w.heap.size w w')) (hf:callable P f=true:=by kernel_rfl) (hr:Region.ready md ops listed=[i]:=by kernel_rfl)
 (k:∀w',Below w.heap.size w w'→VV W w' n D ((d,v)::σ) fs gs (qh P md ops Q (fun wS=>Mem W wS gs) ex fuel (listed.setIfInBounds i true))):VV W w n D σ fs gs (qh P md ops Q (fun wS=>Mem W wS gs) ex (fuel+1) listed):=
 VV.eff h0 hr fun _ _ he hd hdn Z I=>qfm Z he hv hf hd hdn (h I) fun _ w' ⟨h1,h2⟩=>⟨v,h1,fun a Z=>⟨fun _=>(I.call h2).sel m,k w' h2 a Z (I.call h2) ((I.call h2).sel m)⟩⟩
theorem VK (i:Nat) (m:Sel fs gs) {f:FuncId} {xs:Array Operand} {ts:Array TypeId} {vs:List Value} {V:Option Addr→Nat→Value} {l sz:Nat} {e:TypeId} {ys:List Value} (h0:opW ops σ n i=some (d,.call {callee:= .value (.func f),args:=xs,argTypes:=ts}):=by exact rfl) (hv:looks σ xs.toList=some vs:=by exact rfl) (h:Mem W w fs→Calls P f vs.toArray w (fun r w'=>(∃A c,r= .returned (V A c)∧w'.ownsRow w.heap.size e sz (.slice A l c) l ys∧l≤c)∧Below w.heap.size w w')) (hf:callable P f=true:=by kernel_rfl) (hr:Region.ready md ops listed=[i]:=by kernel_rfl)
 (k:∀A c w',l≤c→VV W w' n D ((d,V A c)::σ) (.row (.slice A l c) l ys e sz::fs) gs (qh P md ops Q (fun wS=>Mem W wS gs) ex fuel (listed.setIfInBounds i true))):VV W w n D σ fs gs (qh P md ops Q (fun wS=>Mem W wS gs) ex (fuel+1) listed):=
 VV.eff h0 hr fun _ _ he hd hdn Z I=>qfm Z he hv hf hd hdn (h I) fun r w' ⟨⟨A,c,h1,h2,h3⟩,h4⟩=>⟨_,h1,fun a Z=>⟨fun _=>(I.callRow h4 h2).sel (.f m),k A c w' h3 a Z (I.callRow h4 h2) ((I.callRow h4 h2).sel (.f m))⟩⟩
end
section
variable {P:Program} {Q:Exit→Act→World→Prop} {a:Act} {W w w':World} {n d:Nat} {D:List Deferred} {σ:List (Nat×Value)} {o:Oper} {v:Value} {K:Act→World→Prop} {fs:List Fact}
theorem run_copy_row (w:World) (dT sT ty elem:TypeId) (i:TypeInfo) (b off dLen dCap:Nat) (ad:Addr) (sLen sCap:Nat) (cs:List Value) (hu:P.underlying dT=some (.slice elem)) (hi:P.info? elem=some i) (hn:cs.length=Nat.min sLen dLen*i.size)
  (hsrc:∀j v,cs[j]?=some v→w.cell? (ad.add j)=some v) (hc:w.there b off cs.length) (h1:∀v∈cs,v.oneCell'=true):
  (Builtin.copy_ #[dT,sT] ty #[.slice (some ⟨b,off,none⟩) dLen dCap,.slice (some ad) sLen sCap]).run P w= .ok (goInt (Nat.min sLen dLen)) (w.setCells b off cs):=by
 have hl:=run_firstCells_some (P:=P) w i.size (Nat.min sLen dLen) ad sLen sCap cs hn hsrc
 have hst:=run_storeCells_cells (P:=P) b off cs 0 w (by simpa using fun j hj=>(hc j hj).1) (by simpa using fun j hj=>(hc j hj).2) h1
 simp only [Nat.add_zero] at hst
 simp [Builtin.copy_,run_underlying hu,Builtin.lenOf,sizeOf,typeInfo,hi,hl,hst]
theorem qod (Z:Fr a n D σ) (I:Mem W w fs) {x y:Operand} {t e:TypeId} {z:Value} {size bytes i g off dn dc sn sc m c:Nat} {ad:Addr} {xs:List Value} (news:List Value) (hop:o.op= .call {callee:= .builtin .copy,args:= #[x,y],argTypes:= #[t,t]}) (ei:EI P t e z size bytes)
  (hx:look σ x=some (.slice (some ⟨g,off,none⟩) dn dc)) (hy:look σ y=some (.slice (some ad) sn sc)) (hi:fs[i]?=some (.row (.slice (some ⟨g,0,none⟩) m c) m xs e size)) (hk:news.length=Nat.min sn dn*size) (hsrc:∀j v,news[j]?=some v→w.cell? (ad.add j)=some v) (h1:∀v∈news,v.oneCell'=true) (ho:off+news.length≤xs.length)
  (hd:o.dst=some d) (hdn:d<n) (k:∀a' w',Fr a' n D ((d,.int .i64 (Nat.min sn dn:Nat))::σ)→Mem W w' (fs.set i (.row (.slice (some ⟨g,0,none⟩) m c) m (putAt xs off news) e size))→K a' w'):o.wp P a w K Q:=by
 obtain ⟨ti,hti,hz,hsz,hby⟩:=info_parts ei.hi
 have hrun:=run_copy_row (P:=P) w t t o.type e ti g off dn dc ad sn sc news ei.ht hti (by rw [hsz];exact hk) hsrc (qaz I hi off _ ho) h1
 unfold Oper.wp execOp
 simp only [hop,resolve,invoke,builtin,Sem.run_bind,Sem.run_pure,Result.andThen_ok,List.map_toArray,List.map_cons,List.map_nil,Z.eval hx,Z.eval hy,hrun,Oper.upon_value,hd]
 exact k _ _ (Z.put hdn _) (I.rowSet hi ho)
theorem qja (w:World) (t e ty:TypeId) (z:Value) (ht:P.underlying t=some (.slice e)) (hv:∀w,(zeroValue e).run P w= .ok z w) (b off n c:Nat) (hn:0<n) (hc:w.there b off (Builtin.zeroCells z.cells n).toList.length) (h1:∀v∈(Builtin.zeroCells z.cells n).toList,v.oneCell'=true):
  (Builtin.clear_ #[t] ty #[.slice (some ⟨b,off,none⟩) n c]).run P w= .ok (.tuple #[]) (w.setCells b off (Builtin.zeroCells z.cells n).toList):=by
 have hst:=run_storeCells_cells (P:=P) b off (Builtin.zeroCells z.cells n).toList 0 w (fun j hj=>by have h:=(hc j hj).1;simpa only [Nat.add_zero] using h) (fun j hj=>by have h:=(hc j hj).2;simpa only [Nat.add_zero] using h) h1
 simp only [Nat.add_zero] at hst
 obtain ⟨m,rfl⟩:∃m,n=m+1:=⟨n-1,by omega⟩
 simp [Builtin.clear_,run_underlying ht,hv,hst]
theorem qzx (Z:Fr a n D σ) (I:Mem W w fs) {x:Operand} {t e:TypeId} {z:Value} {size bytes i g off dn dc m c:Nat} {xs:List Value} (hop:o.op= .call {callee:= .builtin .clear,args:= #[x],argTypes:= #[t]}) (ei:EI P t e z size bytes)
  (hx:look σ x=some (.slice (some ⟨g,off,none⟩) dn dc)) (hi:fs[i]?=some (.row (.slice (some ⟨g,0,none⟩) m c) m xs e size)) (hdn0:0<dn) (h1:∀v∈(Builtin.zeroCells z.cells dn).toList,v.oneCell'=true) (ho:off+dn*size≤xs.length)
  (hd:o.dst=none) (k:∀w',Mem W w' (fs.set i (.row (.slice (some ⟨g,0,none⟩) m c) m (putAt xs off (Builtin.zeroCells z.cells dn).toList) e size))→K a w'):o.wp P a w K Q:=by
 obtain ⟨ti,hti,hz,hsz,hby⟩:=info_parts ei.hi
 have hl:(Builtin.zeroCells z.cells dn).toList.length=dn*size:=by rw [Array.length_toList,size_zeroCells,ei.hz]
 have hrun:=qja (P:=P) w t e o.type z ei.ht (fun w=>by simp [zeroValue,typeInfo,hti,hz]) g off dn dc hdn0 (qaz I hi off _ (by rw [hl];exact ho)) h1
 unfold Oper.wp execOp
 simp only [hop,resolve,invoke,builtin,Sem.run_bind,Sem.run_pure,Result.andThen_ok,List.map_toArray,List.map_cons,List.map_nil,Z.eval hx,hrun,Oper.upon_value,hd]
 exact k _ (I.rowSet hi (by rw [hl];exact ho))
theorem qfy (w:World) (t tn ty e:TypeId) (i:TypeInfo) (z:Value) (k kn:IntKind) (ht:P.underlying t=some (.slice e)) (htn:P.underlying tn=some (.int kn)) (hi:P.info? e=some i) (hz:i.zero=some z)
  (b:Addr) (sLen sCap:Nat) (olds:List Value) (hlo:olds.length=sLen*i.size) (holds:∀j v,olds[j]?=some v→w.cell? (b.add j)=some v) (n:Nat) (h0:0<n) (hs:0<i.size) (hg:sCap<sLen+n) (h63:((sLen+n:Nat):Int)≤9223372036854775807) (hfit:Builtin.nextslicecap (sLen+n) sCap*i.bytes≤281474976710656) (h48:n*i.bytes≤281474976710656):
  (Builtin.append_ #[t, tn] ty #[.slice (some b) sLen sCap, .int k n]).run P w =
   .ok (.slice (some ⟨w.heap.size,0,none⟩) (sLen+n) (grownCap w (sLen+n) sCap e)) (w.drew.alloc (.cells (olds.toArray++Builtin.zeroCells z.cells n++Builtin.zeroCells z.cells (grownCap w (sLen+n) sCap e- (sLen+n))) e)):=by
 have hn:n≠0:=by omega
 have hw:IntKind.i64.wrap (n:Int)=n:=by rw [IntKind.wrap_i64];omega
 have hnn:¬(sLen+n≤sCap):=by omega
 have h63':¬(9223372036854775807<((sLen:Int)+(n:Int))):=by omega
 have h48':¬(281474976710656<Builtin.nextslicecap (sLen+n) sCap*i.bytes):=by omega
 have h48i:¬(281474976710656<(n:Int)*(i.bytes:Int)):=by
  rw [←Int.natCast_mul]
  omega
 have hneg:¬((n:Int)<0):=by omega
 have hns:¬(n*i.size=0):=Nat.mul_ne_zero hn om
 have hfo:=run_firstCells_some (P:=P) w.drew i.size sLen b sLen sCap olds hlo (by simpa using holds)
 simp [Builtin.append_,run_underlying ht,run_underlying htn,sizeOf,typeInfo,zeroValue,hi,hz,asInt,asIntOf,hw,hn,hnn,hneg,hns,h63',h48',h48i,Question.forced,hfo,newRow,grownCap]
theorem qh3 (Z:Fr a n D σ) (I:Mem W w fs) {s x:Operand} {t tn e:TypeId} {z:Value} {size bytes m0 cap m:Nat} {ad:Addr} {xs:List Value} {kn k:IntKind} (hop:o.op= .call {callee:= .builtin .append,args:= #[s,x],argTypes:= #[t,tn]}) (ei:EI P t e z size bytes) (htn:P.underlying tn=some (.int kn))
  (hs:look σ s=some (.slice (some ad) m0 cap)) (hx:look σ x=some (.int k (m:Int))) (hrs:xs.length=m0*size∧∀j v,xs[j]?=some v→w.cell? (ad.add j)=some v) (hm:0<m) (hg:cap<m0+m) (hb:(m0+m)*bytes≤140737488355328) (h63:m0+m≤9223372036854775807)
  (hd:o.dst=some d) (hdn:d<n) (kk:∀a' w' g c',Fr a' n D ((d,.slice (some ⟨g,0,none⟩) (m0+m) c')::σ)→Mem W w' (.row (.slice (some ⟨g,0,none⟩) (m0+m) c') (m0+m) (xs++(Builtin.zeroCells z.cells m).toList) e size::fs)→m0+m≤c'→K a' w'):o.wp P a w K Q:=by
 obtain ⟨i,hi,hz,hsz,hby⟩:=info_parts ei.hi
 have hr:=qfy (P:=P) w t tn o.type e i z k kn ei.ht htn hi hz ad m0 cap xs (by rw [hsz];exact hrs.1) hrs.2 m hm (by rw [hsz];exact ei.hs) hg om (by rw [hby];exact growslice_fits hg hb) (by rw [hby];exact Nat.le_trans (Nat.mul_le_mul_right _ (Nat.le_add_left _ _)) (Nat.le_trans hb de))
 have h1:=grownCap_ge w (m0+m) cap e
 have h2:=grownCap_le_maxLen w (m0+m) cap e (by unfold maxLen;omega)
 have hzl:(Builtin.zeroCells z.cells m).size=m*size:=by rw [size_zeroCells,ei.hz]
 have hlen:(xs++(Builtin.zeroCells z.cells m).toList).length=(m0+m)*size:=by rw [List.length_append,hrs.1,Nat.add_mul];show m0*size+(Builtin.zeroCells z.cells m).toList.length=_;rw [Array.length_toList (xs:=Builtin.zeroCells z.cells m),hzl]
 have hown:(w.drew.alloc (.cells (xs.toArray++Builtin.zeroCells z.cells m++Builtin.zeroCells z.cells (grownCap w (m0+m) cap e- (m0+m))) e)).ownsRow w.heap.size e size (.slice (some ⟨w.heap.size,0,none⟩) (m0+m) (grownCap w (m0+m) cap e)) (m0+m) (xs++(Builtin.zeroCells z.cells m).toList):=by
  refine ⟨hlen,.inr ⟨w.heap.size,_,_,rfl,Nat.le_refl _,World.alloc_heap_new w.drew _,h1,h2,?_,?_⟩⟩
  ·simp only [Array.size_append,List.size_toArray,size_zeroCells,ei.hz,hrs.1,←Nat.add_mul]
   congr 1
   omega
  ·simp only [Array.toList_append,List.append_assoc]
   rw [←List.append_assoc,←hlen]
   exact List.take_left
 unfold Oper.wp execOp
 simp only [hop,resolve,invoke,builtin,Sem.run_bind,Sem.run_pure,Result.andThen_ok,List.map_toArray,List.map_cons,List.map_nil,Z.eval hs,Z.eval hx,hr]
 rw [Oper.upon_value,hd]
 exact kk _ _ w.heap.size _ (Z.put hdn _) (I.callRow ((Below.refl _ _).drew.alloc (by simp) _) hown) h1
theorem Mem.growRow (h:Mem W w fs) {i g m m' c size:Nat} {e:TypeId} {xs:List Value} (hi:fs[i]?=some (.row (.slice (some ⟨g,0,none⟩) m c) m xs e size)) (h1:m≤m') (h2:m'≤c):∃ys:List Value,ys.length=(m'-m)*size∧Mem W w (fs.set i (.row (.slice (some ⟨g,0,none⟩) m' c) m' (xs++ys) e size)):=by
 have hb:=h.own hi
 obtain ⟨hl,h3⟩:=hb
 rcases h3 with ⟨h4,_⟩|⟨g',cap,cur,hv,hbb,hgg,hnc,hcm,hcs,ht⟩
 ·cases h4
 ·injection hv with hv hv2 hv3
  injection hv with hv
  injection hv with hv
  subst hv;subst hv3
  have e1:m'*size=m*size+(m'-m)*size:=by rw [←Nat.add_mul];congr 1;omega
  have e2:m'*size≤cur.toList.length:=by rw [Array.length_toList,hcs];exact Nat.mul_le_mul_right _ h2
  refine ⟨(cur.toList.drop (m*size)).take ((m'-m)*size),by rw [List.length_take,List.length_drop];omega,?_⟩
  have e3:xs++(cur.toList.drop (m*size)).take ((m'-m)*size)=cur.toList.take (m'*size):=by rw [←ht,e1,List.take_add]
  rw [e3]
  refine h.turn hi h.below (fun _ _ _=>rfl) ⟨by rw [List.length_take];omega,.inr ⟨g,c,cur,rfl,hbb,hgg,h2,hcm,hcs,rfl⟩⟩ (fun g' hg'=> .inl hg')
theorem Mem.cutR (h:Mem W w fs) {i g m m' c size:Nat} {e:TypeId} {xs ys:List Value} (hi:fs[i]?=some (.row (.slice (some ⟨g,0,none⟩) m c) m xs e size)) (h1:m'≤m) (hy:xs.take (m'*size)=ys):Mem W w (fs.set i (.row (.slice (some ⟨g,0,none⟩) m' c) m' ys e size)):=by
 subst hy
 have h2:=h.shrink hi h1 (fun e=>by cases e)
 exact h2
theorem qmp (Z:Fr a n D σ) (I:Mem W w fs) {s x:Operand} {t e:TypeId} {z:Value} {size bytes i m0 m c c0 g:Nat} {ad:Addr} {xs news:List Value} (hop:o.op= .call {callee:= .builtin .append,args:= #[s,x],argTypes:= #[t,t]}) (ei:EI P t e z size bytes)
  (hs:look σ s=some (.slice (some ⟨g,0,none⟩) m0 c0)) (hx:look σ x=some (.slice (some ad) m c)) (hi:fs[i]?=some (.row (.slice (some ⟨g,0,none⟩) m0 c0) m0 xs e size)) (hl:news.length=m*size) (hcells:∀j v,news[j]?=some v→w.cell? (ad.add j)=some v) (hfit:m0+m≤c0) (h1:∀u∈news,u.oneCell'=true)
  (hd:o.dst=some d) (hdn:d<n) (k:∀a' w',Fr a' n D ((d,.slice (some ⟨g,0,none⟩) (m0+m) c0)::σ)→Mem W w' (fs.set i (.row (.slice (some ⟨g,0,none⟩) (m0+m) c0) (m0+m) (xs++news) e size))→K a' w'):o.wp P a w K Q:=by
 obtain ⟨ti,hti,hz,hsz,hby⟩:=info_parts ei.hi
 have hown:=I.own hi
 obtain ⟨hlen,h2⟩:=hown
 rcases h2 with ⟨h3,_⟩|⟨g',cap,cur,hv,hbb,hgg,hnc,hcm,hcs,ht⟩
 ·cases h3
 ·injection hv with hv hv2 hv3
  injection hv with hv
  injection hv with hv
  subst hv;subst hv3
  have hnl:news.length=m*ti.size:=by rw [hsz];exact hl
  obtain ⟨ys,hys,HM2⟩:=I.growRow hi (Nat.le_add_right m0 m) hfit
  have hlx:xs.length=m0*size:=hlen
  have HM3:=HM2.rowSet (off:=m0*size) (vs:=news) (List.getElem?_set_self (List.getElem?_eq_some_iff.1 hi).1) (by rw [List.length_append,hys,hlx,hl];rw [Nat.add_sub_cancel_left];exact Nat.le_refl _)
  have hth:=qaz HM2 (List.getElem?_set_self (List.getElem?_eq_some_iff.1 hi).1) (m0*size) news.length (by rw [List.length_append,hys,hlx,hl];rw [Nat.add_sub_cancel_left];exact Nat.le_refl _)
  have hf:=run_firstCells_some (P:=P) w ti.size m ad m c news hnl hcells
  have hst:=run_storeCells_cells (P:=P) g (m0*ti.size) news 0 w (fun j hj=>by rw [hsz];have h:=(hth j hj).1;simpa only [Nat.add_zero] using h) (fun j hj=>by rw [hsz];have h:=(hth j hj).2;simpa only [Nat.add_zero] using h) h1
  simp only [Nat.add_zero] at hst
  have hrun:(Builtin.append_ #[t,t] o.type #[.slice (some ⟨g,0,none⟩) m0 c0,.slice (some ad) m c]).run P w= .ok (.slice (some ⟨g,0,none⟩) (m0+m) c0) (w.setCells g (m0*ti.size) news):=by
   simp [Builtin.append_,run_underlying ei.ht,sizeOf,typeInfo,hti,Builtin.lenOf,hfit,hf,Addr.add_mid,hst]
  rw [List.set_set] at HM3
  have e2:putAt (xs++ys) (m0*size) news=xs++news:=by
   unfold putAt
   rw [←hlx,List.take_left,List.drop_of_length_le (by rw [List.length_append,hys,hl,Nat.add_sub_cancel_left];exact Nat.le_refl _),List.append_nil]
  rw [e2] at HM3
  rw [hsz] at hrun
  unfold Oper.wp execOp
  simp only [hop,resolve,invoke,builtin,Sem.run_bind,Sem.run_pure,Result.andThen_ok,List.map_toArray,List.map_cons,List.map_nil,Z.eval hs,Z.eval hx,hrun,Oper.upon_value,hd]
  exact k _ _ (Z.put hdn _) HM3
theorem qwb (Z:Fr a n D σ) (I:Mem W w fs) {f:FuncId} {xs:Array Operand} {ts:Array TypeId} {vs:List Value} (hop:o.op= .call {callee:= .value (.func f),args:=xs,argTypes:=ts}) (hv:looks σ xs.toList=some vs) (hrun:(callFunc f vs.toArray).run P w= .ok (.value v) w) (hd:o.dst=some d) (hdn:d<n)
  (k:∀a',Fr a' n D ((d,v)::σ)→K a' w):o.wp P a w K Q:=by
 have e1:xs.map a.eval=vs.toArray:=by
  have:=qbl Z hv
  rw [←this,←Array.toList_map,Array.toArray_toList]
 unfold Oper.wp execOp
 simp only [hop,resolve,Act.eval,Deferred.ofValue,invoke,Sem.run_bind,Sem.run_pure,Result.andThen_ok]
 have e3: #[]++Array.map a.eval xs++ #[]=vs.toArray:=by simp [e1]
 show Oper.upon P o a K Q (((callFunc f (#[]++Array.map a.eval xs++ #[])).run P w))
 rw [e3,hrun,Oper.upon_value,hd]
 exact k _ (Z.put hdn _)
theorem qku (I:Mem W w fs) {i j gv g off lb cb m c:Nat} {cs:Array Value} {xs:List Value} {t e r tv:TypeId} {size:Nat} {z:Value} {bytes:Nat} (ei:EI P t e z size bytes) (hv:fs[i]?=some (.blk gv cs tv)) (hi:fs[j]?=some (.row (.slice (some ⟨g,0,none⟩) m c) m xs e size)) (hij:i≠j) (hm:0<c) (ln lc:Nat):
  (Extern.SlicesOverlaps.overlaps #[t,t] #[r] #[.slice (some ⟨gv,0,none⟩) ln lc,.slice (some ⟨g,off,none⟩) lb cb]).run P w= .ok (.bool false) w:=by
 obtain ⟨ti,hti,hz,hsz,hby⟩:=info_parts ei.hi
 have hb:=I.blk hv
 obtain ⟨hl,h3⟩:=I.own hi
 rcases h3 with ⟨h4,_⟩|⟨g',cap,cur,hvv,hbb,hgg,hnc,hcm,hcs,ht⟩
 ·cases h4
 ·injection hvv with hv1 hv2 hv3
  injection hv1 with hv1
  injection hv1 with hv1
  subst hv1;subst hv3
  have hne:gv≠g:=by
   intro e
   subst e
   obtain ⟨hil,hie⟩:=List.getElem?_eq_some_iff.1 hv
   obtain ⟨hjl,hje⟩:=List.getElem?_eq_some_iff.1 hi
   rcases Nat.lt_or_gt_of_ne hij with h5|h5
   ·have:=List.pairwise_iff_getElem.1 I.apart i j hil hjl h5
    rw [hie,hje] at this
    exact this gv rfl rfl
   ·have:=List.pairwise_iff_getElem.1 I.apart j i hjl hil h5
    rw [hie,hje] at this
    exact this gv rfl rfl
  have hpos:=ei.hs
  exact Lib.run_overlaps_apart w t r e ei.ht size (fun w=>by simp [sizeOf,typeInfo,hti,hsz]) ⟨gv,0,none⟩ ⟨g,off,none⟩ ln lc lb cb hne tv e cs.size cur.size (by simp [World.shape?,hb]) (by simp [World.shape?,hgg]) (by rw [hcs];exact Nat.mul_ne_zero om om) (by simp [World.frozen?,hb]) (by simp [World.frozen?,hb])
end
theorem qej {a b c:List Value}:putAt (a++b) a.length c=a++c++b.drop c.length:=by
 unfold putAt
 rw [List.take_left,←List.drop_drop,List.drop_left]
theorem qp2 {a b c:List Value} {k:Nat}:putAt (a++b) (a.length+k) c=a++putAt b k c:=by
 unfold putAt
 rw [List.take_append,List.take_of_length_le (Nat.le_add_right _ _),Nat.add_sub_cancel_left,show a.length+k+c.length=a.length+(k+c.length) by omega,List.drop_append,List.drop_of_length_le (Nat.le_add_right _ _),List.nil_append,Nat.add_sub_cancel_left]
 simp only [List.append_assoc]
def grL (x:Gr):List Value:=[.int .i64 x.parent,.int .i64 x.weight]
def tkL (x:Tk):List Value:=[.int .i64 x.id,.int .i64 x.group,.int .i64 x.weight,.int .i64 x.cpu,.int .u64 (x.mask:Int),.bool x.ready,.int .u64 (x.v:Int),.int .u32 (x.r:Int)]
def spL (x:Sp):List Value:=[.int .u64 (x.v:Int),.int .u32 (x.r:Int),.int .u64 (x.floor:Int)]
def Gr.cells (x:Gr):Array Value:= #[.int .i64 x.parent,.int .i64 x.weight]
def Tk.cells (x:Tk):Array Value:= #[.int .i64 x.id,.int .i64 x.group,.int .i64 x.weight,.int .i64 x.cpu,.int .u64 (x.mask:Int),.bool x.ready,.int .u64 (x.v:Int),.int .u32 (x.r:Int)]
def Sp.cells (x:Sp):Array Value:= #[.int .u64 (x.v:Int),.int .u32 (x.r:Int),.int .u64 (x.floor:Int)]
theorem zm (x:Gr):(grL x).length=2:=rfl
theorem qf (x:Tk):(tkL x).length=8:=rfl
theorem qcu (x:Sp):(spL x).length=3:=rfl
theorem qyx (x:Gr):∀v∈x.cells.toList,v.oneCell'=true:=by simp [Gr.cells,Value.oneCell']
theorem qid (x:Tk):∀v∈x.cells.toList,v.oneCell'=true:=by simp [Tk.cells,Value.oneCell']
theorem qyy (x:Sp):∀v∈x.cells.toList,v.oneCell'=true:=by simp [Sp.cells,Value.oneCell']
structure Rw where
 A:Option Addr
 c:Nat
 l:List Sp
def Rw.zero:Rw:=⟨none,0,[]⟩
def Rw.val (x:Rw):Value:= .slice x.A x.l.length x.c
def Rw.own (x:Rw):Own:=⟨x.A,x.l.length,x.c,x.l.flatMap spL⟩
structure Stm where
 cpus:Int
 credit:Nat
 gA:Option Addr
 gc:Nat
 gs:List Gr
 lA:Option Addr
 lc:Nat
 cl:List Int
 uA:Option Addr
 uc:Nat
 cu:List Int
 tA:Option Addr
 tc:Nat
 ts:List Tk
 sA:Option Addr
 sc:Nat
 rs:List Rw
def Stm.sta (x:Stm):Sta:=⟨x.cpus,x.credit,x.gs,x.cl,x.cu,x.ts,x.rs.map Rw.l⟩
def Stm.cells (x:Stm):Array Value:= #[.int .i64 x.cpus,.int .u64 (x.credit:Int),.slice x.gA x.gs.length x.gc,.slice x.lA x.cl.length x.lc,.slice x.uA x.cu.length x.uc,.slice x.tA x.ts.length x.tc,.slice x.sA x.rs.length x.sc]
theorem qfb (x:Stm):∀v∈x.cells.toList,v.oneCell'=true:=by simp [Stm.cells,Value.oneCell']
structure StRd (w:World) (x:Stm):Prop where
 g:Rd w w.heap.size 2 x.gA x.gs.length (x.gs.flatMap grL)
 l:Rd w w.heap.size 1 x.lA x.cl.length (x.cl.map I64i)
 u:Rd w w.heap.size 1 x.uA x.cu.length (x.cu.map I64i)
 t:Rd w w.heap.size 8 x.tA x.ts.length (x.ts.flatMap tkL)
 s:Rd w w.heap.size 1 x.sA x.rs.length (x.rs.map Rw.val)
 r:∀y∈x.rs,Rd w w.heap.size 3 y.A y.l.length (y.l.flatMap spL)
structure StCap (x:Stm):Prop where
 g:x.gs.length≤x.gc
 l:x.cl.length≤x.lc
 u:x.cu.length≤x.uc
 t:x.ts.length≤x.tc
 s:x.rs.length≤x.sc
 r:∀y∈x.rs,y.l.length≤y.c
structure StFew (x:Stm):Prop where
 g:x.gs.length≤1000000
 l:x.cl.length≤1000000
 u:x.cu.length≤1000000
 t:x.ts.length≤1000000
 s:x.rs.length≤1000000
 r:∀y∈x.rs,y.l.length≤1000000
theorem StRd.old {W w:World} {fs:List Fact} {x:Stm} (h:StRd W x) (I:Mem W w fs):StRd w x:=⟨I.old h.g,I.old h.l,I.old h.u,I.old h.t,I.old h.s,fun y hy=>I.old (h.r y hy)⟩
theorem rs_at {x:Stm} {g:Nat} (h:g<x.rs.length):x.sta.sp.getD g []=(x.rs.getD g Rw.zero).l:=by
 show (x.rs.map Rw.l).getD g []=_
 rw [List.getD_eq_getElem?_getD,List.getD_eq_getElem?_getD,List.getElem?_map,List.getElem?_eq_getElem h]
 rfl
theorem StRd.row {w:World} {x:Stm} (h:StRd w x) {g:Nat} (hg:g<x.rs.length):Rd w w.heap.size 3 (x.rs.getD g Rw.zero).A (x.rs.getD g Rw.zero).l.length ((x.rs.getD g Rw.zero).l.flatMap spL):=h.r _ (qd Rw.zero hg)
theorem si_gr:SI Tryz.prog 110 2:=⟨by kernel_rfl,by kernel_rfl⟩
theorem si_tk:SI Tryz.prog 61 8:=⟨by kernel_rfl,by kernel_rfl⟩
theorem si_sp:SI Tryz.prog 63 3:=⟨by kernel_rfl,by kernel_rfl⟩
theorem qab:SI Tryz.prog 33 3:=⟨by kernel_rfl,by kernel_rfl⟩
theorem si_st:SI Tryz.prog 38 7:=⟨by kernel_rfl,by kernel_rfl⟩
theorem qk:SI Tryz.prog 168 3:=⟨by kernel_rfl,by kernel_rfl⟩
theorem qu:SI Tryz.prog 40 8:=⟨by kernel_rfl,by kernel_rfl⟩
theorem ei_gr:EI Tryz.prog 31 110 (.agg Gr.zero.cells) 2 16:=⟨by kernel_rfl,by kernel_rfl,rfl,by omega⟩
theorem ei_tk:EI Tryz.prog 35 61 (.agg Tk.zero.cells) 8 64:=⟨by kernel_rfl,by kernel_rfl,rfl,by omega⟩
theorem ei_sp:EI Tryz.prog 64 63 (.agg Sp.zero.cells) 3 24:=⟨by kernel_rfl,by kernel_rfl,rfl,by omega⟩
theorem ei_rw:EI Tryz.prog 36 64 (.slice none 0 0) 1 24:=⟨by kernel_rfl,by kernel_rfl,rfl,by omega⟩
section
variable {w w':World} {p q:Prop} [Decidable p] [Decidable q]
theorem qfs (h:q↔p) (hb:Below w.heap.size w w'):Is w (.bool (decide p)) (.returned (.bool (decide q))) w':=⟨by rw [decide_eq_decide.2 h],hb⟩
theorem qgq (h:p) (hb:Below w.heap.size w w'):Is w (.bool (decide p)) (.returned (.bool true)) w':=⟨by rw [decide_eq_true h],hb⟩
theorem is_no (h:¬p) (hb:Below w.heap.size w w'):Is w (.bool (decide p)) (.returned (.bool false)) w':=⟨by rw [decide_eq_false h],hb⟩
theorem is_as {a b:Bool} (h:a=b) (hb:Below w.heap.size w w'):Is w (.bool b) (.returned (.bool a)) w':=h▸ ⟨rfl,hb⟩
end
theorem qjf {l:List Gr} (h:¬(1≤l.length∧l.length≤256∧l.getD 0 Gr.zero=⟨0,1⟩)):gsOk l=false:=by unfold gsOk;rw [decide_eq_false h,Bool.false_and]
theorem qjg {l:List Gr} {g:Nat} (hg:g<l.length) (h:gOk l g=false):gsOk l=false:=by unfold gsOk;rw [qbu hg h,Bool.and_false]
theorem qwg {l:List Gr} (h:1≤l.length∧l.length≤256∧l.getD 0 Gr.zero=⟨0,1⟩) (hu:UpTo l.length (gOk l)):gsOk l=true:=by unfold gsOk;rw [decide_eq_true h,hu.all];rfl
theorem qwh (l:List Gr):gOk l 0=true:=rfl
theorem qoh {l:List Gr} {g:Nat} (h0:0<g) (h:¬(0≤(l.getD g Gr.zero).parent∧(l.getD g Gr.zero).parent<g∧(1≤(l.getD g Gr.zero).weight∧(l.getD g Gr.zero).weight≤65536)∧depG l g≤4)):gOk l g=false:=by
 unfold gOk wOk
 rw [Bool.or_eq_false_iff,beq_eq_false_iff_ne,decide_eq_false_iff_not,decide_eq_true_eq]
 exact ⟨by omega,h⟩
theorem qz0 {l:List Gr} {g:Nat} (h:0≤(l.getD g Gr.zero).parent∧(l.getD g Gr.zero).parent<g∧(1≤(l.getD g Gr.zero).weight∧(l.getD g Gr.zero).weight≤65536)∧depG l g≤4):gOk l g=true:=by
 unfold gOk wOk
 rw [Bool.or_eq_true,decide_eq_true_eq,decide_eq_true_eq]
 exact .inr h
theorem qsy {l:List Gr} {g:Nat} (hu:UpTo g (gOk l)) (h:0≤(l.getD g Gr.zero).parent∧(l.getD g Gr.zero).parent<g):∀i,0<i→i≤g→ParB l i:=fun i h0 hi=>by
 rcases Nat.lt_or_ge i g with h1|h1
 ·exact qmq (hu i h1) h0
 ·obtain rfl:i=g:=by omega
  exact h
theorem qam {l:List Gr} (h:gsOk l=true) {g:Nat} (hg:g<l.length):∀i,0<i→i≤g→ParB l i:=fun i h0 hi=>qmq ((qq h).2.2.2 i om) h0
theorem qoi (x y:Gr):zc Tryz.prog 4 110 (.agg x.cells) (.agg y.cells)=some (decide (x=y)):=by
 have h:zc Tryz.prog 4 110 (.agg x.cells) (.agg y.cells)=some ((x.parent==y.parent)&& ((x.weight==y.weight)&&true)):=by kernel_rfl
 refine h.trans (congrArg some ?_)
 obtain ⟨a,b⟩:=x
 obtain ⟨c,d⟩:=y
 rw [Bool.eq_iff_iff]
 simp only [Bool.and_eq_true,beq_iff_eq,decide_eq_true_eq,Gr.mk.injEq,and_true]
theorem qz1 {m n:Nat} (h:1≤n):(((m/2^ (n-1)/2:Nat):Int) !=(0:Int))=decide (2^n≤m):=by
 have e:m/2^ (n-1)/2=m/2^n:=by rw [Nat.div_div_eq_div_mul,←Nat.pow_succ,show (n-1).succ=n by omega]
 rw [e,Bool.eq_iff_iff,bne_iff_ne,decide_eq_true_eq]
 have h1:= @Nat.div_pos_iff m (2^n)
 have h2:0<2^n:=Nat.two_pow_pos n
 generalize m/2^n=q at*
 constructor
 ·intro h3
  exact (h1.1 om).2
 ·intro h3
  have:=h1.2 ⟨h2,h3⟩
  omega
section
variable {x:Stm} {t:Tk}
theorem qie (h:¬(1≤t.id∧t.id≤65535∧0≤t.group∧t.group<x.rs.length∧0≤t.cpu∧t.cpu<x.cpus)):tkOk1 x.sta t=false:=by
 unfold tkOk1
 rw [decide_eq_false (by rwa [show x.sta.sp.length=x.rs.length from List.length_map ..]),Bool.false_and]
theorem q2f (h:¬(1≤t.weight∧t.weight≤65536)):tkOk1 x.sta t=false:=by unfold tkOk1 wOk;rw [decide_eq_false h,Bool.false_and,Bool.and_false]
theorem q2g (h:2^x.cpus.toNat≤t.mask):tkOk1 x.sta t=false:=by
 unfold tkOk1 qdw
 rw [show decide (2^x.sta.cpus.toNat≤t.mask)=true from decide_eq_true h]
 simp
theorem q2h (h:¬t.mask/2^t.cpu.toNat%2=1):tkOk1 x.sta t=false:=by unfold tkOk1;rw [decide_eq_false h];simp
theorem q2i (h:1≤t.id∧t.id≤65535∧0≤t.group∧t.group<x.rs.length∧0≤t.cpu∧t.cpu<x.cpus) (h2:1≤t.weight∧t.weight≤65536) (h3:¬2^x.cpus.toNat≤t.mask) (h4:t.mask/2^t.cpu.toNat%2=1):tkOk1 x.sta t=entOk t.v t.r t.weight:=by
 unfold tkOk1 wOk qdw
 rw [decide_eq_true (by rwa [show x.sta.sp.length=x.rs.length from List.length_map ..]),decide_eq_true h2,show decide (2^x.sta.cpus.toNat≤t.mask)=false from decide_eq_false h3,decide_eq_true h4]
 simp
theorem qsz (h:¬(1≤x.cpus∧x.cpus≤64∧x.credit≤1099511627776)):cfgOk x.sta=false:=by unfold cfgOk;rw [show decide (1≤x.sta.cpus∧x.sta.cpus≤64∧x.sta.credit≤1099511627776)=false from decide_eq_false h];rfl
theorem qz2 (h:1≤x.cpus∧x.cpus≤64∧x.credit≤1099511627776):cfgOk x.sta=gsOk x.gs:=by unfold cfgOk;rw [show decide (1≤x.sta.cpus∧x.sta.cpus≤64∧x.sta.credit≤1099511627776)=true from decide_eq_true h];rfl
theorem zq (h:cfgOk x.sta=true):1≤x.cpus∧x.cpus≤64∧x.credit≤1099511627776∧gsOk x.gs=true:=by
 unfold cfgOk at h
 rw [Bool.and_eq_true,decide_eq_true_eq] at h
 exact ⟨h.1.1,h.1.2.1,h.1.2.2,h.2⟩
end
def BadAt (w:World) (n:Nat) (p:Nat→Bool) (r:Ending) (w':World):Prop:=(∃i:Int,r= .returned (.int .i64 i)∧decide (i≥0)= !allN n p)∧Below w.heap.size w w'
theorem qp4 {w w':World} {n k:Nat} {p:Nat→Bool} (hk:k<n) (h:p k=false) (hb:Below w.heap.size w w'):BadAt w n p (.returned (.int .i64 (k:Int))) w':=⟨⟨k,rfl,by rw [qbu hk h,decide_eq_true om];rfl⟩,hb⟩
theorem qp5 {w w':World} {n:Nat} {p:Nat→Bool} (hu:UpTo n p) (hb:Below w.heap.size w w'):BadAt w n p (.returned (.int .i64 (-1))) w':=⟨⟨-1,rfl,by rw [hu.all];rfl⟩,hb⟩
def qgr (w:World) (l:List Gr) (r:Ending) (w':World):Prop:=(∃i e:Int,r= .returned (.tuple #[.int .i64 i,.int .i64 e])∧((e==0)=gsOk l))∧Below w.heap.size w w'
theorem qaw {w w':World} {l:List Gr} {i e:Int} (h:gsOk l=false) (he:e≠0) (hb:Below w.heap.size w w'):qgr w l (.returned (.tuple #[.int .i64 i,.int .i64 e])) w':=⟨⟨i,e,rfl,by rw [h];exact beq_false_of_ne he⟩,hb⟩
theorem qm0 {w w':World} {l:List Gr} {i:Int} (h:gsOk l=true) (hb:Below w.heap.size w w'):qgr w l (.returned (.tuple #[.int .i64 i,.int .i64 0])) w':=⟨⟨i,0,rfl,by rw [h];rfl⟩,hb⟩
section
variable {x:Stm} {g c i:Nat}
theorem zh:x.sta.sp.length=x.rs.length:=List.length_map ..
theorem qm1:qoe x.sta=decide ((x.cl.length:Int)=x.cpus∧(x.cu.length:Int)=x.cpus∧x.rs.length=x.gs.length):=by unfold qoe;rw [zh];rfl
theorem q2j (h:cfgOk x.sta=false):zd x.sta=false:=by unfold zd;rw [h];rfl
theorem qs0 (h:¬((x.cl.length:Int)=x.cpus∧(x.cu.length:Int)=x.cpus∧x.rs.length=x.gs.length)):zd x.sta=false:=by unfold zd;rw [qm1,decide_eq_false h,Bool.and_false,Bool.false_and]
theorem sh_cl (h:allN x.cl.length (fun c=>clOk (x.cl.getD c 0))=false):zd x.sta=false:=by unfold zd;rw [show allN x.sta.cl.length (fun c=>clOk (x.sta.cl.getD c 0))=false from h];simp
theorem qy0 (hg:g<x.rs.length) (h:rowOk x.sta g=false):zd x.sta=false:=by unfold zd;rw [qbu (n:=x.sta.sp.length) (by rwa [zh]) h];simp
theorem sh_tk (hi:i<x.ts.length) (h:tkAt x.sta i=false):zd x.sta=false:=by unfold zd;rw [qbu (n:=x.sta.ts.length) hi h];simp
theorem q2k (h1:cfgOk x.sta=true) (h2:(x.cl.length:Int)=x.cpus∧(x.cu.length:Int)=x.cpus∧x.rs.length=x.gs.length) (h3:allN x.cl.length (fun c=>clOk (x.cl.getD c 0))=true) (h4:UpTo x.rs.length (rowOk x.sta)) (h5:UpTo x.ts.length (tkAt x.sta)):zd x.sta=true:=by
 unfold zd
 rw [h1,qm1,decide_eq_true h2,show allN x.sta.cl.length (fun c=>clOk (x.sta.cl.getD c 0))=true from h3,zh,h4.all,show allN x.sta.ts.length (tkAt x.sta)=true from h5.all]
 rfl
structure ShAt (x:Stm):Prop where
 cfg:cfgOk x.sta=true
 cl:(x.cl.length:Int)=x.cpus
 cu:(x.cu.length:Int)=x.cpus
 rs:x.rs.length=x.gs.length
 cls:∀c,c<x.cl.length→clOk (x.cl.getD c 0)=true
 row:∀g,g<x.rs.length→rowOk x.sta g=true
 tk:∀i,i<x.ts.length→tkAt x.sta i=true
theorem sh_at (h:zd x.sta=true):ShAt x:=by
 unfold zd at h
 simp only [Bool.and_eq_true] at h
 obtain ⟨⟨h1,h2⟩,h3,h4,h5⟩:=h
 rw [qm1,decide_eq_true_eq] at h2
 rw [zh] at h4
 exact ⟨h1,h2.1,h2.2.1,h2.2.2,fun c hc=>qbn h3 hc,fun g hg=>qbn h4 hg,fun i hi=>qbn h5 hi⟩
theorem qoj (hg:g<x.rs.length):rowOk x.sta g=(decide (((x.rs.getD g Rw.zero).l.length:Int)=x.cpus)&&allN (x.rs.getD g Rw.zero).l.length fun c=>spOk x.sta g ((x.rs.getD g Rw.zero).l.getD c Sp.zero)):=by
 unfold rowOk Sta.spot
 rw [rs_at hg]
 rfl
theorem qz3 (hg:g<x.rs.length) (h:((x.rs.getD g Rw.zero).l.length:Int)≠x.cpus):rowOk x.sta g=false:=by rw [qoj hg,decide_eq_false h];rfl
theorem qz4 (hg:g<x.rs.length) (hc:c<(x.rs.getD g Rw.zero).l.length) (h:spOk x.sta g ((x.rs.getD g Rw.zero).l.getD c Sp.zero)=false):rowOk x.sta g=false:=by rw [qoj hg,qbu hc h,Bool.and_false]
theorem qs1 (hg:g<x.rs.length) (h:((x.rs.getD g Rw.zero).l.length:Int)=x.cpus) (hu:UpTo (x.rs.getD g Rw.zero).l.length (fun c=>spOk x.sta g ((x.rs.getD g Rw.zero).l.getD c Sp.zero))):rowOk x.sta g=true:=by rw [qoj hg,decide_eq_true h,hu.all];rfl
theorem qgs (hg:g<x.rs.length) (h:rowOk x.sta g=true):((x.rs.getD g Rw.zero).l.length:Int)=x.cpus∧∀c,c<(x.rs.getD g Rw.zero).l.length→spOk x.sta g ((x.rs.getD g Rw.zero).l.getD c Sp.zero)=true:=by
 rw [qoj hg,Bool.and_eq_true,decide_eq_true_eq] at h
 exact ⟨h.1,fun c hc=>qbn h.2 hc⟩
variable {z:Sp}
theorem q2l (h:entOk z.v z.r (x.gs.getD g Gr.zero).weight=false):spOk x.sta g z=false:=by unfold spOk;rw [show entOk z.v z.r (x.sta.gs.getD g Gr.zero).weight=false from h];rfl
theorem q2m (h0:g=0) (h:¬(z.v=0∧z.r=0)):spOk x.sta g z=false:=by unfold spOk;rw [decide_eq_false h,h0];simp
theorem qz5 (h:entOk z.v z.r (x.gs.getD g Gr.zero).weight=true) (h0:g≠0):spOk x.sta g z=true:=by unfold spOk;rw [show entOk z.v z.r (x.sta.gs.getD g Gr.zero).weight=true from h];simp [h0]
theorem qz6 (h:entOk z.v z.r (x.gs.getD g Gr.zero).weight=true) (h0:g=0) (hv:z.v=0):((z.r:Int) !=(0:Int))= !spOk x.sta g z:=by
 unfold spOk
 rw [show entOk z.v z.r (x.sta.gs.getD g Gr.zero).weight=true from h,h0,hv]
 rw [Bool.eq_iff_iff,bne_iff_ne]
 simp
theorem qs2 (h0:i=0∨(x.ts.getD (i-1) Tk.zero).id<(x.ts.getD i Tk.zero).id):tkAt x.sta i=tkOk1 x.sta (x.ts.getD i Tk.zero):=by
 unfold tkAt
 rw [show (i==0||decide ((x.sta.ts.getD (i-1) Tk.zero).id<(x.sta.ts.getD i Tk.zero).id))=true from by rw [Bool.or_eq_true,beq_iff_eq,decide_eq_true_eq];exact h0]
 rfl
theorem qwi (h0:0<i) (h:¬(x.ts.getD (i-1) Tk.zero).id<(x.ts.getD i Tk.zero).id):tkAt x.sta i=false:=by
 unfold tkAt
 rw [show decide ((x.sta.ts.getD (i-1) Tk.zero).id<(x.sta.ts.getD i Tk.zero).id)=false from decide_eq_false h,show (i==0)=false from by rw [beq_eq_false_iff_ne];omega]
 rfl
theorem qgt (h:tkAt x.sta i=true):(i=0∨(x.ts.getD (i-1) Tk.zero).id<(x.ts.getD i Tk.zero).id)∧tkOk1 x.sta (x.ts.getD i Tk.zero)=true:=by
 unfold tkAt at h
 rw [Bool.and_eq_true,Bool.or_eq_true,beq_iff_eq,decide_eq_true_eq] at h
 exact h
end
theorem wt_at {l:List Gr} (h:gsOk l=true) {g:Nat} (hg:g<l.length):1≤(l.getD g Gr.zero).weight∧(l.getD g Gr.zero).weight≤65536:=by
 obtain ⟨_,_,h3,h4⟩:=qq h
 rcases Nat.eq_zero_or_pos g with h0|h0
 ·subst h0;rw [h3];decide
 ·have:=h4 g hg
  unfold gOk wOk at this
  rw [Bool.or_eq_true,beq_iff_eq,decide_eq_true_eq,decide_eq_true_eq] at this
  rcases this with h|h
  ·omega
  ·exact h.2.2.1
def cmpI (a b:Int):Int:=if a<b then -1 else if b<a then 1 else 0
theorem qs3 {a b:Int}:decide (cmpI a b<0)=decide (a<b):=by
 unfold cmpI
 split
 ·rename_i h;rw [decide_eq_true h];rfl
 ·rename_i h;rw [decide_eq_false h];split<;>rfl
theorem qs4 {a b:Int}:(cmpI a b==0)=decide (a=b):=by
 unfold cmpI
 split
 ·rename_i h;rw [decide_eq_false om];rfl
 ·split
  ·rw [decide_eq_false om];rfl
  ·rw [decide_eq_true om];rfl
theorem qz7 {a b:Int}:(cmpI a b !=0)=decide (a≠b):=by
 rw [bne,qs4,decide_not]
def SortT (l:List Tk):Prop:=∀i j,i<j→j<l.length→(l.getD i Tk.zero).id<(l.getD j Tk.zero).id
theorem qs5 {x:Stm} (h:ShAt x):SortT x.ts:=by
 have step:∀i,i+1<x.ts.length→(x.ts.getD i Tk.zero).id<(x.ts.getD (i+1) Tk.zero).id:=fun i hi=>by
  have:=(qgt (h.tk (i+1) hi)).1
  rw [Nat.add_sub_cancel] at this
  rcases this with h|h
  ·omega
  ·exact h
 intro i j hij
 induction j with
 |zero=>omega
 | succ j ih =>
  intro hj
  have h1:=step j hj
  rcases Nat.lt_or_ge i j with h2|h2
  ·have:=ih h2 om;omega
  ·obtain rfl:i=j:=by omega
   exact h1
theorem qgu {l:List Tk} {id:Int} {i:Nat} (hi:i<l.length) (h:(l.getD i Tk.zero).id=id) (hn:∀k,k<i→(l.getD k Tk.zero).id≠id):findS l id=some i:=by
 unfold findS
 rw [List.findIdx?_eq_some_iff_getElem]
 have e:∀k (hk:k<l.length),l.getD k Tk.zero=l[k]:=fun k hk=>by rw [List.getD_eq_getElem?_getD,List.getElem?_eq_getElem hk];rfl
 refine ⟨hi,by rw [←e i hi];exact beq_iff_eq.2 h,fun k hk=>?_⟩
 have:=hn k hk
 rw [e k om] at this
 simpa using this
theorem qk0 {l:List Tk} {id:Int} (hn:∀k,k<l.length→(l.getD k Tk.zero).id≠id):findS l id=none:=by
 unfold findS
 rw [List.findIdx?_eq_none_iff]
 intro t ht
 obtain ⟨k,hk,rfl⟩:=List.getElem_of_mem ht
 have:=hn k hk
 rw [List.getD_eq_getElem?_getD,List.getElem?_eq_getElem hk] at this
 simpa using this
theorem qs6 {l:List Tk} {id:Int} {i:Nat} (h:findS l id=some i):i<l.length∧(l.getD i Tk.zero).id=id:=by
 unfold findS at h
 rw [List.findIdx?_eq_some_iff_getElem] at h
 obtain ⟨hi,h1,_⟩:=h
 exact ⟨hi,by rw [List.getD_eq_getElem?_getD,List.getElem?_eq_getElem hi];exact beq_iff_eq.1 h1⟩
def fidx (l:List Tk) (id:Int):Int:=match findS l id with
 |some i=>(i:Int)
 |none=> -1
def qf3 (w:World) (l:List Tk) (id:Int) (r:Ending) (w':World):Prop:=(∃(i:Nat) (b:Bool),r= .returned (.tuple #[.int .i64 (i:Int),.bool b])∧i≤l.length∧(if b=true then (i:Int) else -1)=fidx l id)∧Below w.heap.size w w'
theorem qs7 {w w':World} {l:List Tk} {id:Int} {i:Nat} (hs:SortT l) (hi:i<l.length) (h1:∀k,k<i→(l.getD k Tk.zero).id<id) (h2:∀k,i≤k→k<l.length→id≤(l.getD k Tk.zero).id) (hb:Below w.heap.size w w'):qf3 w l id (.returned (.tuple #[.int .i64 (i:Int),.bool (decide ((l.getD i Tk.zero).id=id))])) w':=by
 refine ⟨⟨i,_,rfl,by omega,?_⟩,hb⟩
 unfold fidx
 by_cases h:(l.getD i Tk.zero).id=id
 ·rw [decide_eq_true h,if_pos rfl,qgu hi h (fun k hk=>by have:=h1 k hk;omega)]
 ·rw [decide_eq_false h,if_neg de,qk0 (fun k hk=>?_)]
  rcases Nat.lt_or_ge k i with h3|h3
  ·have:=h1 k h3;omega
  ·have h4:=h2 i (Nat.le_refl _) hi
   rcases Nat.lt_or_ge i k with h5|h5
   ·have:=hs i k h5 hk;omega
   ·obtain rfl:k=i:=by omega
    exact h
theorem search_end {w w':World} {l:List Tk} {id:Int} (h1:∀k,k<l.length→(l.getD k Tk.zero).id<id) (hb:Below w.heap.size w w'):qf3 w l id (.returned (.tuple #[.int .i64 (l.length:Int),.bool false])) w':=by
 refine ⟨⟨_,_,rfl,Nat.le_refl _,?_⟩,hb⟩
 unfold fidx
 rw [if_neg de,qk0 (fun k hk=>by have:=h1 k hk;omega)]
theorem qom {x:Stm} {c:Nat} (h0:x.cu.getD c 0≠0) {i:Nat} (hi:findS x.ts (x.cu.getD c 0)=some i):curOk x.sta c=((x.ts.getD i Tk.zero).ready&&decide ((x.ts.getD i Tk.zero).cpu=c)):=by
 unfold curOk
 rw [show findS x.sta.ts (x.sta.cu.getD c 0)=some i from hi,show decide (x.sta.cu.getD c 0=0)=false from decide_eq_false h0]
 rfl
theorem qif {x:Stm} {c:Nat} (h0:x.cu.getD c 0≠0) (hi:findS x.ts (x.cu.getD c 0)=none):curOk x.sta c=false:=by
 unfold curOk
 rw [show findS x.sta.ts (x.sta.cu.getD c 0)=none from hi,show decide (x.sta.cu.getD c 0=0)=false from decide_eq_false h0]
 rfl
theorem qp6 {x:Stm} {c:Nat} (h0:x.cu.getD c 0=0):curOk x.sta c=true:=by
 unfold curOk
 rw [show decide (x.sta.cu.getD c 0=0)=true from decide_eq_true h0]
 rfl
theorem qfc (l:List Tk) (id:Int):(fidx l id= -1∧findS l id=none)∨∃i:Nat,fidx l id=i∧findS l id=some i∧i<l.length∧(l.getD i Tk.zero).id=id:=by
 unfold fidx
 cases h:findS l id with
 |none=>exact .inl ⟨rfl,rfl⟩
 |some i=>exact .inr ⟨i,rfl,rfl,qs6 h⟩
def Mb.nums (m:Mb):List Nat:=[m.v,m.k,m.id]
def Mb.cells (m:Mb):Array Value:= #[.int .u64 (m.v:Int),.int .u64 (m.k:Int),.int .u64 (m.id:Int)]
def Mb.Ok (m:Mb):Prop:=m.v<18446744073709551616∧m.k<18446744073709551616∧m.id<18446744073709551616
theorem qgv (x:Mb):∀v∈x.cells.toList,v.oneCell'=true:=by simp [Mb.cells,Value.oneCell']
theorem qwj {a b:Mb} {k:Nat} (hk:k<3) (he:∀i,i<k→a.nums.getD i 0=b.nums.getD i 0) (hn:a.nums.getD k 0≠b.nums.getD k 0):decide (cmpI (a.nums.getD k 0:Int) (b.nums.getD k 0:Int)<0)=a.lt b:=by
 rw [qs3]
 obtain ⟨a0,a1,a2⟩:=a
 obtain ⟨b0,b1,b2⟩:=b
 unfold Mb.lt
 rw [decide_eq_decide]
 dsimp only
 rcases k with _|_|_|k
 ·simp [Mb.nums] at hn⊢;omega
 ·have h0:=he 0 om
  simp [Mb.nums] at hn h0⊢;omega
 ·have h0:=he 0 om
  have h1:=he 1 om
  simp [Mb.nums] at hn h0 h1⊢;omega
 ·omega
theorem qwk {a b:Mb} (he:∀i,i<3→a.nums.getD i 0=b.nums.getD i 0):a.lt b=false:=by
 obtain ⟨a0,a1,a2⟩:=a
 obtain ⟨b0,b1,b2⟩:=b
 have h0:=he 0 om
 have h1:=he 1 om
 have h2:=he 2 om
 simp [Mb.nums] at h0 h1 h2
 subst h0;subst h1;subst h2
 unfold Mb.lt
 rw [decide_eq_false_iff_not]
 simp
def MbCmp (w:World) (a b:Mb) (r:Ending) (w':World):Prop:=(∃c:Int,r= .returned (.int .i64 c)∧decide (c<0)=a.lt b)∧Below w.heap.size w w'
theorem qp7 (b:Mb) (l:List Mb) (m:Mb):bestM b (l++[m])=if m.lt (bestM b l) then m else bestM b l:=by unfold bestM;rw [List.foldl_append];rfl
theorem qb5 {α β:Type} {f:α→Option β} {l:List α} {k:Nat} (d:α) (hk:k<l.length):(l.take (k+1)).filterMap f=(l.take k).filterMap f++(f (l.getD k d)).toList:=by
 rw [takeSnoc' d hk,List.filterMap_append]
 congr 1
where
 takeSnoc' {α:Type} {l:List α} {k:Nat} (d:α) (hk:k<l.length):l.take (k+1)=l.take k++[l.getD k d]:=by
  rw [List.take_add_one,List.getElem?_eq_getElem hk,List.getD_eq_getElem?_getD,List.getElem?_eq_getElem hk]
  rfl
theorem qwl {w w':World} {a b:Mb} {k:Nat} (hk:k<3) (he:∀i,i<k→a.nums.getD i 0=b.nums.getD i 0) (hn:a.nums.getD k 0≠b.nums.getD k 0) (hb:Below w.heap.size w w'):MbCmp w a b (.returned (.int .i64 (cmpI (a.nums.getD k 0:Int) (b.nums.getD k 0:Int)))) w':=⟨⟨_,rfl,qwj hk he hn⟩,hb⟩
theorem qwm {w w':World} {a b:Mb} (he:∀i,i<3→a.nums.getD i 0=b.nums.getD i 0) (hb:Below w.heap.size w w'):MbCmp w a b (.returned (.int .i64 0)) w':=⟨⟨_,rfl,by rw [qwk he];rfl⟩,hb⟩
theorem qm2 {n g h:Nat} (h1:g+1≤h) (h2:h<n):((List.range n).drop (g+1)).getD (h- (g+1)) 0=h∧h- (g+1)<((List.range n).drop (g+1)).length:=by
 have hl:h- (g+1)<((List.range n).drop (g+1)).length:=by simp;omega
 refine ⟨?_,hl⟩
 rw [List.getD_eq_getElem?_getD,List.getElem?_eq_getElem hl,List.getElem_drop,List.getElem_range]
 show g+1+(h- (g+1))=h
 omega
theorem qwn {β:Type} {f:Nat→Option β} {n g h:Nat} (h1:g+1≤h) (h2:h<n):(((List.range n).drop (g+1)).take (h+1- (g+1))).filterMap f=(((List.range n).drop (g+1)).take (h- (g+1))).filterMap f++(f h).toList:=by
 obtain ⟨e,hl⟩:=qm2 h1 h2
 have:=qb5 (f:=f) 0 hl
 rw [e] at this
 rw [show h+1- (g+1)=h- (g+1)+1 by omega]
 exact this
theorem qz8 {β:Type} {f:Nat→Option β} {n g:Nat}:(((List.range n).drop (g+1)).take (n- (g+1))).filterMap f=((List.range n).drop (g+1)).filterMap f:=by rw [List.take_of_length_le (by simp)]
section
variable {x:Stm} {g c h:Nat} {m:Nat→List Mb}
theorem qs8 (hp:(x.gs.getD h Gr.zero).parent≠g):grpM x.sta c m g h=none:=if_neg (fun hh=>hp hh.1)
theorem qs9 (hm:m h=[]):grpM x.sta c m g h=none:=if_neg (fun hh=>hh.2 hm)
theorem qwo (hr:h<x.rs.length) (hp:(x.gs.getD h Gr.zero).parent=g) (hm:m h≠[]):grpM x.sta c m g h=some ⟨((x.rs.getD h Rw.zero).l.getD c Sp.zero).v,1,h⟩:=by
 unfold grpM
 rw [if_pos ⟨hp,hm⟩]
 unfold Sta.spot
 rw [rs_at hr]
theorem r_no0 (h0:zd x.sta=false):zg x.sta=false:=by unfold zg;rw [h0];rfl
theorem r_no1 (hc:c<x.cu.length) (h:curOk x.sta c=false):zg x.sta=false:=by unfold zg;rw [qbu (n:=x.sta.cu.length) hc (by rw [h];rfl),Bool.and_false]
theorem r_no2 (hc:c<x.cu.length) (hg:g<x.rs.length) (h:lowS x.sta g c=false):zg x.sta=false:=by
 unfold zg
 rw [qbu (n:=x.sta.cu.length) hc (by rw [qbu (n:=x.sta.sp.length) (p:=fun g=>lowS x.sta g c) (i:=g) (by rwa [zh]) h,Bool.and_false]),Bool.and_false]
theorem r_yes (h0:zd x.sta=true) (hu:UpTo x.cu.length fun c=>curOk x.sta c&&allN x.rs.length fun g=>lowS x.sta g c):zg x.sta=true:=by
 unfold zg
 rw [h0,zh,show allN x.sta.cu.length _=true from hu.all]
 rfl
theorem qz9 (h:memS x.sta g c=[]):lowS x.sta g c=true:=decide_eq_true (.inl h)
theorem q2n (h:memS x.sta g c≠[]):lowS x.sta g c=decide ((bestM topM (memS x.sta g c)).v≤(x.sta.spot g c).floor):=by
 unfold lowS
 exact decide_eq_decide.2 ⟨fun hh=>hh.resolve_left h,.inr⟩
theorem qm3 (hr:g<x.rs.length):x.sta.spot g c=(x.rs.getD g Rw.zero).l.getD c Sp.zero:=by unfold Sta.spot;rw [rs_at hr]
end
theorem q0c {l:List Gr} {g:Nat} (h:∀i,0<i→i≤g→ParB l i):depG l g≤g:=by
 induction g using Nat.strongRecOn with
 | _ g ih =>
  rcases Nat.eq_zero_or_pos g with h0|h0
  ·subst h0;exact Nat.le_refl _
  ·have hg:=h g h0 (Nat.le_refl _)
   unfold ParB at hg
   have:=ih (l.getD g Gr.zero).parent.toNat om (fun i h1 h2=>h i h1 om)
   rw [qgm h h0]
   omega
theorem qk3 (x:Int) (w:World):Calls Tryz.prog 153 #[vI x] w (Is w (.bool (decide (1≤x∧x≤65536)))):=by
 refine (JN1 Tryz.func153 9) ?_
 refine (JP∘Jp 1∘Jr∘Jp 3) (Ji (fun hd5=>?_) fun hd5=>?_)
 ·
  exact (Jp 4∘Jd6∘Jj∘JZ∘Jz1) fun I=>qfs om I.below
 exact (Jp 4∘Jd6∘Jj∘JZ∘Jz1) fun I=>is_no om I.below
theorem qft (x:Int) (w:World):Calls Tryz.prog 145 #[vI x] w (Is w (.bool (decide (1≤x∧x≤65536)))):=by
 refine (JN1 Tryz.func145 9) ?_
 refine (JP∘Jp 1∘Jr∘Jp 3) (Ji (fun hd5=>?_) fun hd5=>?_)
 ·
  exact (Jp 4∘Jd6∘Jj∘JZ∘Jz1) fun I=>qfs om I.below
 exact (Jp 4∘Jd6∘Jj∘JZ∘Jz1) fun I=>is_no om I.below
theorem qbz (x:Int) (w:World):Calls Tryz.prog 102 #[vI x] w (Is w (.bool (decide (1≤x∧x≤65536)))):=by
 refine (JN1 Tryz.func102 9) ?_
 refine (JP∘Jp 1∘Jr∘Jp 3) (Ji (fun hd5=>?_) fun hd5=>?_)
 ·
  exact (Jp 4∘Jd6∘Jj∘JZ∘Jz1) fun I=>qfs om I.below
 exact (Jp 4∘Jd6∘Jj∘JZ∘Jz1) fun I=>is_no om I.below
theorem q0d (W w:World) (gg gl lp:Nat) (A:Option Addr) (c:Nat) (l:List Gr) (g:Nat) (Inv:Nat→List Fact→Prop) (F0:List Fact) (hr:Rd W W.heap.size 2 A l.length (l.flatMap grL)) (hn:l.length≤1000000) (hg:g<l.length) (hp:∀i,0<i→i≤g→ParB l i)
    (hy:qog Tryz.prog W lp (depG l g+1) Inv) (hI0:Inv 0 F0) (I:Mem W w (.blk gg #[vI g] 3:: .blk gl #[.slice A l.length c] 31::F0)):
    Calls Tryz.prog 165 (.func (.yield lp) #[] #[]:: [vP gg 0,vP gl 0]).toArray w (qsx W (Inv (depG l g+1))):=by
 refine s_ce Tryz.func165 [.func (.yield lp) #[] #[],vP gg 0,vP gl 0] [(0,.func (.yield lp) #[] #[]),(1,vP gg 0),(2,vP gl 0)] fun a Z=>?_
 refine Jb Z I ((JB) fun a Z I=>?_)
 refine qj (fun mS aS wS=>∃(x:Nat) (i:Nat) (F:List Fact),(Inv i F)∧(x≤g)∧(depG l x+i=depG l g)∧mS=0+x∧Fr aS 16 [] [(0,.func (.yield lp) #[] #[]),(1,vP gg 0),(2,vP gl 0)]∧Mem W wS (.blk gg #[vI x] 3:: .blk gl #[.slice A l.length c] 31::F)) (m:=0+g) ⟨g,0,F0,hI0,Nat.le_refl _,Nat.add_zero _,rfl,Z.sub kr,I.pt 2 [0,1]⟩ ?_
 clear Z I;rintro mS a w_ ⟨x,i,F,hI,hxg,hd,rfl,Z,I⟩
 refine Jb Z I ((JQ) fun a Z I=>?_)
 refine wp_seq ?_
 refine qkx (i:=2) ?_
 refine Jb Z I ((Jp 1∘Jc O0∘Jq) fun a Z I=>?_)
 refine qbx Z (i:=2) (vs:=[vI x]) rfl rfl rfl rfl rfl rfl de (hy i F [.blk gg #[vI x] 3,.blk gl #[.slice A l.length c] 31] _ (x:Int) hI om (Mem.qcz (es:=F) I)) q3 ?_
 clear Z I;rintro v w20 a ⟨F2,I,hv,hI2⟩ Z;injection hv with hv;subst hv
 replace I:Mem W w20 (.blk gg #[vI x] 3:: .blk gl #[.slice A l.length c] 31::F2):=Mem.qcz (es:=[.blk gg #[vI x] 3,.blk gl #[.slice A l.length c] 31]) I
 refine Jb Z I ((Jp 1∘Jc O0∘Jp 2∘Jd6∘Jq) (Ju (fun hb10=>?_) fun hb10=>?_))
 ·
  intro a Z I
  have hd10:=of_decide_eq_true hb10
  have hx0:0<x:=by omega
  obtain ⟨hp1,hp2⟩:=hp x hx0 hxg
  obtain ⟨y,hy2⟩:∃y:Nat,(l.getD x Gr.zero).parent=(y:Int):=⟨(l.getD x Gr.zero).parent.toNat,by omega⟩
  have hdx:=qgm (l:=l) (g:=x) (fun i h0 hi=>hp i h0 om) hx0
  rw [hy2,Int.toNat_natCast] at hdx
  refine Jb Z I ((JT∘JS'∘JB∘JR∘Jc O1∘Jc O0) ?_)
  repeat (first|clear Z|clear I)
  intro a Z I
  obtain ⟨gA,oA,rfl,_⟩:=hr.qm (Nat.lt_of_le_of_lt (Nat.zero_le _) (show x<l.length from by omega)) de
  refine Jb Z I ((Jy (h:=by exact Yl.ix gA oA x 2 rfl rfl rfl)∘Jf 0∘Jy (v:=vI ((l.getD x Gr.zero).parent)) (h:=by exact Yl.qe rfl rfl kr (fun _ h=>(by have:=(h.old hr).partAt zm (k:=x) (j:=0) (x:=(l.getD x Gr.zero)) ((getD_at Gr.zero om)) rfl;simpa using this)))∘Jo (vI y) (by rw [hy2])∘JW O0' O0') fun w1_5=>(Jt5∘Jq) fun a Z I=>?_)
  exact ⟨_,om,y,i+1,F2,hI2,by omega,by omega,rfl,Z.sub kr,I.pt 2 [0,1]⟩
 intro a Z I
 have hd10:=of_decide_eq_false hb10
 revert I;revert a;repeat (first|clear Z|clear I)
 intro a Z I
 obtain rfl:x=0:=by omega
 have hd0:=qso l
 refine Jb Z I ((JF∘JX) fun a Z I=>?_)
 have hin:i+1=depG l g+1:=by omega
 rw [hin] at hI2
 exact norm0 rfl Z ⟨_,rfl,F2,Mem.qpw [.blk gg #[vI 0] 3,.blk gl #[.slice A l.length c] 31] I,hI2⟩
theorem q2p (A:Option Addr) (n c:Nat) (g:Int) (w:World):
    Calls Tryz.prog 161 #[.slice A n c,vI g] w fun r w'=>∃gg gl,r= .returned (.func (.func 165) #[] #[vP gg 0,vP gl 0])∧Mem w w' [.blk gg #[vI g] 3,.blk gl #[.slice A n c] 31]:=by
 refine (JN2 Tryz.func161 6) ?_
 exact (JP∘Je1) fun w2 g2=>(Je1) fun w3 g3=>(Jp 1∘Jr∘Jy (h:=by exact Yl.makeFunc (fst:=[]) (caps:=[vP g3 0,vP g2 0]) rfl rfl rfl)∘Jp 1∘Jd1∘Jj∘JZ∘Jz1) fun I=>by exact ⟨_,_,rfl,I.pk [0,1]⟩
theorem qtc (A:Option Addr) (c:Nat) (l:List Gr) (g:Nat) (w:World) (hr:Rd w w.heap.size 2 A l.length (l.flatMap grL)) (hn:l.length≤1000000) (hg:g<l.length) (hp:∀i,0<i→i≤g→ParB l i):
    Calls Tryz.prog 154 #[.slice A l.length c,vI g] w (Is w (vI (depG l g:Int))):=by
 have hdep:=q0c hp
 refine qcv (vs:=[.slice A l.length c,vI g]) Tryz.func154 rfl rfl kr (σ0:=[(0,.slice A l.length c),(1,vI g)]) rfl ?_
 intro a Z
 have I:=Mem.start w
 refine Jb Z I ((JP∘Jp 1∘Jr∘JA #[vI 0]) fun w5 g5=>(JW O0' O0') fun w1_1=>(Jj∘JQ∘JP∘Jp 2∘JL (h:=by exact fun I=>q2p A l.length c (g:Int) _)) ?_)
 rintro I _ w8 ⟨gg,gl,rfl,hm⟩
 refine ⟨_,rfl,_,I.join hm,?_⟩
 refine (Jd2∘Jj∘JB) fun a Z I=>?_
 refine qsv Z I (fun F=>F=[.blk g5 #[vI (((depG l g+1):Int)-1)] 3]) (fun _ _=>False) rfl kr ?_ ?_ (fun _ _ _ _ _ h=>h.elim)
 ·
  clear Z I;intro lp B rec w1 hrec I
  have hy:qog Tryz.prog w lp (depG l g+1) (fun i F=>F=(.obj lp (.loop (rec .ready none)):: .obj B (.deferred (some [])):: [.blk g5 #[vI ((i:Int)-1)] 3])):=by
   rintro i F fr w3 x rfl hi I
   replace I:Mem w _ (.obj lp (.loop (rec .ready none)):: .obj B (.deferred (some [])):: .blk g5 #[vI ((i:Int)-1)] 3::fr):=I
   refine qky (v1:=vI x) hrec I de fun a Z=>?_
   refine wpIn_skip ?_
   refine ⟨(.obj B (.deferred (some [])):: .blk g5 #[vI ((i:Int)-1)] 3::fr),I.pt (fs':=(.obj lp (.loop (rec .ready none)):: .obj B (.deferred (some [])):: .blk g5 #[vI ((i:Int)-1)] 3::fr)) 3 [0,1,2],fun w4 I=>?_⟩
   refine wpIn_block ?_
   refine zp ?_
   refine Jb Z I ((Jc O2∘Jp 1∘Jo (vI (((i+1:Nat):Int)-1)) (by have hdl:=hdep;exact (qcg ⟨by omega,by omega⟩).trans (congrArg (Value.int .i64) om))∘JW O2' O0') fun w3_2=>(Jt3∘Jq) fun a Z I=>?_)
   refine ⟨(.obj B (.deferred (some [])):: .blk g5 #[vI (((i+1:Nat):Int)-1)] 3::fr),I.pt (fs':=(.obj lp (.loop (rec .busy none)):: .obj B (.deferred (some [])):: .blk g5 #[vI (((i+1:Nat):Int)-1)] 3::fr)) 3 [0,1,2],fun w5 I=>?_⟩
   exact ⟨(.obj lp (.loop (rec .ready none)):: .obj B (.deferred (some [])):: .blk g5 #[vI (((i+1:Nat):Int)-1)] 3:: []),I,rfl,rfl⟩
  refine (q0d w w1 gg gl lp A c l g _ _ hr hn hg hp hy rfl (I.pk [2,3,0,1,4])).mono ?_
  rintro r w2 ⟨v,rfl,F2,HM2,rfl⟩
  exact ⟨v,rfl,.inl ⟨_,rfl,HM2⟩⟩
 clear Z I;rintro B a w6 _ rfl Z I
 refine Jb Z I ((JG∘JP∘Jc O1∘Jp 1∘Jd1∘Jj∘JZ) fun a Z I=>?_)
 refine qmy Z I (i:=0) rfl fun a w7 Z I=>?_
 exact s_rt1 rfl Z rfl (⟨by congr 2;omega,I.below⟩)
theorem qp8 (A:Option Addr) (c:Nat) (l:List Gr) (hok:∀x∈l,x.Ok) (w:World) (hr:Rd w w.heap.size 2 A l.length (l.flatMap grL)) (hn:l.length≤1000000):
    Calls Tryz.prog 139 #[.slice A l.length c] w (qgr w l):=by
 refine (JN1 Tryz.func139 58) ?_
 refine (JP∘Jp 2∘Jj∘JQ∘JB∘JP∘Jp 1∘Jl∘Jp 2∘Jd3∘Jj) (Ji (fun hd5=>?_) fun hd5=>?_)
 ·
  exact (JT∘JP∘Jp 2∘Jj∘JZ∘Jz2) fun I=>qaw (qjf om) de I.below
 refine (JF∘JP∘Jp 1∘Jl∘Jp 2) (Ju (fun hb13=>?_) fun hb13=>?_)
 ·
  intro a Z I
  have hd13:=eq_of_beq hb13
  exact Jb Z I ((Jp 7∘Jd6∘Jj∘JT∘JP∘Jp 2∘Jj∘JZ∘Jz2) fun I=>qaw (qjf om) de I.below)
 intro a Z I
 have hd13:=ne_of_beq_false hb13
 revert I;revert a;repeat (first|clear Z|clear I)
 intro a Z I
 obtain ⟨gA,oA,rfl,_⟩:=hr.qm (Nat.lt_of_le_of_lt (Nat.zero_le _) (show 0<l.length from by omega)) de
 refine Jb Z I ((Jp 1∘Jy (v:=vP gA oA) (h:=by exact Yl.indexAddr (ad:=⟨gA,oA,none⟩) (y:=0) (sz:=2) rfl rfl rfl om kr)∘Jy (v:= .agg ((l.getD 0 Gr.zero).cells)) (h:=by exact Yl.loadS rfl rfl si_gr rfl (fun _ h=>(h.old hr).q7 zm ((getD_at Gr.zero om))))∘Jy (v:= .agg #[vI 0,vI 1]) (h:=by exact Yl.build (vs:=[(1,vI 1)]) rfl kr kr)∘Jy (v:= .bool (!(decide ((l.getD 0 Gr.zero)=⟨0,1⟩)))) (h:=by exact Yl.qmd rfl rfl rfl (qoi (l.getD 0 Gr.zero) ⟨0,1⟩))∘Jp 2∘Jd6∘Jj) (Ju (fun hb9=>?_) fun hb9=>?_))
 ·
  intro a Z I
  have hd9:=of_decide_eq_false ((Bool.not_eq_true' _).mp hb9)
  exact Jb Z I ((JT∘JP∘Jp 2∘Jj∘JZ∘Jz2) fun I=>qaw (qjf (fun h=>by rw [h.2.2] at hb9;simp at hb9)) de I.below)
 intro a Z I
 have hd9:=of_decide_eq_true ((Bool.not_eq_false' _).mp hb9)
 refine Jb Z I ((JF∘JS'∘JQ∘JP∘Jp 1∘Jj∘JB) fun a Z I=>?_)
 refine qj (fun mS aS wS=>∃(g:Nat),(1≤g)∧(g≤l.length)∧(UpTo g (gOk l))∧mS=l.length-g∧Fr aS 58 [] [(4,vI g),(9,.bool false),(5,.bool false),(3,vI 0),(2,vI 0),(0,.slice (some ⟨gA,oA,none⟩) l.length c)]∧Mem w wS []) (m:=l.length-1) ⟨1,Nat.le_refl _,by omega,UpTo.zero.succ (qwh l),rfl,Z.sub kr,I.pk []⟩ ?_
 clear Z I;rintro mS a w_ ⟨g,hg1,hgl,hu,rfl,Z,I⟩
 refine Jb Z I ((JQ∘JP∘Jp 2∘Jl∘Jp 1∘Jd3∘Jj) (Ju (fun hb23=>?_) fun hb23=>?_))
 ·
  intro a Z I
  have hd23:=of_decide_eq_true hb23
  have hg23:g<l.length:=by omega
  have hOk:=hok _ (qd Gr.zero hg23)
  have hOp:=hOk.parent
  unfold I64 at hOp
  have hOw:=hOk.weight
  unfold I64 at hOw
  refine Jb Z I ((JT∘JS'∘JQ∘JB∘JB∘JP∘Jp 2∘Jy (h:=by exact Yl.ix gA oA g 2 rfl rfl rfl)∘Jf 0∘Jy (v:=vI ((l.getD g Gr.zero).parent)) (h:=by exact Yl.qe rfl rfl kr (fun _ h=>(by have:=(h.old hr).partAt zm (k:=g) (j:=0) (x:=(l.getD g Gr.zero)) ((getD_at Gr.zero om)) rfl;simpa using this)))∘Jp 2) (Ji (fun hd33=>?_) fun hd33=>?_))
  ·
   exact (Jv 9 [(26,.bool true)]∘Jd6∘Jj∘JT∘JP∘Jp 3∘Jj∘JZ∘Jz2) fun I=>qaw (qjg hg23 (qoh om om)) de I.below
  refine (Jp 2∘Jy (h:=by exact Yl.ix gA oA g 2 rfl rfl rfl)∘Jf 0∘Jy (v:=vI ((l.getD g Gr.zero).parent)) (h:=by exact Yl.qe rfl rfl kr (fun _ h=>(by have:=(h.old hr).partAt zm (k:=g) (j:=0) (x:=(l.getD g Gr.zero)) ((getD_at Gr.zero om)) rfl;simpa using this)))∘Jp 4∘Jd6∘Jj) (Ju (fun hb26=>?_) fun hb26=>?_)
  ·
   intro a Z I
   have hd26:=of_decide_eq_true hb26
   exact Jb Z I ((JT∘JP∘Jp 3∘Jj∘JZ∘Jz2) fun I=>qaw (qjg hg23 (qoh om om)) de I.below)
  intro a Z I
  have hd26:=of_decide_eq_false hb26
  have hpg:=qsy hu ⟨by omega,by omega⟩
  refine Jb Z I ((JF∘JP∘Jp 2∘Jy (h:=by exact Yl.ix gA oA g 2 rfl rfl rfl)∘Jf 1∘Jy (v:=vI ((l.getD g Gr.zero).weight)) (h:=by exact Yl.qe rfl rfl kr (fun _ h=>(h.old hr).partAt zm (k:=g) (j:=1) (x:=(l.getD g Gr.zero)) ((getD_at Gr.zero om)) rfl))∘JL (h:=by exact fun I=>qk3 ((l.getD g Gr.zero).weight) _)) ?_)
  rintro I _ w49 ⟨rfl,hbw⟩
  refine ⟨_,rfl,_,I.call hbw,?_⟩
  refine (Jp 2∘Jd6∘Jj) (Ji' (fun hd43=>?_) fun hd43=>?_)
  ·
   exact (JT∘JP∘Jp 3∘Jj∘JZ∘Jz2) fun I=>qaw (qjg hg23 (qoh om om)) de I.below
  refine (JF∘JP∘Jp 2∘JI (h:=by exact fun I=>qtc (some ⟨gA,oA,none⟩) c l g _ (I.old hr) hn om hpg)) fun w55 hbw=>(Jp 2∘Jd4∘Jj) (Ji (fun hd52=>?_) fun hd52=>?_)
  ·
   exact (JT∘JP∘Jp 3∘Jj∘JZ∘Jz2) fun I=>qaw (qjg hg23 (qoh om om)) de I.below
  refine (JF∘JS'∘JR∘Jp 1∘JaK 1∘Jp 1∘Jd2∘Jq) fun a Z I=>?_
  exact ⟨_,om,g+1,by omega,by omega,hu.succ (qz0 ⟨by omega,by omega,by omega,by omega⟩),rfl,Z.sub kr,I.pk []⟩
 intro a Z I
 have hd23:=of_decide_eq_false hb23
 exact Jb Z I ((JF∘JX∘JG∘JP∘Jp 2∘Jj∘JZ∘Jz2) fun I=>by exact qm0 (qwg ⟨by omega,by omega,by simpa using hb9⟩ (fun i hi=>hu i om)) I.below)
theorem qp9 (A:Option Addr) (c:Nat) (l:List Gr) (hok:∀x∈l,x.Ok) (w:World) (hr:Rd w w.heap.size 2 A l.length (l.flatMap grL)) (hn:l.length≤1000000):
    Calls Tryz.prog 95 #[.slice A l.length c] w (Is w (.bool (gsOk l))):=by
 refine (JN1 Tryz.func95 12) ?_
 refine (JP∘Jp 1∘Jr∘Jp 1∘JL (h:=by exact fun I=>qp8 A c l hok _ (I.old hr) hn)) ?_
 rintro I _ w7 ⟨⟨i,e,rfl,he⟩,hbw⟩
 refine ⟨_,rfl,_,I.call hbw,?_⟩
 exact (Jp 1∘Jx∘Jx∘Jp 2∘Jd6∘Jr∘Jp 3∘Jd3∘Jj∘JZ∘Jz1) fun I=>is_as he I.below
theorem qfe (v r:Nat) (wt:Int) (hv:v<18446744073709551616) (hr:r<4294967296) (hw:0≤wt∧wt<4294967296) (w:World):
    Calls Tryz.prog 124 #[.agg #[vQ v,vW r,vW wt]] w (Is w (.bool (entOk v r wt))):=by
 obtain ⟨z,rfl⟩:∃z:Nat,wt=(z:Int):=⟨wt.toNat,by omega⟩
 refine (JN1 Tryz.func124 24) ?_
 refine (JP∘JE) fun w1 g1=>(Jp 1∘Jr∘Jg 2 O0∘Jw .i64∘JL (h:=by exact fun I=>qft (z:Int) _)) ?_
 rintro I _ w6 ⟨rfl,hbw⟩
 refine ⟨_,rfl,_,I.call hbw,?_⟩
 refine (Jp 1) (Ji (fun hd7=>?_) fun hd7=>?_)
 ·
  refine (Jg 1 O0∘Jg 2 O0∘Jp 3) (Ji (fun hd14=>?_) fun hd14=>?_)
  ·
   refine (Jg 0 O0∘Jp 2) (Ji (fun hd18=>?_) fun hd18=>?_)
   ·
    exact (Jp 6∘Jd6∘Jj∘JZ∘Jz1) fun I=>qgq om I.below
   exact (Jg 1 O0∘Jp 4∘Jd6∘Jj∘JZ∘Jz1) fun I=>qfs om I.below
  exact (Jv 10 [(2,.bool false)]∘Jd6∘Jj∘JZ∘Jz1) fun I=>is_no om I.below
 exact (Jv 17 [(2,.bool false)]∘Jd4∘Jj∘JZ∘Jz1) fun I=>is_no om I.below
theorem qy (v r:Nat) (wt:Int) (hw:0≤wt∧wt<4294967296) (w:World):
    Calls Tryz.prog 112 #[vQ v,vW r,vI wt] w (Is w (.agg #[vQ v,vW r,vW wt])):=by
 obtain ⟨z,rfl⟩:∃z:Nat,wt=(z:Int):=⟨wt.toNat,by omega⟩
 refine (JN3 Tryz.func112 12) ?_
 refine (JP∘JA #[vQ 0,vW 0,vW 0]) fun w6 g6=>(Jr∘Jp 3∘Jv 1 [(10,vW (IntKind.u32.wrap (z:Int)))]∘Jo (vW z) (by exact qd2 rfl om)∘Jy (v:= .agg #[vQ v,vW r,vW z]) (h:=by exact Yl.build (vs:=[(0,vQ v),(1,vW r),(2,vW z)]) rfl kr kr)∘JV qk O0') fun w1_5=>(Jt5∘Jj∘JZ) fun a Z I=>?_
 exact ret1 rfl Z (.cellS (i:=0) Z I rfl rfl qk rfl) (⟨rfl,I.below⟩)
theorem qoo (m n:Nat) (hm:m<18446744073709551616) (hn:1≤n∧n≤64) (w:World):
    Calls Tryz.prog 103 #[vQ m,vI n] w (Is w (.bool (decide (2^n≤m)))):=by
 refine (JN2 Tryz.func103 11) ?_
 exact (JP∘Jp 1∘Jr∘Jp 2∘JsK 1∘Jy (v:=vQ (m/2^ (n-1):Nat)) (h:=by exact Yl.shrN (m:=m) (n:=(n-1)) rfl rfl rfl (by show _≤64;omega))∘Jp 1∘Jo (vQ ((m/2^ (n-1))/2:Nat)) (by exact qbt .u64 (m/2^ (n-1)) (j:=1) (q:=2) rfl rfl)∘Jp 2∘Jd6∘Jj∘JZ∘Jz1) fun I=>is_as (qz1 hn.1) I.below
theorem qer (x : Stm) (t : Tk) (hok : t.Ok) (hx : 1 ≤ x.cpus ∧ x.cpus ≤ 64) (hf : x.rs.length ≤ 1000000) (w : World) :
    Calls Tryz.prog 125 #[.agg x.cells,.agg t.cells] w (Is w (.bool (tkOk1 x.sta t))):=by
 obtain ⟨n,hn⟩:∃n:Nat,x.cpus=(n:Int):=⟨x.cpus.toNat,by omega⟩
 have hn64:1≤n∧n≤64:=by omega
 have hv:=hok.v
 have hr:=hok.r
 have hi:=hok.id
 have hg:=hok.group
 have hc:=hok.cpu
 have hw:=hok.weight
 have hm:=hok.mask
 unfold I64 at hi hg hc hw
 refine (JN2 Tryz.func125 72) ?_
 refine (JP∘JE) fun w2 g2=>(JE) fun w3 g3=>(Jp 1∘Jr∘Jg 0 O0∘Jp 2) (Ji (fun hd8=>?_) fun hd8=>?_)
 ·
  refine (Jg 0 O0∘Jp 3) (Ji (fun hd13=>?_) fun hd13=>?_)
  ·
   refine (Jg 1 O0∘Jp 3) (Ji (fun hd18=>?_) fun hd18=>?_)
   ·
    refine (Jg 1 O0∘Jg 6 O1∘Jl∘Jp 3) (Ji (fun hd26=>?_) fun hd26=>?_)
    ·
     refine (Jg 3 O0∘Jp 3) (Ji (fun hd31=>?_) fun hd31=>?_)
     ·
      refine (Jg 3 O0∘Jf 0∘Jg 0 O1∘Jp 3) (Ju (fun hb39=>?_) fun hb39=>?_)
      ·
       intro a Z I
       have hd39:=of_decide_eq_true hb39
       obtain ⟨k,hk⟩:∃k:Nat,t.cpu=(k:Int):=⟨t.cpu.toNat,by omega⟩
       refine Jb Z I ((Jg 2 O0∘JL (h:=by exact fun I=>qbz t.weight _)) ?_)
       rintro I _ w42 ⟨rfl,hbw⟩
       refine ⟨_,rfl,_,I.call hbw,?_⟩
       refine (Jp 2) (Ji (fun hd44=>?_) fun hd44=>?_)
       ·
        refine (Jg 4 O0∘Jf 0∘Jf 0∘Jc O1∘Jo (vI n) (by rw [hn])∘JI (h:=by exact fun I=>qoo t.mask n hok.mask hn64 _)) fun w50 hbw=>(Jp 3) (Ju (fun hb53=>?_) fun hb53=>?_)
        ·
         intro a Z I
         have hd53:=of_decide_eq_false ((Bool.not_eq_true' _).mp hb53)
         have hsh:=Nat.div_le_self t.mask (2^k)
         refine Jb Z I ((Jg 4 O0∘Jf 3∘Jc O0∘Jo (vI k) (by rw [hk])∘Jy (v:=vQ (t.mask/2^k:Nat)) (h:=by exact Yl.shrN (m:=t.mask) (n:=k) rfl rfl rfl (by show _≤64;omega))∘Jp 1∘Jo (vQ ((t.mask/2^k)%2:Nat)) (by exact qf1 (n:=1) (j:=1) rfl de om)∘Jp 3) (Je (fun hd62=>?_) fun hd62=>?_))
         ·
          refine (Jg 6 O0∘Jg 7 O0∘Jg 2 O0∘JI (h:=by exact fun I=>qy t.v t.r t.weight om _)) fun w69 hbw=>(JI (h:=by exact fun I=>qfe t.v t.r t.weight om om om _)) fun w70 hbw=>(Jp 2∘Jd6∘Jq) fun a Z I=>?_
          replace Z:=Z.to [(4,.bool (entOk t.v t.r t.weight))]
          exact Jb Z I ((JG∘JZ∘Jz1) fun I=>is_as (q2i om om (by rw [hn,Int.toNat_natCast];simpa using hb53) (by rw [hk,Int.toNat_natCast];omega)).symm I.below)
         refine (Jv 10 [(4,.bool false)]∘Jd6∘Jq) fun a Z I=>?_
         replace Z:=Z.to [(4,.bool false)]
         exact Jb Z I ((JG∘JZ∘Jz1) fun I=>is_as (q2h (by rw [hk,Int.toNat_natCast];omega)).symm I.below)
        intro a Z I
        have hd53:=of_decide_eq_true ((Bool.not_eq_false' _).mp hb53)
        exact Jb Z I ((Jv 19 [(4,.bool false)]∘Jd6∘Jj∘JZ∘Jz1) fun I=>is_as (q2g (by rw [hn,Int.toNat_natCast];simpa using hb53)).symm I.below)
       exact (Jv 28 [(4,.bool false)]∘Jd6∘Jj∘JZ∘Jz1) fun I=>is_as (q2f om).symm I.below
      intro a Z I
      have hd39:=of_decide_eq_false hb39
      exact Jb Z I ((Jv 33 [(4,.bool false)]∘Jd6∘Jj∘JZ∘Jz1) fun I=>is_as (qie om).symm I.below)
     exact (Jv 41 [(4,.bool false)]∘Jd6∘Jj∘JZ∘Jz1) fun I=>is_as (qie om).symm I.below
    exact (Jv 46 [(4,.bool false)]∘Jd6∘Jj∘JZ∘Jz1) fun I=>is_as (qie om).symm I.below
   exact (Jv 54 [(4,.bool false)]∘Jd6∘Jj∘JZ∘Jz1) fun I=>is_as (qie om).symm I.below
  exact (Jv 59 [(4,.bool false)]∘Jd6∘Jj∘JZ∘Jz1) fun I=>is_as (qie om).symm I.below
 exact (Jv 64 [(4,.bool false)]∘Jd3∘Jj∘JZ∘Jz1) fun I=>is_as (qie om).symm I.below
theorem qda (x:Stm) (hok:x.sta.Ok) (hf:StFew x) (w:World) (hx:StRd w x):
    Calls Tryz.prog 61 #[.agg #[vI x.cpus,vQ (x.credit:Int),.slice x.gA x.gs.length x.gc]] w (Is w (.bool (cfgOk x.sta))):=by
 have hc:=hok.cpus
 have hcr:=hok.credit
 replace hc:I64 x.cpus:=hc
 replace hcr:x.credit<18446744073709551616:=hcr
 unfold I64 at hc
 refine (JN1 Tryz.func61 21) ?_
 refine (JP∘JE) fun w1 g1=>(Jp 1∘Jr∘Jg 0 O0∘Jp 2) (Ji (fun hd6=>?_) fun hd6=>?_)
 ·
  refine (Jg 0 O0∘Jp 3) (Ji (fun hd11=>?_) fun hd11=>?_)
  ·
   refine (Jg 1 O0∘Jp 3) (Ju (fun hb16=>?_) fun hb16=>?_)
   ·
    intro a Z I
    have hd16:=of_decide_eq_true hb16
    exact Jb Z I ((Jg 2 O0∘JI (h:=by exact fun I=>qp9 x.gA x.gc x.gs hok.gs _ (I.old hx.g) hf.g)) fun w19 hbw=>(Jp 2∘Jd6∘Jj∘JZ∘Jz1) fun I=>is_as (qz2 om).symm I.below)
   intro a Z I
   have hd16:=of_decide_eq_false hb16
   exact Jb Z I ((Jp 5∘Jd6∘Jj∘JZ∘Jz1) fun I=>is_as (qsz om).symm I.below)
  exact (Jv 10 [(2,.bool false)]∘Jd6∘Jj∘JZ∘Jz1) fun I=>is_as (qsz om).symm I.below
 exact (Jv 15 [(2,.bool false)]∘Jd3∘Jj∘JZ∘Jz1) fun I=>is_as (qsz om).symm I.below
theorem qtd (t:Int) (w:World):Calls Tryz.prog 123 #[vI t] w (Is w (.bool (!clOk t))):=by
 refine (JN1 Tryz.func123 9) ?_
 refine (JP∘Jp 1∘Jr∘Jp 3) (Ji (fun hd5=>?_) fun hd5=>?_)
 ·
  exact (Jp 4∘Jd6∘Jj∘JZ∘Jz1) fun I=>is_as (by first|(unfold clOk;rw [decide_eq_false om];rfl)|(unfold clOk;rw [←decide_not];exact decide_eq_decide.2 om)) I.below
 exact (Jp 4∘Jd6∘Jj∘JZ∘Jz1) fun I=>is_as (by first|(unfold clOk;rw [decide_eq_false om];rfl)|(unfold clOk;rw [←decide_not];exact decide_eq_decide.2 om)) I.below
theorem qm6 (A:Option Addr) (c:Nat) (l:List Int) (w:World) (hr:Rd w w.heap.size 1 A l.length (l.map I64i)) (hn:l.length≤1000000):
    Calls Tryz.prog 149 #[.slice A l.length c,.func (.func 123) #[] #[]] w (BadAt w l.length (fun c=>clOk (l.getD c 0))):=by
 refine (JN2 Tryz.func149 19) ?_
 refine (JP∘Jp 1∘Jj∘JQ∘JP∘Jp 1∘Jl∘Jp 1∘Jj∘JB) fun a Z I=>?_
 refine qj (fun mS aS wS=>∃(k:Nat),(k≤l.length)∧(UpTo k (fun c=>clOk (l.getD c 0)))∧mS=l.length-k∧Fr aS 19 [] [(8,vI k),(7,vI l.length),(4,vI 0),(0,.slice A l.length c),(1,.func (.func 123) #[] #[])]∧Mem w wS []) (m:=l.length-0) ⟨0,Nat.zero_le _,UpTo.zero,rfl,Z.sub kr,I.pk []⟩ ?_
 clear Z I;rintro mS a w_ ⟨k,hk,hu,rfl,Z,I⟩
 refine Jb Z I ((JP∘Jp 1∘Jj∘JQ) (Ju (fun hb9=>?_) fun hb9=>?_))
 ·
  intro a Z I
  have hd9:=of_decide_eq_true hb9
  have hk9:k<l.length:=by omega
  refine Jb Z I ((JT∘JS'∘JQ∘JB∘JP∘Jp 2∘Jd1∘Jr∘Jp 3) ?_)
  repeat (first|clear Z|clear I)
  intro a Z I
  obtain ⟨gA,oA,rfl,_⟩:=hr.qm (Nat.lt_of_le_of_lt (Nat.zero_le _) (show k<l.length from by omega)) de
  refine Jb Z I ((Jy (h:=by exact Yl.ix gA oA k 1 rfl rfl rfl)∘Jy (h:=by exact Yl.o1 hr k 0 om rfl rfl)) fun a Z I=>?_)
  refine fo Z 5 rfl rfl ?_
  refine qag Z (f:=123) (vs:=[vI (l.getD k 0)]) (fst:=[]) (caps:=[]) rfl rfl rfl kr rfl de (qtd (l.getD k 0) _) ?_
  rintro _ w16 ⟨rfl,hbw⟩
  refine ⟨_,rfl,?_⟩
  replace I:=I.call hbw
  clear Z;intro a Z
  refine Jb Z I ((Jd5∘Jj) (Ju (fun hb16=>?_) fun hb16=>?_))
  ·
   exact (JT∘JP∘Jp 2∘Jd1∘Jj∘JZ∘Jz1) fun I=>qp4 hk9 (by simpa using hb16) I.below
  refine (JF∘JS'∘JR∘JaK 1∘Jp 1∘Jd1∘Jq) fun a Z I=>?_
  exact ⟨_,om,k+1,by omega,hu.succ (by simpa using hb16),rfl,Z.sub kr,I.pk []⟩
 intro a Z I
 have hd9:=of_decide_eq_false hb9
 exact Jb Z I ((JF∘JX∘JG∘JP∘Jp 1∘Jj∘JZ∘Jz1) fun I=>qp5 (fun i hi=>hu i om) I.below)
theorem qh4 (A:Option Addr) (c:Nat) (l:List Int) (w:World) (hr:Rd w w.heap.size 1 A l.length (l.map I64i)) (hn:l.length≤1000000):
    Calls Tryz.prog 122 #[.slice A l.length c,.func (.func 123) #[] #[]] w (Is w (.bool (!allN l.length (fun c=>clOk (l.getD c 0))))):=by
 refine (JN2 Tryz.func122 9) ?_
 refine (JP∘Jp 1∘Jr∘Jp 2∘JL (h:=by exact fun I=>qm6 A c l _ (I.old hr) hn)) ?_
 rintro I _ w7 ⟨⟨i,rfl,he⟩,hbw⟩
 refine ⟨_,rfl,_,I.call hbw,?_⟩
 exact (Jp 2∘Jd4∘Jj∘JZ∘Jz1) fun I=>is_as he I.below
theorem qqa (x:Stm) (hok:x.sta.Ok) (hf:StFew x) (w:World) (hx:StRd w x):
    Calls Tryz.prog 82 #[.agg x.cells] w (Is w (.bool (zd x.sta))):=by
 have hfs:=hf.s;have hft:=hf.t;have hfg:=hf.g;have hfl:=hf.l;have hfu:=hf.u
 refine (JN1 Tryz.func82 123) ?_
 refine (JP∘JE) fun w1 g1=>(Jp 1∘Jj∘JQ∘JP∘Jf 0∘Jy (v:= .agg #[vI x.cpus,vQ x.credit,.slice x.gA x.gs.length x.gc]) (h:=by exact Yl.loadS rfl rfl qab rfl (fun _ h=>h.sub (i:=0) rfl 0 rfl))∘JI (h:=by exact fun I=>qda x hok hf _ (hx.old I))) fun w11 hbw=>(Jp 2) (Ju (fun hb13=>?_) fun hb13=>?_)
 ·
  exact (Jv 27 [(40,.bool true)]∘Jd5∘Jj∘JT∘JP∘Jp 1∘Jj∘JZ∘Jz1) fun I=>is_as (q2j (by simpa using hb13)).symm I.below
 intro a Z I
 have hcf:cfgOk x.sta=true:=by simpa using hb13
 obtain ⟨hc1,hc2,hc3,hgs⟩:=zq hcf
 have hcp:1≤x.cpus∧x.cpus≤64:=⟨hc1,hc2⟩
 refine Jb Z I ((Jg 3 O0∘Jl∘Jf 0∘Jg 0 O0∘Jp 3) (Jh (fun hd22=>?_) fun hd22=>?_))
 ·
  exact (Jv 18 [(40,.bool true)]∘Jd6∘Jj∘JT∘JP∘Jp 1∘Jj∘JZ∘Jz1) fun I=>is_as (qs0 om).symm I.below
 refine (Jg 4 O0∘Jl∘Jf 0∘Jg 0 O0∘Jp 3) (Jh (fun hd31=>?_) fun hd31=>?_)
 ·
  exact (Jv 9 [(40,.bool true)]∘Jd6∘Jj∘JT∘JP∘Jp 1∘Jj∘JZ∘Jz1) fun I=>is_as (qs0 om).symm I.below
 refine (Jg 6 O0∘Jl∘Jf 0∘Jg 2 O0∘Jl∘Jp 2∘Jd6∘Jj) (Jh (fun hd40=>?_) fun hd40=>?_)
 ·
  exact (JT∘JP∘Jp 1∘Jj∘JZ∘Jz1) fun I=>is_as (qs0 om).symm I.below
 refine (JF∘JS'∘JQ∘JP∘Jg 3 O0∘JI (h:=by exact fun I=>qh4 x.lA x.lc x.cl _ (I.old hx.l) hf.l)) fun w43 hbw=>(Jd1∘Jj) (Ju (fun hb43=>?_) fun hb43=>?_)
 ·
  exact (JT∘JP∘Jp 1∘Jj∘JZ∘Jz1) fun I=>is_as (sh_cl (by simpa using hb43)).symm I.below
 intro a Z I
 have hcl:allN x.cl.length (fun c=>clOk (x.cl.getD c 0))=true:=by simpa using hb43
 refine Jb Z I ((JF∘JS'∘JQ∘JP∘Jg 6 O0∘Jl∘Jp 1∘Jj∘JB) fun a Z I=>?_)
 refine qj (fun mS aS wS=>∃(g:Nat),(g≤x.rs.length)∧(UpTo g (rowOk x.sta))∧mS=x.rs.length-g∧Fr aS 123 [] [(47,vI g),(46,vI x.rs.length),(45,.slice x.sA x.rs.length x.sc),(43,.bool false),(40,.bool false),(2,.bool false),(1,vP g1 0)]∧Mem w wS [.blk g1 x.cells 38]) (m:=x.rs.length-0) ⟨0,Nat.zero_le _,UpTo.zero,rfl,Z.sub kr,I.pk [0]⟩ ?_
 clear Z I;rintro mS a w_ ⟨g,hg,hu,rfl,Z,I⟩
 refine Jb Z I ((JP∘Jp 1∘Jj∘JQ) (Ju (fun hb48=>?_) fun hb48=>?_))
 ·
  intro a Z I
  have hd48:=of_decide_eq_true hb48
  have hg48:g<x.rs.length:=by omega
  obtain ⟨y,hy⟩:∃z,x.rs.getD g Rw.zero=z:=⟨_,rfl⟩
  have hyr:Rd w w.heap.size 3 y.A y.l.length (y.l.flatMap spL):=by rw [←hy];exact hx.row hg48
  have hyl:y.l.length≤1000000:=by rw [←hy];exact hf.r _ (qd Rw.zero hg48)
  have hyo:∀z∈y.l,z.Ok:=by rw [←hy,←rs_at hg48];exact hok.sp _ (qd [] (by rw [zh];exact hg48))
  obtain ⟨wt,hwt⟩:∃z,(x.gs.getD g Gr.zero).weight=z:=⟨_,rfl⟩
  have hw1:=wt_at hgs (show g<x.gs.length by omega)
  rw [hwt] at hw1
  obtain ⟨gq1,oq1,hq1,_⟩:=Rd.qm hx.g (Nat.lt_of_le_of_lt (Nat.zero_le _) (show g<x.gs.length from by omega)) de
  have hrq1:=hx.g;rw [hq1] at hrq1
  refine Jb Z I ((JT∘JS'∘JQ∘JB∘JP∘Jp 1) fun a Z I=>?_)
  obtain ⟨gq2,oq2,hq2,_⟩:=Rd.qm hx.s (Nat.lt_of_le_of_lt (Nat.zero_le _) (show g<x.rs.length from by omega)) de
  have hrq2:=hx.s;rw [hq2] at hrq2
  replace Z:=Z.sp 45 (.slice (some ⟨gq2,oq2,none⟩) x.rs.length x.sc) rfl (by rw [hq2];try rfl)
  refine Jb Z I ((Jy (h:=by exact Yl.ix gq2 oq2 g 1 rfl rfl rfl)∘Jy (v:= .slice ((x.rs.getD g Rw.zero).A) ((x.rs.getD g Rw.zero).l.length) ((x.rs.getD g Rw.zero).c)) (h:=by exact Yl.o1 hrq2 g Rw.zero (by first|omega|(simp;omega)) rfl rfl)∘Jo (.slice y.A y.l.length y.c) (by rw [hy])∘Jp 2∘Jj∘JQ∘JP∘Jp 1∘Jl∘Jf 0∘Jg 0 O0∘Jp 1∘Jd4∘Jj) (Jh (fun hd57=>?_) fun hd57=>?_))
  ·
   exact (JT∘JP∘Jp 1∘Jj∘JZ∘Jz1) fun I=>is_as (qy0 hg48 (qz3 hg48 (by rw [hy];omega))).symm I.below
  refine (JF∘JS'∘JP∘Jp 1∘Jl∘Jp 1∘Jj∘JB) fun a Z I=>?_
  refine qj (fun mS aS wS=>∃(c:Nat),(c≤y.l.length)∧(UpTo c (fun c=>spOk x.sta g (y.l.getD c Sp.zero)))∧mS=y.l.length-c∧Fr aS 123 [] [(60,vI c),(59,vI y.l.length),(58,.slice y.A y.l.length y.c),(57,.bool false),(4,.slice y.A y.l.length y.c),(3,vI g),(45,.slice (some ⟨gq2,oq2,none⟩) x.rs.length x.sc),(48,.bool true),(47,vI g),(46,vI x.rs.length),(43,.bool false),(40,.bool false),(2,.bool false),(1,vP g1 0)]∧Mem w wS [.blk g1 x.cells 38]) (m:=y.l.length-0) ⟨0,Nat.zero_le _,UpTo.zero,rfl,Z.sub kr,I.pk [0]⟩ ?_
  clear Z I;rintro mS a w_ ⟨c,hc,hu2,rfl,Z,I⟩
  refine Jb Z I ((JP∘Jp 1∘Jj∘JQ) (Ju (fun hb61=>?_) fun hb61=>?_))
  ·
   intro a Z I
   have hd61:=of_decide_eq_true hb61
   have hc61:c<y.l.length:=by omega
   obtain ⟨z,hz⟩:∃q,y.l.getD c Sp.zero=q:=⟨_,rfl⟩
   have hzo:=hyo _ (qd Sp.zero hc61)
   rw [hz] at hzo
   have hzv:=hzo.v;have hzr:=hzo.r
   refine Jb Z I ((JT∘JS'∘JQ∘JB∘JP) fun a Z I=>?_)
   obtain ⟨gq3,oq3,hq3,_⟩:=Rd.qm hyr (Nat.lt_of_le_of_lt (Nat.zero_le _) (show c<y.l.length from by omega)) de
   have hrq3:=hyr;rw [hq3] at hrq3
   replace Z:=Z.sp 58 (.slice (some ⟨gq3,oq3,none⟩) y.l.length y.c) rfl (by rw [hq3];try rfl)
   refine Jb Z I ((Jy (h:=by exact Yl.ix gq3 oq3 c 3 rfl rfl rfl)∘Jy (v:= .agg ((y.l.getD c Sp.zero).cells)) (h:=by exact Yl.loadS rfl rfl si_sp rfl (fun _ h=>(h.old hrq3).q7 qcu ((getD_at Sp.zero hc61))))∘Jo (.agg z.cells) (by rw [hz])∘JA #[vQ 0,vW 0,vQ 0]) fun w6 g6=>(JV si_sp O0' (h1:=by exact qyy z)) fun w12_3=>(Jd2∘Jj) fun a Z I=>?_)
   refine zb (fun aS wS=>Fr aS 123 [] [(91,.bool (!spOk x.sta g z)),(6,vP g6 0),(58,.slice (some ⟨gq3,oq3,none⟩) y.l.length y.c),(61,.bool true),(60,vI c),(59,vI y.l.length),(57,.bool false),(4,.slice y.A y.l.length y.c),(3,vI g),(45,.slice (some ⟨gq2,oq2,none⟩) x.rs.length x.sc),(48,.bool true),(47,vI g),(46,vI x.rs.length),(43,.bool false),(40,.bool false),(2,.bool false),(1,vP g1 0)]∧Mem w wS [.blk g6 z.cells 63,.blk g1 x.cells 38]) ?_ ?_
   ·
    refine Jb Z I ((Vs .n []) fun wd13=>(Vf 0 0∘Vf 2 1∘Vf 4 0∘Vf 5 2∘Vp [7]∘Vc 1 O0∘Vc 3 O0∘Vc 6 O1) fun a Z I HS=>?_)
    replace Z:=Z.sp 70 (.slice (some ⟨gq1,oq1,none⟩) x.gs.length x.gc) rfl (by rw [hq1];try rfl)
    refine Vb Z I HS ((Vy 8 (h:=by exact Yl.ix gq1 oq1 g 2 rfl rfl rfl)∘Vf 9 1∘Vy 10 (v:=vI ((x.gs.getD g Gr.zero).weight)) (h:=by exact Yl.qe rfl rfl kr (fun _ h=>(h.old hrq1).partAt zm (k:=g) (j:=1) (x:=(x.gs.getD g Gr.zero)) ((getD_at Gr.zero om)) rfl))∘Vo (vI wt) (by rw [hwt])∘VI 11 .n (h:=by exact fun I=>qy z.v z.r wt om _)) fun w75 hbw=>(VI 12 .n (h:=by exact fun I=>qfe z.v z.r wt om om om _)) fun w76 hbw=>(Vp [13,14]) fun a Z I HS=>?_)
    rcases Z.tf 78 rfl with ⟨hb78,Z⟩|⟨hb78,Z⟩
    ·
     refine Vb Z I HS ((Vq [15,16,17,18,19,20,21,22,23,24,25,26,27] [(91,.bool true)]∘Vd∘Jd6) fun a Z I=>?_)
     have Z:=Z.sp 91 (.bool (!spOk x.sta g z)) rfl (congrArg Value.bool (by rw [q2l (by rw [hwt];simpa using hb78)];rfl))
     exact ⟨Z.sub kr,I.pk [0,1]⟩
    refine ap Z (fun _=>HS) [15,16,17] (bt 28 [18,19,20,21,22,23,24,25,26,27]) [(81,.bool ((g:Int)==(0:Int)))] fun a Z=>?_
    refine Jb Z I (Je (fun hd81=>?_) fun hd81=>?_)
    ·
     intro a Z I
     refine ap Z (fun _=>HS) [18] (bt 28 [19,20,21,22,23,24,25,26,27]) [(82,vP g6 0)] fun a Z=>?_
     refine s_ac Z HS 19 0 (v:=vQ z.v) fun a Z=>?_
     refine ap Z (fun _=>HS) [20,21] (bt 28 [22,23,24,25,26,27]) [(85,.bool ((z.v:Int) !=(0:Int)))] fun a Z=>?_
     refine Jb Z I (Jh (fun hd85=>?_) fun hd85=>?_)
     ·
      intro a Z I
      refine ap Z (fun _=>HS) [22,23,24,25,26,27] (bt 28 []) [(91,.bool true)] fun a Z=>?_
      refine qb kr ?_
      have Z:=Z.sp 91 (.bool (!spOk x.sta g z)) rfl (congrArg Value.bool (by rw [q2m om om];rfl))
      exact ⟨Z.sub kr,I.pk [0,1]⟩
     intro a Z I
     refine ap Z (fun _=>HS) [22] (bt 28 [23,24,25,26,27]) [(86,vP g6 1)] fun a Z=>?_
     refine s_ac Z HS 23 0 (v:=vW z.r) fun a Z=>?_
     refine ap Z (fun _=>HS) [24,25,26,27] (bt 28 []) [(91,.bool ((z.r:Int) !=(0:Int)))] fun a Z=>?_
     refine qb kr ?_
     have Z:=Z.sp 91 (.bool (!spOk x.sta g z)) rfl (congrArg Value.bool (qz6 (by rw [hwt];simpa using hb78) om om))
     exact ⟨Z.sub kr,I.pk [0,1]⟩
    intro a Z I
    refine ap Z (fun _=>HS) [18,19,20,21,22,23,24,25,26,27] (bt 28 []) [(91,.bool false)] fun a Z=>?_
    refine qb kr ?_
    have Z:=Z.sp 91 (.bool (!spOk x.sta g z)) rfl (congrArg Value.bool (by rw [qz5 (by rw [hwt];simpa using hb78) om];rfl))
    exact ⟨Z.sub kr,I.pk [0,1]⟩
   clear Z I;rintro a w13 ⟨Z,I⟩
   refine Jb Z I (Ju (fun hb91=>?_) fun hb91=>?_)
   ·
    exact (JT∘JP∘Jp 1∘Jj∘JZ∘Jz1) fun I=>is_as (qy0 hg48 (qz4 hg48 (by rw [hy];exact hc61) (by rw [hy,hz];simpa using hb91))).symm I.below
   refine (JF∘JS'∘JR∘JaK 1∘Jp 1∘Jd1∘Jq) fun a Z I=>?_
   replace Z:=Z.sp 58 (.slice y.A y.l.length y.c) rfl (by rw [hq3])
   exact ⟨_,om,c+1,by omega,hu2.succ (by rw [hz];simpa using hb91),rfl,Z.sub kr,I.pk [1]⟩
  intro a Z I
  have hd61:=of_decide_eq_false hb61
  refine Jb Z I ((JF∘JX∘JG∘JR∘JaK 1∘Jp 1∘Jd1∘Jq) fun a Z I=>?_)
  replace Z:=Z.sp 45 (.slice x.sA x.rs.length x.sc) rfl (by rw [hq2])
  exact ⟨_,om,g+1,by omega,hu.succ (qs1 hg48 (by rw [hy];omega) (by rw [hy];exact fun i hi=>hu2 i om)),rfl,Z.sub kr,I.pk [0]⟩
 intro a Z I
 have hd48:=of_decide_eq_false hb48
 refine Jb Z I ((JF∘JX∘JG∘JQ∘JP∘Jg 5 O0∘Jl∘Jp 1∘Jj∘JB) fun a Z I=>?_)
 refine qj (fun mS aS wS=>∃(i:Nat),(i≤x.ts.length)∧(UpTo i (tkAt x.sta))∧mS=x.ts.length-i∧Fr aS 123 [] [(97,vI i),(96,vI x.ts.length),(95,.slice x.tA x.ts.length x.tc),(48,.bool false),(47,vI g),(46,vI x.rs.length),(45,.slice x.sA x.rs.length x.sc),(43,.bool false),(40,.bool false),(2,.bool false),(1,vP g1 0)]∧Mem w wS [.blk g1 x.cells 38]) (m:=x.ts.length-0) ⟨0,Nat.zero_le _,UpTo.zero,rfl,Z.sub kr,I.pk [0]⟩ ?_
 clear Z I;rintro mS a w_ ⟨i,hi,hu3,rfl,Z,I⟩
 refine Jb Z I ((JP∘Jp 1∘Jj∘JQ) (Ju (fun hb98=>?_) fun hb98=>?_))
 ·
  intro a Z I
  have hd98:=of_decide_eq_true hb98
  have hi98:i<x.ts.length:=by omega
  obtain ⟨t,ht⟩:∃q,x.ts.getD i Tk.zero=q:=⟨_,rfl⟩
  have htok:t.Ok:=by rw [←ht];exact hok.ts _ (qd Tk.zero hi98)
  have hti:=htok.id
  unfold I64 at hti
  refine Jb Z I ((JT∘JS'∘JQ∘JB∘JP∘Jp 1) fun a Z I=>?_)
  obtain ⟨gq4,oq4,hq4,_⟩:=Rd.qm hx.t (Nat.lt_of_le_of_lt (Nat.zero_le _) (show i<x.ts.length from by omega)) de
  have hrq4:=hx.t;rw [hq4] at hrq4
  replace Z:=Z.sp 95 (.slice (some ⟨gq4,oq4,none⟩) x.ts.length x.tc) rfl (by rw [hq4];try rfl)
  refine Jb Z I ((Jy (h:=by exact Yl.ix gq4 oq4 i 8 rfl rfl rfl)∘Jy (v:= .agg ((x.ts.getD i Tk.zero).cells)) (h:=by exact Yl.loadS rfl rfl si_tk rfl (fun _ h=>(h.old hrq4).q7 qf ((getD_at Tk.zero hi98))))∘Jo (.agg t.cells) (by rw [ht])∘JA #[vI 0,vI 0,vI 0,vI 0,vQ 0,.bool false,vQ 0,vW 0]) fun w8 g8=>(Jp 1∘JV si_tk O0' (h1:=by exact qid t)) fun w19_5=>(Jj) fun a Z I=>?_)
  refine zb (fun aS wS=>Fr aS 123 [] [(121,.bool (!tkAt x.sta i)),(7,vI i),(8,vP g8 0),(95,.slice (some ⟨gq4,oq4,none⟩) x.ts.length x.tc),(98,.bool true),(97,vI i),(96,vI x.ts.length),(48,.bool false),(47,vI g),(46,vI x.rs.length),(45,.slice x.sA x.rs.length x.sc),(43,.bool false),(40,.bool false),(2,.bool false),(1,vP g1 0)]∧Mem w wS [.blk g8 t.cells 61,.blk g1 x.cells 38]) ?_ ?_
  ·
   refine Jb Z I ((Vs .n []) fun wd20=>(Vp [0,1,2]) fun a Z I HS=>?_)
   rcases Z.tf 104 rfl with ⟨hb104,Z⟩|⟨hb104,Z⟩
   ·
    have hd104:=of_decide_eq_true hb104
    refine Vb Z I HS ((Vf 3 5∘Vp [5]∘Vf 10 0∘Vc 4 O1∘VsK 6 1) fun a Z I HS=>?_)
    replace Z:=Z.sp 106 (.slice (some ⟨gq4,oq4,none⟩) x.ts.length x.tc) rfl (by rw [hq4];try rfl)
    refine Vb Z I HS ((Vy 7 (h:=by exact Yl.ix gq4 oq4 (i-1) 8 rfl rfl rfl)∘Vf 8 0∘Vy 9 (v:=vI ((x.ts.getD (i-1) Tk.zero).id)) (h:=by exact Yl.qe rfl rfl kr (fun _ h=>(by have:=(h.old hrq4).partAt qf (k:=(i-1)) (j:=0) (x:=(x.ts.getD (i-1) Tk.zero)) ((getD_at Tk.zero (k:=(i-1)) (by first|omega|(simp;omega)))) rfl;simpa using this)))∘Vc 11 O0∘Vp [12,13,14]) fun a Z I HS=>?_)
    rcases Z.tf 116 rfl with ⟨hb116,Z⟩|⟨hb116,Z⟩
    ·
     have hd116:=of_decide_eq_true hb116
     refine Vb Z I HS ((Vp [15,16,17,18,19]∘Vd∘Jd6) fun a Z I=>?_)
     have Z:=Z.sp 121 (.bool (!tkAt x.sta i)) rfl (congrArg Value.bool (by rw [qwi om (by rw [ht];omega)];rfl))
     exact ⟨Z.sub kr,I.pk [0,1]⟩
    have hd116:=of_decide_eq_false hb116
    refine s_az Z HS 15 rfl (v:= .agg x.cells) (Yl.loadS rfl rfl si_st rfl (fun _ h=>qa (h.blk (i:=1) rfl))) fun a Z=>?_
    refine s_az Z HS 16 rfl (v:= .agg t.cells) (Yl.loadS rfl rfl si_tk rfl (fun _ h=>qa (h.blk (i:=0) rfl))) fun a Z=>?_
    refine s_on Z 17 rfl (e_is Z I [.agg x.cells,.agg t.cells] (.bool (tkOk1 x.sta t)) rfl rfl (qer x t htok hcp hf.s _) fun w119 hbw I a Z=>?_)
    refine keepS (I.pk [0,1]) (fun HS=>?_)
    refine ap Z (fun _=>HS) [18,19] (bt 20 []) [(121,.bool (!(tkOk1 x.sta t)))] fun a Z=>?_
    refine qb kr ?_
    have Z:=Z.sp 121 (.bool (!tkAt x.sta i)) rfl (congrArg Value.bool (by rw [qs2 (by rw [ht];omega),ht]))
    exact ⟨Z.sub kr,I.pk [0,1]⟩
   have hd104:=of_decide_eq_false hb104
   refine ap Z (fun _=>HS) [3,4,5,6,7,8,9,10,11,12,13,14] (bt 20 [15,16,17,18,19]) [(116,.bool false)] fun a Z=>?_
   refine s_az Z HS 15 rfl (v:= .agg x.cells) (Yl.loadS rfl rfl si_st rfl (fun _ h=>qa (h.blk (i:=1) rfl))) fun a Z=>?_
   refine s_az Z HS 16 rfl (v:= .agg t.cells) (Yl.loadS rfl rfl si_tk rfl (fun _ h=>qa (h.blk (i:=0) rfl))) fun a Z=>?_
   refine s_on Z 17 rfl (e_is Z I [.agg x.cells,.agg t.cells] (.bool (tkOk1 x.sta t)) rfl rfl (qer x t htok hcp hf.s _) fun w119 hbw I a Z=>?_)
   refine keepS (I.pk [0,1]) (fun HS=>?_)
   refine ap Z (fun _=>HS) [18,19] (bt 20 []) [(121,.bool (!(tkOk1 x.sta t)))] fun a Z=>?_
   refine qb kr ?_
   have Z:=Z.sp 121 (.bool (!tkAt x.sta i)) rfl (congrArg Value.bool (by rw [qs2 (by rw [ht];omega),ht]))
   exact ⟨Z.sub kr,I.pk [0,1]⟩
  clear Z I;rintro a w20 ⟨Z,I⟩
  refine Jb Z I (Ju (fun hb121=>?_) fun hb121=>?_)
  ·
   exact (JT∘JP∘Jp 1∘Jj∘JZ∘Jz1) fun I=>is_as (sh_tk hi98 (by simpa using hb121)).symm I.below
  refine (JF∘JS'∘JR∘JaK 1∘Jp 1∘Jd1∘Jq) fun a Z I=>?_
  replace Z:=Z.sp 95 (.slice x.tA x.ts.length x.tc) rfl (by rw [hq4])
  exact ⟨_,om,i+1,by omega,hu3.succ (by simpa using hb121),rfl,Z.sub kr,I.pk [1]⟩
 intro a Z I
 have hd98:=of_decide_eq_false hb98
 exact Jb Z I ((JF∘JX∘JG∘JP∘Jp 1∘Jj∘JZ∘Jz1) fun I=>is_as (q2k hcf om hcl (fun i hi=>hu i om) (fun j hj=>hu3 j om)).symm I.below)
theorem q2q {l:List Tk} {id:Int} {m:Nat} (hs:SortT l) (hm:m<l.length) (h:(l.getD m Tk.zero).id<id):∀k,k<m+1→(l.getD k Tk.zero).id<id:=fun k hk=>by
 rcases Nat.lt_or_ge k m with h1|h1
 ·have:=hs k m h1 hm;omega
 ·obtain rfl:k=m:=by omega
  exact h
theorem q0e {l:List Tk} {id:Int} {m:Nat} (hs:SortT l) (hm:m<l.length) (h:id≤(l.getD m Tk.zero).id):∀k,m≤k→k<l.length→id≤(l.getD k Tk.zero).id:=fun k hk hl=>by
 rcases Nat.lt_or_ge m k with h1|h1
 ·have:=hs m k h1 hl;omega
 ·obtain rfl:k=m:=by omega
  exact h
theorem qm7 {w w':World} {l:List Tk} {id:Int} {i:Nat} (hi:i=l.length) (h1:∀k,k<i→(l.getD k Tk.zero).id<id) (hb:Below w.heap.size w w'):qf3 w l id (.returned (.tuple #[vI i,.bool false])) w':=by
 subst hi
 exact search_end h1 hb
theorem qcj:SI Tryz.prog 151 3:=⟨by kernel_rfl,by kernel_rfl⟩
theorem nan_i (p:Int) (w:World):Calls Tryz.prog 150 #[vI p] w (Is w (.bool false)):=by
 refine (JN1 Tryz.func150 6) ?_
 exact (JP∘Jp 1∘Jr∘Jp 3∘Jo (.bool false) (by simp)∘Jp 1∘Jd3∘Jj∘JZ) JY1
theorem cmp_i (p q:Int) (w:World):Calls Tryz.prog 128 #[vI p,vI q] w (Is w (vI (cmpI p q))):=by
 refine (JN2 Tryz.func128 20) ?_
 refine (JP∘Jp 1∘Jr∘Jp 1∘JL (h:=by exact fun I=>nan_i _ _)) ?_
 rintro I _ w8 ⟨rfl,hbw⟩
 refine ⟨_,rfl,_,I.call hbw,?_⟩
 refine (Jp 1∘Jd2∘Jr∘Jp 1∘JL (h:=by exact fun I=>nan_i _ _)) ?_
 rintro I _ w10 ⟨rfl,hbw⟩
 refine ⟨_,rfl,_,I.call hbw,?_⟩
 refine (Jp 1∘Jd2∘Jj∘JQ∘JP∘Jp 1∘Jj∘JF∘JS'∘JQ∘JP∘Jp 1∘Jj∘JF∘JS'∘JQ∘JP∘Jp 3∘Jd2∘Jj) (Ji (fun hd16=>?_) fun hd16=>?_)
 ·
  exact (JT∘JP∘Jp 1∘Jj∘JZ∘Jz1) fun I=>by exact ⟨by rw [show cmpI p q= -1 from if_pos om],I.below⟩
 refine (JF∘JS'∘JQ∘JP∘Jp 3∘Jd2∘Jj) (Ji (fun hd19=>?_) fun hd19=>?_)
 ·
  exact (JT∘JP∘Jp 1∘Jj∘JZ∘Jz1) fun I=>by exact ⟨by rw [show cmpI p q=1 from (if_neg om).trans (if_pos om)],I.below⟩
 exact (JF∘JS'∘JP∘Jp 1∘Jj∘JZ∘Jz1) fun I=>by exact ⟨by rw [show cmpI p q=0 from (if_neg om).trans (if_neg om)],I.below⟩
theorem nan_u (p:Nat) (w:World):Calls Tryz.prog 157 #[vQ p] w (Is w (.bool false)):=by
 refine (JN1 Tryz.func157 6) ?_
 exact (JP∘Jp 1∘Jr∘Jp 3∘Jo (.bool false) (by simp)∘Jp 1∘Jd3∘Jj∘JZ) JY1
theorem cmp_u (p q:Nat) (w:World):Calls Tryz.prog 151 #[vQ p,vQ q] w (Is w (vI (cmpI (p:Int) (q:Int)))):=by
 refine (JN2 Tryz.func151 20) ?_
 refine (JP∘Jp 1∘Jr∘Jp 1∘JL (h:=by exact fun I=>nan_u _ _)) ?_
 rintro I _ w8 ⟨rfl,hbw⟩
 refine ⟨_,rfl,_,I.call hbw,?_⟩
 refine (Jp 1∘Jd2∘Jr∘Jp 1∘JL (h:=by exact fun I=>nan_u _ _)) ?_
 rintro I _ w10 ⟨rfl,hbw⟩
 refine ⟨_,rfl,_,I.call hbw,?_⟩
 refine (Jp 1∘Jd2∘Jj∘JQ∘JP∘Jp 1∘Jj∘JF∘JS'∘JQ∘JP∘Jp 1∘Jj∘JF∘JS'∘JQ∘JP∘Jp 3∘Jd2∘Jj) (Ji (fun hd16=>?_) fun hd16=>?_)
 ·
  exact (JT∘JP∘Jp 1∘Jj∘JZ∘Jz1) fun I=>by exact ⟨by rw [show cmpI (p:Int) (q:Int)= -1 from if_pos om],I.below⟩
 refine (JF∘JS'∘JQ∘JP∘Jp 3∘Jd2∘Jj) (Ji (fun hd19=>?_) fun hd19=>?_)
 ·
  exact (JT∘JP∘Jp 1∘Jj∘JZ∘Jz1) fun I=>by exact ⟨by rw [show cmpI (p:Int) (q:Int)=1 from (if_neg om).trans (if_pos om)],I.below⟩
 exact (JF∘JS'∘JP∘Jp 1∘Jj∘JZ∘Jz1) fun I=>by exact ⟨by rw [show cmpI (p:Int) (q:Int)=0 from (if_neg om).trans (if_neg om)],I.below⟩
theorem qk4 (t:Tk) (id:Int) (w:World):Calls Tryz.prog 127 #[.agg t.cells,vI id] w (Is w (vI (cmpI t.id id))):=by
 refine (JN2 Tryz.func127 9) ?_
 refine (JP∘JE) fun w2 g2=>(Jp 1∘Jr∘Jg 0 O0∘Jp 1∘JL (h:=by exact fun I=>cmp_i t.id id _)) ?_
 rintro I _ w8 ⟨rfl,hbw⟩
 refine ⟨_,rfl,_,I.call hbw,?_⟩
 exact (Jp 1∘Jd3∘Jj∘JZ) JY1
theorem qqb (A:Option Addr) (c:Nat) (l:List Tk) (id:Int) (hs:SortT l) (w:World) (hr:Rd w w.heap.size 8 A l.length (l.flatMap tkL)) (hn:l.length≤1000000):
    Calls Tryz.prog 126 #[.slice A l.length c,vI id,.func (.func 127) #[] #[]] w (qf3 w l id):=by
 refine (JN3 Tryz.func126 49) ?_
 refine (JP∘Jp 2∘Jr∘Jp 1∘Jl∘Jp 1∘Jd2∘Jr∘Jp 3∘Jj∘JQ∘JB) fun a Z I=>?_
 refine qj (fun mS aS wS=>∃(i:Nat) (j:Nat),(i≤j)∧(j≤l.length)∧(∀k,k<i→(l.getD k Tk.zero).id<id)∧(∀k,j≤k→k<l.length→id≤(l.getD k Tk.zero).id)∧mS=j-i∧Fr aS 49 [] [(10,vI j),(9,vI i),(8,vI l.length),(7,.bool false),(6,vI 0),(0,.slice A l.length c),(1,vI id),(2,.func (.func 127) #[] #[])]∧Mem w wS []) (m:=l.length-0) ⟨0,l.length,Nat.zero_le _,Nat.le_refl _,fun k h=>by omega,fun k h1 h2=>by omega,rfl,Z.sub kr,I.pk []⟩ ?_
 clear Z I;rintro mS a w_ ⟨i,j,hij,hj,h1,h2,rfl,Z,I⟩
 refine Jb Z I ((JQ∘JP∘Jp 3∘Jd2∘Jj) (Ju (fun hb17=>?_) fun hb17=>?_))
 ·
  intro a Z I
  have hd17:=of_decide_eq_true hb17
  have hmid:i≤((i+j)/2)∧((i+j)/2)<j:=by omega
  refine Jb Z I ((JT∘JS'∘JB∘JP∘Jp 2∘Ja∘Jw .u64∘Jp 1∘Jo (vQ ((i+j)/2:Nat)) (by exact qbt .u64 (i+j) (j:=1) (q:=2) rfl rfl)∘Jw .i64∘Jp 1∘Jd6∘Jr∘Jp 3) ?_)
  repeat (first|clear Z|clear I)
  intro a Z I
  obtain ⟨gA,oA,rfl,_⟩:=hr.qm (Nat.lt_of_le_of_lt (Nat.zero_le _) (show (i+j)/2<l.length from by omega)) de
  refine Jb Z I ((Jy (h:=by exact Yl.ix gA oA ((i+j)/2) 8 rfl rfl rfl)∘Jy (v:= .agg ((l.getD ((i+j)/2) Tk.zero).cells)) (h:=by exact Yl.loadS rfl rfl si_tk rfl (fun _ h=>(h.old hr).q7 qf ((getD_at Tk.zero om))))∘Jp 1) fun a Z I=>?_)
  refine fo Z 6 rfl rfl ?_
  refine qag Z (f:=127) (vs:=[.agg ((l.getD ((i+j)/2) Tk.zero).cells),vI id]) (fst:=[]) (caps:=[]) rfl rfl rfl kr rfl de (qk4 (l.getD ((i+j)/2) Tk.zero) id _) ?_
  rintro _ w30 ⟨rfl,hbw⟩
  refine ⟨_,rfl,?_⟩
  replace I:=I.call hbw
  clear Z;intro a Z
  refine Jb Z I ((Jp 1∘Jo (.bool (decide ((l.getD ((i+j)/2) Tk.zero).id<id))) (by exact congrArg Value.bool qs3)∘Jd6∘Jj) (Ju (fun hb31=>?_) fun hb31=>?_))
  ·
   intro a Z I
   have hd31:=of_decide_eq_true hb31
   have hlt:(l.getD ((i+j)/2) Tk.zero).id<id:=by simpa using hb31
   refine Jb Z I ((JT∘JR∘Jp 1∘JaK 1∘Jp 1∘Jd2∘Jq) fun a Z I=>?_)
   exact ⟨_,om,(((i+j)/2)+1),j,by omega,hj,q2q hs om hlt,h2,rfl,Z.sub kr,I.pk []⟩
  intro a Z I
  have hd31:=of_decide_eq_false hb31
  have hge:¬(l.getD ((i+j)/2) Tk.zero).id<id:=by simpa using hb31
  refine Jb Z I ((JF∘JR∘Jp 2∘Jd1∘Jq) fun a Z I=>?_)
  exact ⟨_,om,i,((i+j)/2),by omega,by omega,h1,q0e hs om om,rfl,Z.sub kr,I.pk []⟩
 intro a Z I
 have hd17:=of_decide_eq_false hb17
 revert I;revert a;repeat (first|clear Z|clear I)
 intro a Z I
 obtain rfl:i=j:=by omega
 refine Jb Z I ((JF∘JX∘JG∘JP∘Jp 5) (Ji (fun hd39=>?_) fun hd39=>?_))
 ·
  refine (Jp 3) ?_
  repeat (first|clear Z|clear I)
  intro a Z I
  obtain ⟨gA,oA,rfl,_⟩:=hr.qm (Nat.lt_of_le_of_lt (Nat.zero_le _) (show i<l.length from by omega)) de
  refine Jb Z I ((Jy (h:=by exact Yl.ix gA oA i 8 rfl rfl rfl)∘Jy (v:= .agg ((l.getD i Tk.zero).cells)) (h:=by exact Yl.loadS rfl rfl si_tk rfl (fun _ h=>(h.old hr).q7 qf ((getD_at Tk.zero om))))∘Jp 1) fun a Z I=>?_)
  refine fo Z 11 rfl rfl ?_
  refine qag Z (f:=127) (vs:=[.agg ((l.getD i Tk.zero).cells),vI id]) (fst:=[]) (caps:=[]) rfl rfl rfl kr rfl de (qk4 (l.getD i Tk.zero) id _) ?_
  rintro _ w46 ⟨rfl,hbw⟩
  refine ⟨_,rfl,?_⟩
  replace I:=I.call hbw
  clear Z;intro a Z
  exact Jb Z I ((Jp 1∘Jo (.bool (decide ((l.getD i Tk.zero).id=id))) (by exact congrArg Value.bool qs4)∘Jp 3∘Jj∘JZ∘Jz2) fun I=>qs7 hs om h1 h2 I.below)
 exact (Jv 11 [(7,.bool false),(6,vI i)]∘Jj∘JZ∘Jz2) fun I=>qm7 om h1 I.below
theorem qk5 (x:Stm) (gm:Nat) (id:Int) (hs:SortT x.ts) (w:World) (hm:w.heap[gm]?=some (.cells #[vI x.cpus,vQ x.credit,.slice x.gA x.gs.length x.gc,.slice x.lA x.cl.length x.lc,.slice x.uA x.cu.length x.uc,.slice x.tA x.ts.length x.tc,.slice x.sA x.rs.length x.sc,.bool true] 138 (0,0))) (ht:Rd w w.heap.size 8 x.tA x.ts.length (x.ts.flatMap tkL)) (hn:x.ts.length≤1000000):
    Calls Tryz.prog 83 #[vP gm 0,vI id] w (Is w (vI (fidx x.ts id))):=by
 refine (JN2 Tryz.func83 20) ?_
 refine (JP∘Jp 1∘Jr∘Jp 1∘Jn∘Jf 0∘Jf 5∘Jy (v:= .slice x.tA x.ts.length x.tc) (h:=by exact Yl.qe rfl rfl kr (fun _ h=>h.qcc hm rfl))∘Jp 1∘JL (h:=by exact fun I=>qqb x.tA x.tc x.ts id hs _ (I.old ht) hn)) ?_
 rintro I _ w14 ⟨⟨i,b,rfl,hil,hib⟩,hbw⟩
 refine ⟨_,rfl,_,I.call hbw,?_⟩
 refine (Jp 1∘Jx∘Jx∘Jp 2∘Jj∘JQ∘JP∘Jp 2∘Jd2∘Jj) (Ju (fun hb18=>?_) fun hb18=>?_)
 ·
  exact (JT∘JP∘Jp 1∘Jj∘JZ∘Jz1) fun I=>by exact ⟨by rw [←hib,if_neg (by simpa using hb18)],I.below⟩
 exact (JF∘JS'∘JP∘Jp 2∘Jd1∘Jj∘JZ∘Jz1) fun I=>by exact ⟨by rw [←hib,if_pos (by simpa using hb18)],I.below⟩
def qm8 (x:Stm) (gm c g:Nat):Prop:=∀w:World,StRd w x→w.heap[gm]?=some (.cells #[vI x.cpus,vQ x.credit,.slice x.gA x.gs.length x.gc,.slice x.lA x.cl.length x.lc,.slice x.uA x.cu.length x.uc,.slice x.tA x.ts.length x.tc,.slice x.sA x.rs.length x.sc,.bool true] 138 (0,0))→Calls Tryz.prog 84 #[vP gm 0,vI g,vI c] w (Is w (.tuple #[.agg (bestM topM (memS x.sta g c)).cells,.bool (!(memS x.sta g c).isEmpty)]))
theorem tk_id {x:Stm} {i:Nat} (h:tkAt x.sta i=true):1≤(x.ts.getD i Tk.zero).id∧(x.ts.getD i Tk.zero).id≤65535:=by
 have h1:=(qgt h).2
 unfold tkOk1 at h1
 rw [Bool.and_eq_true,decide_eq_true_eq] at h1
 exact ⟨h1.1.1,h1.1.2.1⟩
theorem qqc {p:Nat→Prop} {k:Nat} (h:∀i,i<k→p i) (hk:p k):∀i,i<k+1→p i:=fun i hi=>by
 rcases Nat.lt_or_ge i k with h1|h1
 ·exact h i h1
 ·obtain rfl:i=k:=by omega
  exact hk
theorem qk6 (m n:Mb) (A A2:Option Addr) (c c2:Nat) (w:World) (hr:Rd w w.heap.size 1 A 3 (m.nums.map U64)) (hr2:Rd w w.heap.size 1 A2 3 (n.nums.map U64)):
    Calls Tryz.prog 130 #[.slice A 3 c,.slice A2 3 c2] w (MbCmp w m n):=by
 refine (JN2 Tryz.func130 36) ?_
 refine (JP∘Jp 1∘Jj∘JQ∘JP∘Jp 1∘Jl∘Jp 1∘Jj∘JB) fun a Z I=>?_
 refine qj (fun mS aS wS=>∃(k:Nat),(k≤3)∧(∀i,i<k→m.nums.getD i 0=n.nums.getD i 0)∧mS=3-k∧Fr aS 36 [] [(11,vI k),(10,vI 3),(9,.slice A 3 c),(4,vI 0),(0,.slice A 3 c),(1,.slice A2 3 c2)]∧Mem w wS []) (m:=3-0) ⟨0,by decide,fun i h=>by omega,rfl,Z.sub kr,I.pk []⟩ ?_
 clear Z I;rintro mS a w_ ⟨k,hk,he,rfl,Z,I⟩
 refine Jb Z I ((JP∘Jp 1∘Jj∘JQ) (Ju (fun hb12=>?_) fun hb12=>?_))
 ·
  intro a Z I
  have hd12:=of_decide_eq_true hb12
  have hk12:k<3:=by omega
  refine Jb Z I ((JT∘JS'∘JQ∘JB∘JP∘Jp 1) ?_)
  repeat (first|clear Z|clear I)
  intro a Z I
  obtain ⟨gA,oA,rfl,_⟩:=hr.qm (Nat.lt_of_le_of_lt (Nat.zero_le _) (show k<3 from by omega)) de
  refine Jb Z I ((Jy (h:=by exact Yl.ix gA oA k 1 rfl rfl rfl)∘Jy (h:=by exact Yl.o1 hr k 0 (show k<3 by omega) rfl rfl)∘Jp 2∘Jj∘JQ∘JP∘Jp 2∘Jl∘Jp 1∘Jo (.bool false) (by exact congrArg Value.bool (decide_eq_false om))∘Jd3∘Jj∘JF∘JS'∘JP∘Jp 2) ?_)
  repeat (first|clear Z|clear I)
  intro a Z I
  obtain ⟨gA2,oA2,rfl,_⟩:=hr2.qm (Nat.lt_of_le_of_lt (Nat.zero_le _) (show k<3 from by omega)) de
  refine Jb Z I ((Jy (h:=by exact Yl.ix gA2 oA2 k 1 rfl rfl rfl)∘Jy (h:=by exact Yl.o1 hr2 k 0 (show k<3 by omega) rfl rfl)∘Jp 1∘Jd4∘Jr∘Jp 2∘JL (h:=by exact fun I=>cmp_u (m.nums.getD k 0) (n.nums.getD k 0) _)) ?_)
  rintro I _ w26 ⟨rfl,hbw⟩
  refine ⟨_,rfl,_,I.call hbw,?_⟩
  refine (Jp 1∘Jd3∘Jr∘Jp 2∘Jo (.bool (decide (((m.nums.getD k 0):Int)≠((n.nums.getD k 0):Int)))) (by exact congrArg Value.bool qz7)∘Jd1∘Jj) (Ji (fun hd28=>?_) fun hd28=>?_)
  ·
   exact (JT∘JP∘Jp 2∘Jd1∘Jj∘JZ∘Jz1) fun I=>qwl hk12 he om I.below
  refine (JF∘JS'∘JR∘JaK 1∘Jp 1∘Jd1∘Jq) fun a Z I=>?_
  exact ⟨_,om,k+1,by omega,qqc he om,rfl,Z.sub kr,I.pk []⟩
 intro a Z I
 have hd12:=of_decide_eq_false hb12
 exact Jb Z I ((JF∘JX∘JG∘JQ∘JP∘Jp 1∘Jl∘Jp 1∘Jl∘Jv 1 [(35,.bool false)]∘Jd4∘Jj∘JF∘JS'∘JP∘Jp 1∘Jj∘JZ∘Jz1) fun I=>qwm (fun i hi=>he i om) I.below)
theorem qy1 (m:Mb) (w:World):Calls Tryz.prog 85 #[.agg m.cells] w (Is w (vQ (m.v:Int))):=by
 refine (JN1 Tryz.func85 5) ?_
 exact (JP∘JE) fun w1 g1=>(Jp 1∘Jr∘Jy (v:=vP g1 0) (h:=by exact Yl.z8 (ad:=⟨g1,0,none⟩) (m:=3) (y:=0) (sz:=1) rfl rfl rfl kr de)∘Jc O0∘Jp 1∘Jd2∘Jj∘JZ) JY1
theorem q0f (W w:World) (gs gb:Nat) (sm:Bool) (m n:Mb) (fs:List Fact) (I:Mem W w (.blk gs #[.bool sm] 4:: .blk gb n.cells 151::fs)):
    Calls Tryz.prog 129 ([.agg m.cells,vP gs 0,vP gb 0]:List Value).toArray w fun r w'=>r= .returned (.tuple #[])∧Mem W w' (.blk gs #[.bool true] 4:: .blk gb (if m.lt n then m else n).cells 151::fs):=by
 refine s_ce Tryz.func129 [.agg m.cells,vP gs 0,vP gb 0] [(0,.agg m.cells),(1,vP gs 0),(2,vP gb 0)] fun a Z=>?_
 refine Jb Z I ((JP∘JE) fun w3 g3=>(Jd1∘Jr∘JW O1' O0') fun w1_0=>(Jd1∘Jj) fun a Z I=>?_)
 refine wp_seq ?_
 refine Jb Z I ((Vs .n []) fun wd2=>(Vy 0 (v:=vS g3 3 3) (h:=by exact Yl.qpx (n:=3) (sz:=1) rfl rfl kr)∘Vy 1 (v:=vS gb 3 3) (h:=by exact Yl.qpx (n:=3) (sz:=1) rfl rfl kr)) fun a Z I HS=>?_)
 refine s_on Z 2 rfl ?_
 refine e_cl Z [vS g3 3 3,vS gb 3 3] rfl rfl (qk6 m n (some ⟨g3,0,none⟩) (some ⟨gb,0,none⟩) 3 3 _ (I.rdBlk (i:=0) (n:=3) (size:=1) rfl rfl) (I.rdBlk (i:=2) (n:=3) (size:=1) rfl rfl)) ?_
 rintro _ w6 ⟨⟨cc,rfl,hcc⟩,hbw⟩
 refine ⟨_,rfl,?_⟩
 replace I:=I.call hbw
 clear Z;intro a Z
 refine keepS (I.pt 3 [0,1,2]) (fun HS=>?_)
 refine Vb Z I HS ((Vq [3] [(7,.bool (decide ((cc:Int)<(0:Int))))]∘Vo (.bool (m.lt n)) (by exact congrArg Value.bool hcc)∘Vd∘Jd3) (Ju (fun hb7=>?_) fun hb7=>?_))
 ·
  refine (JT∘JR∘Jy (v:= .agg m.cells) (h:=by exact Yl.loadS rfl rfl qcj rfl (fun _ h=>qa (h.blk (i:=0) rfl)))∘JV qcj O2' (h1:=by exact qgv m)) fun w3_1=>(Jt1∘Jq) fun a Z I=>?_
  refine norm0 rfl Z ⟨rfl,?_⟩
  rw [if_pos hb7]
  exact I.pt 3 [1,2]
 refine (JF∘JS) fun a Z I=>?_
 refine norm0 rfl Z ⟨rfl,?_⟩
 rw [if_neg (by rw [hb7];decide)]
 exact I.pt 3 [1,2]
theorem qy2 (W w:World) (gs gb:Nat) (sm:Bool) (m:Mb) (q:List Mb) (fs:List Fact) (I:Mem W w (.blk gs #[.bool sm] 4:: .blk gb (bestM topM q).cells 151::fs)):
  Calls Tryz.prog 129 ([.agg m.cells,vP gs 0,vP gb 0]:List Value).toArray w fun r w'=>r= .returned (.tuple #[])∧Mem W w' (.blk gs #[.bool (!(q++[m]).isEmpty)] 4:: .blk gb (bestM topM (q++[m])).cells 151::fs):=by
 have h1:=q0f W w gs gb sm m _ fs I
 rw [←qp7] at h1
 rw [show (!(q++[m]).isEmpty)=true from by simp]
 exact h1
theorem qqd (x:Stm) (hok:x.sta.Ok) (hf:StFew x) (hsh:ShAt x) (gm c:Nat) (hc:(c:Int)<x.cpus) (g:Nat) (hg:g<x.rs.length) (ih:∀h,g<h→h<x.rs.length→qm8 x gm c h):qm8 x gm c g:=by
 intro w hx hm
 have hfs:=hf.s;have hft:=hf.t;have hfg:=hf.g;have hrl:=hsh.rs;have hto:=hok.ts
 obtain ⟨hc1,hc2,_,_⟩:=zq hsh.cfg
 refine (JN3 Tryz.func84 102) ?_
 refine (JP∘JA #[vQ 0,vQ 0,vQ 0]) fun w6 g6=>(Jp 1∘Jr∘Jy (v:= .agg #[vQ 18446744073709551615,vQ 18446744073709551615,vQ 18446744073709551615]) (h:=by exact Yl.qme (n:=3) (sz:=1) (vs:=[(0,vQ 18446744073709551615),(1,vQ 18446744073709551615),(2,vQ 18446744073709551615)]) rfl rfl kr kr)∘JA #[vQ 0,vQ 0,vQ 0]) fun w8 g8=>(JA #[.bool false]) fun w9 g9=>(JV qcj O1') fun w1_3=>(JW O0' O0') fun w1_4=>(Jr∘Jy (h:=by exact Yl.makeFunc (fst:=[]) (caps:=[vP g9 0,vP g8 0]) rfl rfl rfl)∘Jp 1∘Jd1∘Jq) fun a Z I=>?_
 replace I:=I.asBlk (i:=1) (ds:=(bestM topM []).cells) rfl rfl
 refine Jb Z I ((JG∘JQ∘JP∘Jp 1∘Jn∘Jf 0∘Jf 5∘Jy (v:= .slice x.tA x.ts.length x.tc) (h:=by exact Yl.qe rfl rfl kr (fun _ h=>h.qcc hm rfl))∘Jl∘Jp 1∘Jj∘JB) fun a Z I=>?_)
 refine qj (fun mS aS wS=>∃(i:Nat) (q:List Mb),(i≤x.ts.length)∧(q=(x.ts.take i).filterMap (tkM · g c))∧mS=x.ts.length-i∧Fr aS 102 [] [(24,vI i),(23,vI x.ts.length),(22,.slice x.tA x.ts.length x.tc),(10,.func (.func 129) #[] #[vP g9 0,vP g8 0]),(9,vP g9 0),(8,vP g8 0),(7,.bool false),(6,vP g6 0),(0,vP gm 0),(1,vI g),(2,vI c)]∧Mem w wS [.blk g9 #[.bool (!q.isEmpty)] 4,.blk g8 ((bestM topM q).cells) 151,.blk g6 #[vQ 0,vQ 0,vQ 0] 151]) (m:=x.ts.length-0) ⟨0,[],Nat.zero_le _,rfl,rfl,Z.sub kr,I.pk [0,1,2]⟩ ?_
 clear Z I;rintro mS a w_ ⟨i,q,hi,hq,rfl,Z,I⟩
 refine Jb Z I ((JP∘Jp 1∘Jj∘JQ) (Ju (fun hb25=>?_) fun hb25=>?_))
 ·
  intro a Z I
  have hd25:=of_decide_eq_true hb25
  have hi25:i<x.ts.length:=by omega
  obtain ⟨t,ht⟩:∃z,(x.ts.getD i Tk.zero)=z:=⟨_,rfl⟩
  have htid:=tk_id (hsh.tk i hi25)
  rw [ht] at htid
  refine Jb Z I ((JT∘JS'∘JQ∘JB∘JP) fun a Z I=>?_)
  obtain ⟨gq1,oq1,hq1,_⟩:=Rd.qm hx.t (Nat.lt_of_le_of_lt (Nat.zero_le _) (show i<x.ts.length from by omega)) de
  have hrq1:=hx.t;rw [hq1] at hrq1
  replace Z:=Z.sp 22 (.slice (some ⟨gq1,oq1,none⟩) x.ts.length x.tc) rfl (by rw [hq1];try rfl)
  refine Jb Z I ((Jy (h:=by exact Yl.ix gq1 oq1 i 8 rfl rfl rfl)∘Jy (v:= .agg ((x.ts.getD i Tk.zero).cells)) (h:=by exact Yl.loadS rfl rfl si_tk rfl (fun _ h=>(h.old hrq1).q7 qf ((getD_at Tk.zero hi25))))∘Jo (.agg t.cells) (by rw [ht])∘JA #[vI 0,vI 0,vI 0,vI 0,vQ 0,.bool false,vQ 0,vW 0]) fun w12 g12=>(JV si_tk O0' (h1:=by exact qid t)) fun w5_3=>(Jd2∘Jj) fun a Z I=>?_)
  refine zb (fun aS wS=>Fr aS 102 [] [(41,.bool (t.here g c)),(12,vP g12 0),(22,.slice (some ⟨gq1,oq1,none⟩) x.ts.length x.tc),(25,.bool true),(24,vI i),(23,vI x.ts.length),(10,.func (.func 129) #[] #[vP g9 0,vP g8 0]),(9,vP g9 0),(8,vP g8 0),(7,.bool false),(6,vP g6 0),(0,vP gm 0),(1,vI g),(2,vI c)]∧Mem w wS [.blk g12 t.cells 61,.blk g9 #[.bool (!q.isEmpty)] 4,.blk g8 ((bestM topM q).cells) 151,.blk g6 #[vQ 0,vQ 0,vQ 0] 151]) ?_ ?_
  ·
   refine qbi ?_
   refine Jb Z I ((Jg 5 O0∘Jp 1) (Ju (fun hb30=>?_) fun hb30=>?_))
   ·
    refine (Jg 1 O0∘Jp 4) (Je (fun hd36=>?_) fun hd36=>?_)
    ·
     refine (Jg 3 O0∘Jp 3∘Jd6∘Jq) fun a Z I=>?_
     have Z:=Z.sp 41 (.bool (t.here g c)) rfl (congrArg Value.bool (by unfold Tk.here;rw [hb30,decide_eq_true om,Bool.true_and,Bool.true_and,Bool.eq_iff_iff,beq_iff_eq,decide_eq_true_eq]))
     exact ⟨Z.sub kr,I.pk [0,1,2,3]⟩
    refine (Jp 5∘Jd6∘Jq) fun a Z I=>?_
    have Z:=Z.sp 41 (.bool (t.here g c)) rfl (congrArg Value.bool (by unfold Tk.here;rw [hb30,decide_eq_false om];rfl))
    exact ⟨Z.sub kr,I.pk [0,1,2,3]⟩
   refine (Jv 11 [(41,.bool false)]∘Jd2∘Jq) fun a Z I=>?_
   have Z:=Z.sp 41 (.bool (t.here g c)) rfl (congrArg Value.bool (by unfold Tk.here;rw [hb30];rfl))
   exact ⟨Z.sub kr,I.pk [0,1,2,3]⟩
  clear Z I;rintro a w6 ⟨Z,I⟩
  refine Jb Z I (Ju (fun hb41=>?_) fun hb41=>?_)
  ·
   intro a Z I
   have hq2:q++[(⟨t.v,0,t.id.toNat⟩:Mb)]=(x.ts.take (i+1)).filterMap (tkM · g c):=by rw [qb5 Tk.zero hi25,←hq,ht,tkM,if_pos hb41];rfl
   refine Jb Z I ((JT∘JR∘Jp 1∘Jg 6 O0∘Jg 0 O0∘Jv 1 [(47,vQ (IntKind.u64.wrap t.id))]∘Jo (vQ t.id.toNat) (by exact qe9 om om)∘Jy (v:= .agg #[vQ t.v,vQ 0,vQ t.id.toNat]) (h:=by exact Yl.qme (n:=3) (sz:=1) (vs:=[(0,vQ t.v),(1,vQ 0),(2,vQ t.id.toNat)]) rfl rfl kr kr)) fun a Z I=>?_)
   refine fo Z 7 rfl rfl ?_
   refine qag Z (f:=129) (vs:=[.agg #[vQ t.v,vQ 0,vQ t.id.toNat]]) (fst:=[]) (caps:=[vP g9 0,vP g8 0]) rfl rfl rfl kr rfl de (qy2 w _ g9 g8 _ (⟨t.v,0,t.id.toNat⟩:Mb) q _ (I.pk [1,2,0,3])) ?_
   rintro _ w49 ⟨rfl,HM2⟩
   refine ⟨_,rfl,?_⟩
   replace I:=HM2
   clear Z;intro a Z
   refine Jb Z I ((Jt6∘Jj∘JR∘JaK 1∘Jp 1∘Jd1∘Jq) fun a Z I=>?_)
   replace Z:=Z.sp 22 (.slice x.tA x.ts.length x.tc) rfl (by rw [hq1])
   exact ⟨_,om,i+1,(q++[(⟨t.v,0,t.id.toNat⟩:Mb)]),by omega,hq2,rfl,Z.sub kr,I.pk [0,1,3]⟩
  intro a Z I
  have hq2:q=(x.ts.take (i+1)).filterMap (tkM · g c):=by rw [qb5 Tk.zero hi25,←hq,ht,tkM,if_neg (by rw [hb41];decide)];simp
  refine Jb Z I ((JF∘JS'∘JR∘JaK 1∘Jp 1∘Jd1∘Jq) fun a Z I=>?_)
  replace Z:=Z.sp 22 (.slice x.tA x.ts.length x.tc) rfl (by rw [hq1])
  exact ⟨_,om,i+1,q,by omega,hq2,rfl,Z.sub kr,I.pk [1,2,3]⟩
 intro a Z I
 have hd25:=of_decide_eq_false hb25
 rw [List.take_of_length_le (by omega:x.ts.length≤i)] at hq
 refine Jb Z I ((JF∘JX∘JG∘JQ∘JP∘Jp 1∘JaK 1∘Jp 1∘Jd2∘Jj∘JB) fun a Z I=>?_)
 refine qj (fun mS aS wS=>∃(u:Nat) (q:List Mb),(g+1≤u)∧(u≤x.rs.length)∧(q=x.ts.filterMap (tkM · g c)++((((List.range x.rs.length).drop (g+1)).take (u- (g+1))).filterMap (grpM x.sta c (fun u=>memS x.sta u c) g)))∧mS=x.rs.length-u∧Fr aS 102 [] [(13,vI u),(25,.bool false),(24,vI i),(23,vI x.ts.length),(22,.slice x.tA x.ts.length x.tc),(10,.func (.func 129) #[] #[vP g9 0,vP g8 0]),(9,vP g9 0),(8,vP g8 0),(7,.bool false),(6,vP g6 0),(0,vP gm 0),(1,vI g),(2,vI c)]∧Mem w wS [.blk g9 #[.bool (!q.isEmpty)] 4,.blk g8 ((bestM topM q).cells) 151,.blk g6 #[vQ 0,vQ 0,vQ 0] 151]) (m:=x.rs.length- (g+1)) ⟨g+1,q,Nat.le_refl _,by omega,by rw [hq];simp,rfl,Z.sub kr,I.pk [0,1,2]⟩ ?_
 clear Z I;rintro mS a w_ ⟨u,q,hgh,hh,hq,rfl,Z,I⟩
 refine Jb Z I ((JQ∘JP∘Jp 2∘Jn∘Jf 0∘Jf 6∘Jy (v:= .slice x.sA x.rs.length x.sc) (h:=by exact Yl.qe rfl rfl kr (fun _ h=>h.qcc hm rfl))∘Jl∘Jp 1∘Jd6∘Jj) (Ju (fun hb60=>?_) fun hb60=>?_))
 ·
  intro a Z I
  have hd60:=of_decide_eq_true hb60
  have hh60:u<x.rs.length:=by omega
  have hgst:=qwn (f:=grpM x.sta c (fun u=>memS x.sta u c) g) hgh hh60
  refine Jb Z I ((JT∘JS'∘JQ∘JB∘JQ∘JP∘Jp 1∘Jn∘Jf 0∘Jf 0∘Jf 2∘Jy (v:= .slice x.gA x.gs.length x.gc) (h:=by exact Yl.qe rfl rfl kr (fun _ h=>h.qcc hm rfl))∘Jp 1) fun a Z I=>?_)
  obtain ⟨gq2,oq2,hq2,_⟩:=Rd.qm hx.g (Nat.lt_of_le_of_lt (Nat.zero_le _) (show u<x.gs.length from by omega)) de
  have hrq2:=hx.g;rw [hq2] at hrq2
  replace Z:=Z.sp 68 (.slice (some ⟨gq2,oq2,none⟩) x.gs.length x.gc) rfl (by rw [hq2];try rfl)
  refine Jb Z I ((Jy (h:=by exact Yl.ix gq2 oq2 u 2 rfl rfl rfl)∘Jf 0∘Jy (v:=vI ((x.gs.getD u Gr.zero).parent)) (h:=by exact Yl.qe rfl rfl kr (fun _ h=>(by have:=(h.old hrq2).partAt zm (k:=u) (j:=0) (x:=(x.gs.getD u Gr.zero)) ((getD_at Gr.zero om)) rfl;simpa using this)))∘Jp 2∘Jd4∘Jj) (Ju (fun hb74=>?_) fun hb74=>?_))
  ·
   intro a Z I
   have hd74:=bne_iff_ne.1 hb74
   rw [qs8 om] at hgst
   refine Jb Z I ((JT∘JX∘JG∘JR∘Jp 1∘JaK 1∘Jp 1∘Jd2∘Jq) fun a Z I=>?_)
   exact ⟨_,om,u+1,q,by omega,by omega,by rw [hgst,hq];simp,rfl,Z.sub kr,I.pk [0,1,2]⟩
  intro a Z I
  have hd74:=bne_eq_false_iff_eq.1 hb74
  refine Jb Z I ((JF∘JS'∘JP∘Jp 3∘JL (h:=by exact fun I=>ih u om om _ (hx.old I) (I.oldBlk hm))) ?_)
  rintro I _ w79 ⟨rfl,hbw⟩
  refine ⟨_,rfl,_,I.call hbw,?_⟩
  refine (Jp 1∘Jx∘Jx∘JA #[vQ 0,vQ 0,vQ 0]) fun w14 g14=>(JV qcj O0' (h1:=by exact qgv (bestM topM (memS x.sta u c)))) fun w13_8=>(Jp 1∘Jd6∘Jr∘Jp 1∘Jj) (Ju (fun hb82=>?_) fun hb82=>?_)
  ·
   intro a Z I
   obtain ⟨y,hy⟩:∃z,x.rs.getD u Rw.zero=z:=⟨_,rfl⟩
   have hyr:Rd w w.heap.size 3 y.A y.l.length (y.l.flatMap spL):=by rw [←hy];exact hx.row hh60
   have hyl:(y.l.length:Int)=x.cpus:=by rw [←hy];exact (qgs hh60 (hsh.row u hh60)).1
   have hyo:∀z∈y.l,z.Ok:=by rw [←hy,←rs_at hh60];exact hok.sp _ (qd [] (by rw [zh];exact hh60))
   have hzv:=(hyo _ (qd Sp.zero (show c<y.l.length by omega))).v
   rw [qwo hh60 om (by simpa using hb82),hy] at hgst
   refine Jb Z I ((JT∘JR∘Jp 2∘Jn∘Jf 0∘Jf 6∘Jy (v:= .slice x.sA x.rs.length x.sc) (h:=by exact Yl.qe rfl rfl kr (fun _ h=>h.qcc hm rfl))∘Jp 1) fun a Z I=>?_)
   obtain ⟨gq3,oq3,hq3,_⟩:=Rd.qm hx.s (Nat.lt_of_le_of_lt (Nat.zero_le _) (show u<x.rs.length from by omega)) de
   have hrq3:=hx.s;rw [hq3] at hrq3
   replace Z:=Z.sp 88 (.slice (some ⟨gq3,oq3,none⟩) x.rs.length x.sc) rfl (by rw [hq3];try rfl)
   refine Jb Z I ((Jy (h:=by exact Yl.ix gq3 oq3 u 1 rfl rfl rfl)∘Jy (v:= .slice ((x.rs.getD u Rw.zero).A) ((x.rs.getD u Rw.zero).l.length) ((x.rs.getD u Rw.zero).c)) (h:=by exact Yl.o1 hrq3 u Rw.zero om rfl rfl)∘Jo (.slice y.A y.l.length y.c) (by rw [hy])∘Jp 1) fun a Z I=>?_)
   obtain ⟨gq4,oq4,hq4,_⟩:=Rd.qm hyr (Nat.lt_of_le_of_lt (Nat.zero_le _) (show c<y.l.length from by omega)) de
   have hrq4:=hyr;rw [hq4] at hrq4
   replace Z:=Z.sp 91 (.slice (some ⟨gq4,oq4,none⟩) y.l.length y.c) rfl (by rw [hq4];try rfl)
   refine Jb Z I ((Jy (h:=by exact Yl.ix gq4 oq4 c 3 rfl rfl rfl)∘Jf 0∘Jy (v:=vQ ((y.l.getD c Sp.zero).v)) (h:=by exact Yl.qe rfl rfl kr (fun _ h=>(by have:=(h.old hrq4).partAt qcu (k:=c) (j:=0) (x:=(y.l.getD c Sp.zero)) ((getD_at Sp.zero om)) rfl;simpa using this)))∘Jp 1∘Jw .u64∘Jy (v:= .agg #[vQ ((y.l.getD c Sp.zero).v),vQ 1,vQ u]) (h:=by exact Yl.qme (n:=3) (sz:=1) (vs:=[(0,vQ ((y.l.getD c Sp.zero).v)),(1,vQ 1),(2,vQ u)]) rfl rfl kr kr)) fun a Z I=>?_)
   refine fo Z 16 rfl rfl ?_
   refine qag Z (f:=129) (vs:=[.agg #[vQ ((y.l.getD c Sp.zero).v),vQ 1,vQ u]]) (fst:=[]) (caps:=[vP g9 0,vP g8 0]) rfl rfl rfl kr rfl de (qy2 w _ g9 g8 _ (⟨(y.l.getD c Sp.zero).v,1,u⟩:Mb) q _ (I.pk [1,2,0,3])) ?_
   rintro _ w99 ⟨rfl,HM2⟩
   refine ⟨_,rfl,?_⟩
   replace I:=HM2
   clear Z;intro a Z
   refine Jb Z I ((Jt6∘Jj∘JR∘Jp 1∘JaK 1∘Jp 1∘Jd6∘Jq) fun a Z I=>?_)
   exact ⟨_,om,u+1,(q++[(⟨(y.l.getD c Sp.zero).v,1,u⟩:Mb)]),by omega,by omega,by rw [hgst,hq,List.append_assoc];rfl,rfl,Z.sub kr,I.pk [0,1,3]⟩
  intro a Z I
  rw [qs9 (by simpa using hb82)] at hgst
  refine Jb Z I ((JF∘JS'∘JR∘Jp 1∘JaK 1∘Jp 1∘Jd2∘Jq) fun a Z I=>?_)
  exact ⟨_,om,u+1,q,by omega,by omega,by rw [hgst,hq];simp,rfl,Z.sub kr,I.pk [1,2,3]⟩
 intro a Z I
 have hd60:=of_decide_eq_false hb60
 have hqm:q=memS x.sta g c:=by rw [hq,qjb,zh,show u=x.rs.length by omega,qz8];rfl
 refine Jb Z I ((JF∘JX) fun a Z I=>?_)
 refine wp_seq ?_
 refine Jb Z I ((Vs (.t (.t (.f .n))) []) fun wd16=>(Vy 0 (v:= .agg ((bestM topM q).cells)) (h:=by exact Yl.loadS rfl rfl qcj rfl (fun _ h=>qa (h.blk (i:=1) rfl)))∘Vc 1 O0) fun a Z I HS=>?_)
 refine s_on Z 2 rfl (e_sa Z I 2 rfl rfl rfl rfl rfl qcj rfl rfl (qgv (bestM topM q)) ?_)
 clear I;intro w16_2 I
 refine keepS (I.pk [0,1]) (fun HS=>?_)
 refine Vb Z I HS ((Vp [3]∘Vd∘Jd2∘JZ) fun a Z I=>?_)
 exact ret2 rfl Z (.cellS (i:=2) Z I rfl rfl qcj rfl) (.tmp Z rfl) (⟨by rw [←hqm],I.below⟩)
theorem qes (x:Stm) (hok:x.sta.Ok) (hf:StFew x) (hsh:ShAt x) (gm c:Nat) (hc:(c:Int)<x.cpus):∀(n g:Nat),x.rs.length-g≤n→g<x.rs.length→qm8 x gm c g:=by
 intro n
 induction n with
 |zero=>intro g h1 h2;omega
 |succ n ih=>intro g h1 h2;exact qqd x hok hf hsh gm c hc g h2 fun h h3 h4=>ih h om h4
theorem qto {l:List Tk} {id:Int} (h:fidx l id<0):findS l id=none:=by
 rcases qfc l id with h1|⟨i,h1,_⟩
 ·exact h1.2
 ·omega
theorem qow {l:List Tk} {id:Int} (h:¬fidx l id<0):∃i:Nat,fidx l id=i∧findS l id=some i∧i<l.length∧(l.getD i Tk.zero).id=id:=by
 rcases qfc l id with h1|h1
 ·omega
 ·exact h1
theorem qm9 (x:Stm) (hok:x.sta.Ok) (hf:StFew x) (w:World) (hx:StRd w x):
    Calls Tryz.prog 41 #[.agg x.cells] w (Is w (.bool (zg x.sta))):=by
 have hfs_:=hf.s;have hft:=hf.t;have hfg:=hf.g;have hfl:=hf.l;have hfu:=hf.u
 refine (JN1 Tryz.func41 81) ?_
 refine (JP∘JE) fun w1 g1=>(Jp 1∘Jj∘JQ∘JP∘Jy (v:= .agg x.cells) (h:=by exact Yl.loadS rfl rfl si_st rfl (fun _ h=>qa (h.blk (i:=0) rfl)))∘JI (h:=by exact fun I=>qqa x hok hf _ (hx.old I))) fun w12 hbw=>(Jp 1∘Jd2∘Jj) (Ju (fun hb13=>?_) fun hb13=>?_)
 ·
  exact (JT∘JP∘Jp 1∘Jj∘JZ∘Jz1) fun I=>is_as (r_no0 (by simpa using hb13)).symm I.below
 intro a Z I
 have hsd:zd x.sta=true:=by simpa using hb13
 have hsh:=sh_at hsd
 have hs:=qs5 hsh
 obtain ⟨hc1,hc2,_,_⟩:=zq hsh.cfg
 have hcul:=hsh.cu
 refine Jb Z I ((JF∘JS'∘JP∘Jy (v:= .agg x.cells) (h:=by exact Yl.loadS rfl rfl si_st rfl (fun _ h=>qa (h.blk (i:=0) rfl)))∘Jy (v:= .agg #[vI x.cpus,vQ x.credit,.slice x.gA x.gs.length x.gc,.slice x.lA x.cl.length x.lc,.slice x.uA x.cu.length x.uc,.slice x.tA x.ts.length x.tc,.slice x.sA x.rs.length x.sc,.bool true]) (h:=by exact Yl.build (vs:=[(0,.agg x.cells),(1,.bool true)]) rfl kr kr)∘JE) fun w16 g16=>(Jp 1∘Jd3∘Jj∘JQ∘JP∘Jg 4 O1∘Jl∘Jp 1∘Jj∘JB) fun a Z I=>?_)
 refine qj (fun mS aS wS=>∃(c:Nat),(c≤x.cu.length)∧(UpTo c fun c=>curOk x.sta c&&allN x.rs.length fun g=>lowS x.sta g c)∧mS=x.cu.length-c∧Fr aS 81 [] [(20,vI c),(19,vI x.cu.length),(18,.slice x.uA x.cu.length x.uc),(3,vP g16 0),(13,.bool false),(2,.bool false),(1,vP g1 0)]∧Mem w wS [.blk g16 #[vI x.cpus,vQ x.credit,.slice x.gA x.gs.length x.gc,.slice x.lA x.cl.length x.lc,.slice x.uA x.cu.length x.uc,.slice x.tA x.ts.length x.tc,.slice x.sA x.rs.length x.sc,.bool true] 138,.blk g1 x.cells 38]) (m:=x.cu.length-0) ⟨0,Nat.zero_le _,UpTo.zero,rfl,Z.sub kr,I.pk [0,1]⟩ ?_
 clear Z I;rintro mS a w_ ⟨c,hc,hu,rfl,Z,I⟩
 refine Jb Z I ((JP∘Jp 1∘Jj∘JQ) (Ju (fun hb21=>?_) fun hb21=>?_))
 ·
  intro a Z I
  have hd21:=of_decide_eq_true hb21
  have hc21:c<x.cu.length:=by omega
  obtain ⟨id,hid⟩:∃z,(x.cu.getD c 0)=z:=⟨_,rfl⟩
  refine Jb Z I ((JT∘JS'∘JQ∘JB∘JP∘Jp 1) fun a Z I=>?_)
  obtain ⟨gq1,oq1,hq1,_⟩:=Rd.qm hx.u (Nat.lt_of_le_of_lt (Nat.zero_le _) (show c<x.cu.length from by omega)) de
  have hrq1:=hx.u;rw [hq1] at hrq1
  replace Z:=Z.sp 18 (.slice (some ⟨gq1,oq1,none⟩) x.cu.length x.uc) rfl (by rw [hq1];try rfl)
  refine Jb Z I ((Jy (h:=by exact Yl.ix gq1 oq1 c 1 rfl rfl rfl)∘Jy (v:=vI (x.cu.getD c 0)) (h:=by exact Yl.o1 hrq1 c 0 om rfl rfl)∘Jo (vI id) (by rw [hid])∘Jp 2∘Jr∘Jp 2∘JI (h:=by exact fun I=>qk5 x g16 id hs _ (I.blk (i:=0) rfl) (I.old hx.t) hf.t)) fun w27 hbw=>(Jp 1∘Jd3∘Jj∘JQ) fun a Z I=>?_)
  refine zb (fun aS wS=>Fr aS 81 [] [(52,.bool (!curOk x.sta c)),(6,vI (fidx x.ts id)),(5,vI id),(4,vI c),(18,.slice (some ⟨gq1,oq1,none⟩) x.cu.length x.uc),(21,.bool true),(20,vI c),(19,vI x.cu.length),(3,vP g16 0),(13,.bool false),(2,.bool false),(1,vP g1 0)]∧Mem w wS [.blk g16 #[vI x.cpus,vQ x.credit,.slice x.gA x.gs.length x.gc,.slice x.lA x.cl.length x.lc,.slice x.uA x.cu.length x.uc,.slice x.tA x.ts.length x.tc,.slice x.sA x.rs.length x.sc,.bool true] 138,.blk g1 x.cells 38]) ?_ ?_
  ·
   refine qbi ?_
   refine Jb Z I ((Jp 3) (Jh (fun hd30=>?_) fun hd30=>?_))
   ·
    refine (Jp 3) (Ju (fun hb33=>?_) fun hb33=>?_)
    ·
     intro a Z I
     have hd33:=of_decide_eq_true hb33
     refine Jb Z I ((Jv 19 [(52,.bool true)]∘Jd6∘Jq) fun a Z I=>?_)
     have Z:=Z.sp 52 (.bool (!curOk x.sta c)) rfl (congrArg Value.bool (by rw [qif (by rw [hid];omega) (by rw [hid];exact qto om)];rfl))
     exact ⟨Z.sub kr,I.pk [0,1]⟩
    intro a Z I
    have hd33:=of_decide_eq_false hb33
    obtain ⟨i,hfi,hfs,hil,hiid⟩:=qow (l:=x.ts) (id:=id) om
    refine Jb Z I ((Jg 5 O1∘Jp 1∘Jo (vI i) (by rw [hfi])) fun a Z I=>?_)
    obtain ⟨gq3,oq3,hq3,_⟩:=Rd.qm hx.t (Nat.lt_of_le_of_lt (Nat.zero_le _) (show i<x.ts.length from by omega)) de
    have hrq3:=hx.t;rw [hq3] at hrq3
    replace Z:=Z.sp 35 (.slice (some ⟨gq3,oq3,none⟩) x.ts.length x.tc) rfl (by rw [hq3];try rfl)
    refine Jb Z I ((Jy (h:=by exact Yl.ix gq3 oq3 i 8 rfl rfl rfl)∘Jf 5∘Jy (v:= .bool ((x.ts.getD i Tk.zero).ready)) (h:=by exact Yl.qe rfl rfl kr (fun _ h=>(h.old hrq3).partAt qf (k:=i) (j:=5) (x:=(x.ts.getD i Tk.zero)) ((getD_at Tk.zero om)) rfl))∘Jp 3) (Ju (fun hb42=>?_) fun hb42=>?_))
    ·
     refine (Jv 10 [(52,.bool true)]∘Jd6∘Jq) fun a Z I=>?_
     have Z:=Z.sp 52 (.bool (!curOk x.sta c)) rfl (congrArg Value.bool (by rw [qom (by rw [hid];omega) (by rw [hid];exact hfs),(Bool.not_eq_true' _).mp hb42];rfl))
     exact ⟨Z.sub kr,I.pk [0,1]⟩
    refine (Jg 5 O1∘Jp 1∘Jo (vI i) (by rw [hfi])) fun a Z I=>?_
    replace Z:=Z.sp 44 (.slice (some ⟨gq3,oq3,none⟩) x.ts.length x.tc) rfl (by rw [hq3];try rfl)
    refine Jb Z I ((Jy (h:=by exact Yl.ix gq3 oq3 i 8 rfl rfl rfl)∘Jf 3∘Jy (v:=vI ((x.ts.getD i Tk.zero).cpu)) (h:=by exact Yl.qe rfl rfl kr (fun _ h=>(h.old hrq3).partAt qf (k:=i) (j:=3) (x:=(x.ts.getD i Tk.zero)) ((getD_at Tk.zero om)) rfl))∘Jp 4∘Jd6∘Jq) fun a Z I=>?_)
    have Z:=Z.sp 52 (.bool (!curOk x.sta c)) rfl (congrArg Value.bool (by rw [qom (by rw [hid];omega) (by rw [hid];exact hfs),(Bool.not_eq_false' _).mp hb42,Bool.true_and,bne,Bool.eq_iff_iff];simp))
    exact ⟨Z.sub kr,I.pk [0,1]⟩
   refine (Jv 22 [(52,.bool false)]∘Jd3∘Jq) fun a Z I=>?_
   have Z:=Z.sp 52 (.bool (!curOk x.sta c)) rfl (congrArg Value.bool (by rw [qp6 (by rw [hid];omega)];rfl))
   exact ⟨Z.sub kr,I.pk [0,1]⟩
  clear Z I;rintro a w8 ⟨Z,I⟩
  refine Jb Z I (Ju (fun hb52=>?_) fun hb52=>?_)
  ·
   exact (JT∘JP∘Jp 1∘Jj∘JZ∘Jz1) fun I=>is_as (r_no1 hc21 (by simpa using hb52)).symm I.below
  refine (JF∘JS'∘JP∘Jg 6 O1∘Jl∘Jp 1∘Jj∘JB) fun a Z I=>?_
  refine qj (fun mS aS wS=>∃(g:Nat),(g≤x.rs.length)∧(UpTo g fun g=>lowS x.sta g c)∧mS=x.rs.length-g∧Fr aS 81 [] [(56,vI g),(55,vI x.rs.length),(54,.slice x.sA x.rs.length x.sc),(52,.bool false),(6,vI (fidx x.ts id)),(5,vI id),(4,vI c),(18,.slice (some ⟨gq1,oq1,none⟩) x.cu.length x.uc),(21,.bool true),(20,vI c),(19,vI x.cu.length),(3,vP g16 0),(13,.bool false),(2,.bool false),(1,vP g1 0)]∧Mem w wS [.blk g16 #[vI x.cpus,vQ x.credit,.slice x.gA x.gs.length x.gc,.slice x.lA x.cl.length x.lc,.slice x.uA x.cu.length x.uc,.slice x.tA x.ts.length x.tc,.slice x.sA x.rs.length x.sc,.bool true] 138,.blk g1 x.cells 38]) (m:=x.rs.length-0) ⟨0,Nat.zero_le _,UpTo.zero,rfl,Z.sub kr,I.pk [0,1]⟩ ?_
  clear Z I;rintro mS a w_ ⟨g,hg,hu2,rfl,Z,I⟩
  refine Jb Z I ((JP∘Jp 1∘Jj∘JQ) (Ju (fun hb57=>?_) fun hb57=>?_))
  ·
   intro a Z I
   have hd57:=of_decide_eq_true hb57
   have hg57:g<x.rs.length:=by omega
   obtain ⟨y,hy⟩:∃z,x.rs.getD g Rw.zero=z:=⟨_,rfl⟩
   have hyr:Rd w w.heap.size 3 y.A y.l.length (y.l.flatMap spL):=by rw [←hy];exact hx.row hg57
   have hyl:(y.l.length:Int)=x.cpus:=by rw [←hy];exact (qgs hg57 (hsh.row g hg57)).1
   refine Jb Z I ((JT∘JS'∘JQ∘JB∘JP∘Jp 1) fun a Z I=>?_)
   obtain ⟨gq4,oq4,hq4,_⟩:=Rd.qm hx.s (Nat.lt_of_le_of_lt (Nat.zero_le _) (show g<x.rs.length from by omega)) de
   have hrq4:=hx.s;rw [hq4] at hrq4
   replace Z:=Z.sp 54 (.slice (some ⟨gq4,oq4,none⟩) x.rs.length x.sc) rfl (by rw [hq4];try rfl)
   refine Jb Z I ((Jy (h:=by exact Yl.ix gq4 oq4 g 1 rfl rfl rfl)∘Jy (v:= .slice ((x.rs.getD g Rw.zero).A) ((x.rs.getD g Rw.zero).l.length) ((x.rs.getD g Rw.zero).c)) (h:=by exact Yl.o1 hrq4 g Rw.zero hg57 rfl rfl)∘Jo (.slice y.A y.l.length y.c) (by rw [hy])∘Jp 2∘Jr∘Jp 3∘JL (h:=by exact fun I=>qes x hok hf hsh g16 c om _ g (Nat.le_refl _) hg57 _ (hx.old I) (I.blk (i:=0) rfl))) ?_)
   rintro I _ w65 ⟨rfl,hbw⟩
   refine ⟨_,rfl,_,I.call hbw,?_⟩
   refine (Jp 1∘Jx∘Jx∘JA #[vQ 0,vQ 0,vQ 0]) fun w9 g9=>(JV qcj O0' (h1:=by exact qgv (bestM topM (memS x.sta g c)))) fun w13_8=>(Jp 1∘Jj) fun a Z I=>?_
   refine zb (fun aS wS=>Fr aS 81 [] [(78,.bool (!lowS x.sta g c)),(10,.bool (!(memS x.sta g c).isEmpty)),(9,vP g9 0),(8,.slice y.A y.l.length y.c),(7,vI g),(54,.slice (some ⟨gq4,oq4,none⟩) x.rs.length x.sc),(57,.bool true),(56,vI g),(55,vI x.rs.length),(52,.bool false),(6,vI (fidx x.ts id)),(5,vI id),(4,vI c),(18,.slice (some ⟨gq1,oq1,none⟩) x.cu.length x.uc),(21,.bool true),(20,vI c),(19,vI x.cu.length),(3,vP g16 0),(13,.bool false),(2,.bool false),(1,vP g1 0)]∧Mem w wS [.blk g9 ((bestM topM (memS x.sta g c)).cells) 151,.blk g16 #[vI x.cpus,vQ x.credit,.slice x.gA x.gs.length x.gc,.slice x.lA x.cl.length x.lc,.slice x.uA x.cu.length x.uc,.slice x.tA x.ts.length x.tc,.slice x.sA x.rs.length x.sc,.bool true] 138,.blk g1 x.cells 38]) ?_ ?_
   ·
    refine Jb Z I ((Vs .n []) fun wd14=>(Vp [0,1]) fun a Z I HS=>?_)
    rcases Z.tf 69 rfl with ⟨hb69,Z⟩|⟨hb69,Z⟩
    ·
     refine Vb Z I HS ((Vp [4,5]∘Vy 2 (v:= .agg ((bestM topM (memS x.sta g c)).cells)) (h:=by exact Yl.loadS rfl rfl qcj rfl (fun _ h=>qa (h.blk (i:=0) rfl)))) fun a Z I HS=>?_)
     obtain ⟨gq10,oq10,hq10,_⟩:=Rd.qm hyr (Nat.lt_of_le_of_lt (Nat.zero_le _) (show c<y.l.length from by omega)) de
     have hrq10:=hyr;rw [hq10] at hrq10
     replace Z:=Z.sp 72 (.slice (some ⟨gq10,oq10,none⟩) y.l.length y.c) rfl (by rw [hq10];try rfl)
     refine Vb Z I HS ((Vy 6 (h:=by exact Yl.ix gq10 oq10 c 3 rfl rfl rfl)∘Vf 7 2∘Vy 8 (v:=vQ ((y.l.getD c Sp.zero).floor)) (h:=by exact Yl.qe rfl rfl kr (fun _ h=>(h.old hrq10).partAt qcu (k:=c) (j:=2) (x:=(y.l.getD c Sp.zero)) ((getD_at Sp.zero om)) rfl))∘VI 3 .n (h:=by exact fun I=>qy1 (bestM topM (memS x.sta g c)) _)) fun w71 hbw=>(Vp [9,10]∘Vd∘Jd5) fun a Z I=>?_)
     have Z:=Z.sp 78 (.bool (!lowS x.sta g c)) rfl (congrArg Value.bool (by rw [q2n (by simpa using hb69),qm3 hg57,hy,←decide_not];exact decide_eq_decide.2 om))
     exact ⟨Z.sub kr,I.pk [0,1,2]⟩
    refine ap Z (fun _=>HS) [2,3,4,5,6,7,8,9,10] (bt 11 []) [(78,.bool false)] fun a Z=>?_
    refine qb kr ?_
    have Z:=Z.sp 78 (.bool (!lowS x.sta g c)) rfl (congrArg Value.bool (by rw [qz9 (by simpa using hb69)];rfl))
    exact ⟨Z.sub kr,I.pk [0,1,2]⟩
   clear Z I;rintro a w14 ⟨Z,I⟩
   refine Jb Z I (Ju (fun hb78=>?_) fun hb78=>?_)
   ·
    exact (JT∘JP∘Jp 1∘Jj∘JZ∘Jz1) fun I=>is_as (r_no2 hc21 hg57 (by simpa using hb78)).symm I.below
   refine (JF∘JS'∘JR∘JaK 1∘Jp 1∘Jd1∘Jq) fun a Z I=>?_
   replace Z:=Z.sp 54 (.slice x.sA x.rs.length x.sc) rfl (by rw [hq4])
   exact ⟨_,om,g+1,by omega,hu2.succ (by simpa using hb78),rfl,Z.sub kr,I.pk [1,2]⟩
  intro a Z I
  have hd57:=of_decide_eq_false hb57
  refine Jb Z I ((JF∘JX∘JG∘JR∘JaK 1∘Jp 1∘Jd1∘Jq) fun a Z I=>?_)
  replace Z:=Z.sp 18 (.slice x.uA x.cu.length x.uc) rfl (by rw [hq1])
  exact ⟨_,om,c+1,by omega,hu.succ (by rw [show curOk x.sta c=true by simpa using hb52,Bool.true_and];exact UpTo.all fun i hi=>hu2 i om),rfl,Z.sub kr,I.pk [0,1]⟩
 intro a Z I
 have hd21:=of_decide_eq_false hb21
 exact Jb Z I ((JF∘JX∘JG∘JP∘Jp 1∘Jj∘JZ∘Jz1) fun I=>is_as (r_yes hsd (fun i hi=>hu i om)).symm I.below)
def upF {α:Type} (k:Nat) (f:Nat→List α):List α:=(List.range k).flatMap f
theorem qs {α:Type} (k:Nat) (f:Nat→List α):upF (k+1) f=upF k f++f k:=by unfold upF;rw [List.range_succ,List.flatMap_append];simp
theorem qeo {α:Type} (f:Nat→List α):upF 0 f=[]:=rfl
theorem qon {α:Type} {f:Nat→List α} {m:Nat} (h:∀i,(f i).length≤m):∀k,(upF k f).length≤m*k
 |0=>Nat.zero_le _
 |k+1=>by rw [qs,List.length_append,Nat.mul_succ];have:=qon h k;have:=h k;omega
theorem qta {α:Type} {f:Nat→List α} {m:Nat}:∀k,(∀i,i<k→(f i).length≤m)→(upF k f).length≤m*k
 |0,_=>Nat.zero_le _
 |k+1,h=>by rw [qs,List.length_append,Nat.mul_succ];have:=qta k (fun i hi=>h i om);have:=h k om;omega
theorem qfd {α:Type} {f:Nat→List α} {p:α→Prop}:∀k,(∀i,i<k→∀x∈f i,p x)→∀x∈upF k f,p x
 |0,_=>fun x hx=>by cases hx
 |k+1,h=>fun x hx=>by
  rw [qs] at hx
  rcases List.mem_append.1 hx with hx|hx
  ·exact qfd k (fun i hi=>h i om) x hx
  ·exact h k om x hx
def toU (n:Int):Nat:=(n%18446744073709551616).toNat
theorem qdy (n:Int):toU n<18446744073709551616:=by unfold toU;omega
theorem qtb (n:Int):Value.int .u64 (Go.IntKind.u64.wrap n)= .int .u64 ((toU n:Nat):Int):=by
 unfold toU
 rw [Int.toNat_of_nonneg (Int.emod_nonneg _ de)]
 rfl
structure Snm where
 next:Int
 st:Stm
def Snm.cells (s:Snm):Array Value:= #[.int .i64 s.next,.int .i64 s.st.cpus,.int .u64 (s.st.credit:Int),.slice s.st.gA s.st.gs.length s.st.gc,.slice s.st.lA s.st.cl.length s.st.lc,.slice s.st.uA s.st.cu.length s.st.uc,.slice s.st.tA s.st.ts.length s.st.tc,.slice s.st.sA s.st.rs.length s.st.sc]
theorem qgw (x:Snm):∀v∈x.cells.toList,v.oneCell'=true:=by simp [Snm.cells,Value.oneCell']
def gsN (l:List Gr) (i:Nat):List Nat:=[toU (l.getD (i+1) Gr.zero).parent,toU (l.getD (i+1) Gr.zero).weight]
def ql (l:List Tk) (i:Nat):Int:=if i=0 then 0 else (l.getD (i-1) Tk.zero).id
def tkN (p:Int) (t:Tk):List Nat:=[toU (t.id-p),toU t.group,toU t.weight,toU t.cpu,t.mask,if t.ready then 1 else 0,t.v,t.r]
def spN (g:Nat) (z:Sp):List Nat:=(if 0<g then [z.v,z.r] else [])++[z.floor]
def rwN (g:Nat) (l:List Sp):List Nat:=upF l.length fun c=>spN g (l.getD c Sp.zero)
def secN (s:Snm):Nat→List Nat
 |0=>[toU s.next]
 |1=>[toU s.st.cpus,s.st.credit,s.st.gs.length]
 |2=>upF (s.st.gs.length-1) (gsN s.st.gs)
 |3=>s.st.cl.map toU
 |4=>s.st.cu.map toU
 |5=>s.st.ts.length::upF s.st.ts.length fun i=>tkN (ql s.st.ts i) (s.st.ts.getD i Tk.zero)
 |6=>upF s.st.rs.length fun g=>rwN g (s.st.rs.getD g Rw.zero).l
 |_=>[]
def qb6:Nat→ByteArray
 |0=>⟨#[110,101,120,116]⟩
 |1=>⟨#[99,111,110,102,105,103]⟩
 |2=>⟨#[103,114,111,117,112,115]⟩
 |3=>⟨#[99,108,111,99,107,115]⟩
 |4=>⟨#[99,117,114,114,101,110,116]⟩
 |5=>⟨#[116,97,115,107,115]⟩
 |6=>⟨#[115,112,111,116,115]⟩
 |_=>⟨#[]⟩
def chkS (s:Snm):Nat:=if s.next<1∨281474976710657<s.next then 330 else if zg s.st.sta=false then 331 else 0
def numsS (s:Snm):List Nat:=upF 7 (secN s)
def bodyS (s:Snm):List Nat:=[113,115,1]++(numsS s).flatMap vbytes
def outS (s:Snm):List Nat:=if chkS s=0 then sealL (bodyS s) else []
structure Sec where
 nm:ByteArray
 fr:Nat
 to:Nat
def atS (s:Snm) (i:Nat):Nat:=3+((upF i (secN s)).flatMap vbytes).length
theorem qep (s:Snm) (i:Nat):atS s (i+1)=atS s i+((secN s i).flatMap vbytes).length:=by unfold atS;rw [qs,List.flatMap_append,List.length_append];omega
def secsS (s:Snm):List Sec:=[⟨⟨#[104,101,97,100]⟩,0,3⟩]++upF 7 (fun i=>[⟨qb6 i,atS s i,atS s (i+1)⟩])++[⟨⟨#[115,117,109]⟩,atS s 7,atS s 7+4⟩]
def secL (x:Sec):List Value:=[.string x.nm,.int .i64 (x.fr:Int),.int .i64 (x.to:Int)]
theorem zx (x:Sec):(secL x).length=3:=rfl
def qb7 (w:World) (R:List Nat) (r:Ending) (w':World):Prop:=
 (∃A c,r= .returned (.slice A R.length c)∧w'.ownsRow w.heap.size 30 1 (.slice A R.length c) R.length (R.map U64)∧R.length≤c)∧Below w.heap.size w w'
theorem qai {w w':World} {q R:List Nat} {A:Option Addr} {c:Nat} (h:q=R) (ho:w'.ownsRow w.heap.size 30 1 (.slice A q.length c) q.length (q.map U64)) (hc:q.length≤c) (hb:Below w.heap.size w w'):qb7 w R (.returned (.slice A q.length c)) w':=by
 subst h
 exact ⟨⟨A,c,rfl,ho,hc⟩,hb⟩
theorem qb8 (l:List Nat):∀u∈l.map U64,u.oneCell'=true:=by
 intro u hu
 obtain ⟨x,_,rfl⟩:=List.mem_map.1 hu
 rfl
theorem qjh {l:List Int} {k:Nat} (h:k<l.length):(l.take (k+1)).map toU=(l.take k).map toU++[toU (l.getD k 0)]:=by
 rw [List.take_add_one,List.getElem?_eq_getElem h,List.map_append,List.getD_eq_getElem?_getD,List.getElem?_eq_getElem h]
 rfl
theorem qax {α:Type} {a b:List α} {n:Nat} (h:b.length=n):a.length+n=(a++b).length:=by rw [List.length_append,h]
theorem q0a {n:Nat} (h:n<18446744073709551616):toU (n:Int)=n:=by unfold toU;omega
theorem q0b {w:World} {A A2:Option Addr} {l:List Gr} {c:Nat} (h:Rd w w.heap.size 2 A l.length (l.flatMap grL)) (h1:1≤l.length) (hc:l.length≤c) (hA:(if c=1 then A else A.map (·.add (1*2)))=A2):Rd w w.heap.size 2 A2 (l.drop 1).length ((l.drop 1).flatMap grL):=by
 have h2:=Rd.q3u zm h h1 hc
 rw [hA] at h2
 exact h2
theorem getD_drop {α:Type} (l:List α) (j k:Nat) (d:α):(l.drop j).getD k d=l.getD (k+j) d:=by
 rw [List.getD_eq_getElem?_getD,List.getElem?_drop,List.getD_eq_getElem?_getD,Nat.add_comm]
theorem qcw (l:List Tk) (k:Nat):ql l (k+1)=(l.getD k Tk.zero).id:=by unfold ql;rw [if_neg om];rfl
theorem qm4 (l:List Tk):ql l 0=0:=rfl
theorem qwp (b:Bool):(if b then 1 else 0:Nat)<18446744073709551616:=by cases b<;>decide
theorem qgx {g:Nat} {z:Sp} (h:0<g):spN g z=[z.v,z.r]++[z.floor]:=by unfold spN;rw [if_pos h]
theorem qf4 {g:Nat} {z:Sp} (h:¬0<g):spN g z=[z.floor]:=by unfold spN;rw [if_neg h];rfl
theorem tkN_t {p:Int} {t:Tk} (h:t.ready=true):tkN p t=[toU (t.id-p),toU t.group,toU t.weight,toU t.cpu]++[t.mask,1,t.v,t.r]:=by unfold tkN;rw [h];rfl
theorem tkN_f {p:Int} {t:Tk} (h:t.ready=false):tkN p t=[toU (t.id-p),toU t.group,toU t.weight,toU t.cpu]++[t.mask,0,t.v,t.r]:=by unfold tkN;rw [h];rfl
theorem ts_id {x:Stm} (h:ShAt x):∀i,i<x.ts.length→(i:Int)+1≤(x.ts.getD i Tk.zero).id
 |0,hi=>(tk_id (h.tk 0 hi)).1
 |i+1,hi=>by
  have h1:=ts_id h i om
  have h2:=(qgt (h.tk (i+1) hi)).1
  rw [Nat.add_sub_cancel] at h2
  omega
theorem q2r {x:Stm} (h:ShAt x):x.ts.length≤65535:=by
 rcases Nat.lt_or_ge 65535 x.ts.length with h1|h1
 ·have h2:=ts_id h 65535 h1
  have h3:=(tk_id (h.tk 65535 h1)).2
  omega
 ·exact h1
theorem q0g (g:Nat) (z:Sp):(spN g z).length≤3:=by unfold spN;split<;>simp
theorem q0h (g:Nat) (l:List Sp):(rwN g l).length≤3*l.length:=qon (fun c=>q0g g (l.getD c Sp.zero)) _
theorem qwq {s:Snm} (h:ShAt s.st):(secN s 0).length=1∧(secN s 1).length=3∧(secN s 2).length≤512∧(secN s 3).length≤64∧(secN s 4).length≤64∧(secN s 5).length≤524281∧(secN s 6).length≤49152:=by
 obtain ⟨hc1,hc2,_,hg⟩:=zq h.cfg
 obtain ⟨hg1,hg2,_,_⟩:=qq hg
 have hcl:=h.cl
 have hcu:=h.cu
 have hrs:=h.rs
 have ht:=q2r h
 refine ⟨rfl,rfl,?_,?_,?_,?_,?_⟩
 ·have:=qon (f:=gsN s.st.gs) (m:=2) (fun i=>Nat.le_refl 2) (s.st.gs.length-1)
  show (upF (s.st.gs.length-1) (gsN s.st.gs)).length≤512
  omega
 ·show (s.st.cl.map toU).length≤64
  rw [List.length_map];omega
 ·show (s.st.cu.map toU).length≤64
  rw [List.length_map];omega
 ·have:=qon (f:=fun i=>tkN (ql s.st.ts i) (s.st.ts.getD i Tk.zero)) (m:=8) (fun i=>Nat.le_refl 8) s.st.ts.length
  show (upF s.st.ts.length fun i=>tkN (ql s.st.ts i) (s.st.ts.getD i Tk.zero)).length+1≤524281
  omega
 ·have:=qta (f:=fun g=>rwN g (s.st.rs.getD g Rw.zero).l) (m:=192) s.st.rs.length (fun g hg=>by
   have h1:=q0h g (s.st.rs.getD g Rw.zero).l
   have h2:=(qgs hg (h.row g hg)).1
   omega)
  show (upF s.st.rs.length fun g=>rwN g (s.st.rs.getD g Rw.zero).l).length≤49152
  omega
theorem qet (s:Snm):numsS s=secN s 0++secN s 1++secN s 2++secN s 3++secN s 4++secN s 5++secN s 6:=by
 unfold numsS
 rw [qs,qs,qs,qs,qs,qs,qs,qeo,List.nil_append]
theorem qji {α:Type} {f:Nat→List α} {i k:Nat} (h:i≤k):(upF i f).length≤(upF k f).length:=by
 induction k with
 |zero=>
  obtain rfl:i=0:=by omega
  exact Nat.le_refl _
 | succ k ih =>
  rcases Nat.lt_or_ge k i with h1|h1
  ·obtain rfl:i=k+1:=by omega
   exact Nat.le_refl _
  ·have:=ih h1
   rw [qs,List.length_append];omega
theorem qgz {s:Snm} (h:ShAt s.st):(numsS s).length≤600000:=by
 obtain ⟨h0,h1,h2,h3,h4,h5,h6⟩:=qwq h
 rw [qet]
 simp only [List.length_append]
 omega
theorem qff {s:Snm} (h:ShAt s.st) {i:Nat} (hi:i≤7):(upF i (secN s)).length≤600000:=Nat.le_trans (qji hi) (qgz h)
theorem qop {s:Snm} (h:ShAt s.st) {i:Nat} (hi:i<7):(secN s i).length≤600000:=by
 have:=qff h (show i+1≤7 by omega)
 rw [qs,List.length_append] at this
 omega
theorem q2s {p:Int} {t:Tk} (ht:t.Ok):∀x∈tkN p t,x<18446744073709551616:=by
 intro x hx
 have h1:=ht.mask
 have h2:=ht.v
 have h3:=ht.r
 simp only [tkN,List.mem_cons,List.not_mem_nil,or_false] at hx
 rcases hx with rfl|rfl|rfl|rfl|rfl|rfl|rfl|rfl
 ·exact qdy _
 ·exact qdy _
 ·exact qdy _
 ·exact qdy _
 ·exact h1
 ·exact qwp _
 ·exact h2
 ·omega
theorem q2t {g:Nat} {z:Sp} (hz:z.Ok):∀x∈spN g z,x<18446744073709551616:=by
 intro x hx
 have h1:=hz.v
 have h2:=hz.r
 have h3:=hz.floor
 unfold spN at hx
 split at hx
 ·simp only [List.cons_append,List.nil_append,List.mem_cons,List.not_mem_nil,or_false] at hx
  omega
 ·simp only [List.nil_append,List.mem_cons,List.not_mem_nil,or_false] at hx
  omega
theorem qjj {s:Snm} (hok:s.st.sta.Ok) (hf:StFew s.st):∀i,∀x∈secN s i,x<18446744073709551616:=by
 have hgl:=hf.g
 have htl:=hf.t
 have hcr:=hok.credit
 intro i
 match i with
 |0=>intro x hx;simp only [secN,List.mem_cons,List.not_mem_nil,or_false] at hx;subst hx;exact qdy _
 |1=>
  intro x hx
  simp only [secN,List.mem_cons,List.not_mem_nil,or_false] at hx
  rcases hx with rfl|rfl|rfl
  ·exact qdy _
  ·exact hcr
  ·omega
 |2=>
  refine qfd _ fun i _ x hx=>?_
  simp only [gsN,List.mem_cons,List.not_mem_nil,or_false] at hx
  rcases hx with rfl|rfl
  ·exact qdy _
  ·exact qdy _
 |3=>intro x hx;obtain ⟨y,_,rfl⟩:=List.mem_map.1 hx;exact qdy _
 |4=>intro x hx;obtain ⟨y,_,rfl⟩:=List.mem_map.1 hx;exact qdy _
 |5=>
  intro x hx
  rcases List.mem_cons.1 hx with rfl|hx
  ·omega
  ·exact qfd (p:=fun x=>x<18446744073709551616) _ (fun i hi=>q2s (hok.ts _ (qd Tk.zero hi))) x hx
 |6=>
  refine qfd _ fun g hg=>qfd _ fun c hc=>q2t ?_
  refine hok.sp _ (qd [] (show g<s.st.sta.sp.length from by rw [zh];exact hg)) _ ?_
  rw [rs_at hg]
  exact qd Sp.zero hc
 |k+7=>intro x hx;cases hx
theorem qjk {s:Snm} (hok:s.st.sta.Ok) (hf:StFew s.st):∀x∈numsS s,x<18446744073709551616:=qfd 7 fun i _=>qjj hok hf i
theorem q0i {l:List Nat}:∀b∈l.flatMap vbytes,b<256:=by
 intro b hb
 obtain ⟨x,_,hx⟩:=List.mem_flatMap.1 hb
 exact qst x b hx
theorem qjl (s:Snm):∀b∈bodyS s,b<256:=by
 intro b hb
 rcases List.mem_append.1 hb with hb|hb
 ·simp only [List.mem_cons,List.not_mem_nil,or_false] at hb
  omega
 ·exact q0i b hb
theorem qjm (s:Snm):(bodyS s).length=3+((numsS s).flatMap vbytes).length:=by unfold bodyS;rw [List.length_append];rfl
theorem qoq {s:Snm} (h:s.next<1∨281474976710657<s.next):chkS s=330:=if_pos h
theorem qte {s:Snm} (h:¬(s.next<1∨281474976710657<s.next)) (hr:zg s.st.sta=false):chkS s=331:=by unfold chkS;rw [if_neg h,if_pos hr]
theorem qk7 {s:Snm} (h:¬(s.next<1∨281474976710657<s.next)) (hr:zg s.st.sta=true):chkS s=0:=by unfold chkS;rw [if_neg h,if_neg (by rw [hr];decide)]
theorem qk8 {s:Snm} (h:chkS s=0):(1≤s.next∧s.next≤281474976710657)∧zg s.st.sta=true:=by
 unfold chkS at h
 split at h
 ·cases h
 ·split at h
  ·cases h
  ·rename_i h1 h2
   refine ⟨by omega,?_⟩
   cases hr:zg s.st.sta with
   |true=>rfl
   |false=>exact absurd hr h2
theorem qk9 {s:Snm} (h:chkS s=0):ShAt s.st:=by
 have:=(qk8 h).2
 unfold zg at this
 rw [Bool.and_eq_true] at this
 exact sh_at this.1
def numsE (s:Snm):List Nat:=if chkS s=0 then numsS s else []
theorem qbf {s:Snm} (h:chkS s=0):numsE s=numsS s:=if_pos h
theorem qwr {s:Snm} (h:chkS s≠0):numsE s=[]:=if_neg h
theorem qg0 {s:Snm} (h:chkS s=0):outS s=sealL (bodyS s):=if_pos h
theorem q0j {s:Snm} (h:chkS s≠0):outS s=[]:=if_neg h
theorem qor {s:Snm} (h:ShAt s.st):(sealL (bodyS s)).length≤6000007:=by
 rw [qbw,qjm]
 have:=qcp (numsS s)
 have:=qgz h
 omega
def qjn (w:World) (er:Nat) (R:List Nat) (r:Ending) (w':World):Prop:=
 (∃A c,r= .returned (.tuple #[.slice A R.length c,.int .i64 (er:Int)])∧w'.ownsRow w.heap.size 30 1 (.slice A R.length c) R.length (R.map U64)∧R.length≤c)∧Below w.heap.size w w'
theorem qqe {w w':World} {er er':Nat} {q R:List Nat} {A:Option Addr} {c:Nat} (he:er'=er) (h:q=R) (ho:w'.ownsRow w.heap.size 30 1 (.slice A q.length c) q.length (q.map U64)) (hc:q.length≤c) (hb:Below w.heap.size w w'):qjn w er R (.returned (.tuple #[.slice A q.length c,.int .i64 (er':Int)])) w':=by
 subst h;subst he
 exact ⟨⟨A,c,rfl,ho,hc⟩,hb⟩
theorem qqf {w w':World} {er:Nat} {R:List Nat} (e:Int) (he:e=er) (h:R=[]) (hb:Below w.heap.size w w'):qjn w er R (.returned (.tuple #[.slice none 0 0,.int .i64 e])) w':=by
 subst h;subst he
 exact ⟨⟨none,0,rfl,World.ownsRow_nil _ _ _ _,Nat.le_refl _⟩,hb⟩
theorem qqg {w w':World} {er:Nat} {R:List Nat} (e:Int) (he:e=er) (h:R=[]) (hb:Below w.heap.size w w'):qc8 w er R (.returned (.tuple #[.slice none 0 0,.int .i64 e])) w':=by
 subst h;subst he
 exact ⟨⟨none,0,rfl,World.ownsRow_nil _ _ _ _,Nat.le_refl _⟩,hb⟩
theorem qdl (x:Nat):0<(vbytes x).length:=by
 unfold vbytes
 rw [List.length_map,show (10:Nat)=9+1 from rfl,grp]
 split<;>simp
theorem qws (s:Snm):0<((numsS s).flatMap vbytes).length:=by
 rw [qet,List.flatMap_append,List.flatMap_append,List.flatMap_append,List.flatMap_append,List.flatMap_append,List.flatMap_append]
 simp only [List.length_append]
 have:=qdl (toU s.next)
 rw [show secN s 0=[toU s.next] from rfl,List.flatMap_cons,List.length_append]
 omega
theorem qqh {s:Snm} (h:chkS s=0):([113,115,1]:List Nat).map B8++((numsE s).flatMap vbytes).map B8=(bodyS s).map B8:=by
 rw [qbf h];exact List.map_append.symm
theorem q2u {s:Snm} (h:chkS s=0):3+((numsE s).flatMap vbytes).length=(bodyS s).length:=by rw [qjm,qbf h]
theorem qos {s:Snm} (h:ShAt s.st):(bodyS s).length≤6000003:=by
 have h1:=qor h
 rw [qbw] at h1
 omega
theorem qqi {w w':World} {er er':Nat} {q R:List Nat} {A:Option Addr} {c:Nat} (he:er'=er) (h:q=R) (ho:w'.ownsRow w.heap.size 5 1 (.slice A q.length c) q.length (q.map B8)) (hc:q.length≤c) (hb:Below w.heap.size w w'):qc8 w er R (.returned (.tuple #[.slice A q.length c,.int .i64 (er':Int)])) w':=by
 subst h;subst he
 exact ⟨⟨A,c,rfl,ho,hc⟩,hb⟩
theorem q2v {s:Snm} (hk:chkS s=0) {w:World} {B:Nat} {A:Option Addr} (h:Rd w B 1 A (outS s).length ((outS s).map B8)):Rd w B 1 A ((outS s).length-4) ((bodyS s).map B8):=by
 rw [qg0 hk] at h⊢
 exact Rd.pre (r:=le4 (qx (bodyS s))) h (by rw [qbw];omega) om
theorem q0k {s:Snm} (hk:chkS s=0):(outS s).length=(bodyS s).length+4:=by rw [qg0 hk,qbw]
def sumS (s:Snm):Nat:=if chkS s=0 then qx (bodyS s) else 0
theorem qtf {s:Snm} (h:chkS s=0):sumS s=qx (bodyS s):=if_pos h
theorem q0l {s:Snm} (h:chkS s≠0):sumS s=0:=if_neg h
theorem qtg (l:List Sec):∀u∈l.flatMap secL,u.oneCell'=true:=by
 intro u hu
 obtain ⟨x,_,hx⟩:=List.mem_flatMap.1 hu
 simp only [secL,List.mem_cons,List.not_mem_nil,or_false] at hx
 rcases hx with rfl|rfl|rfl<;>rfl
theorem q2w {s:Snm} (h:ShAt s.st) {i:Nat} (hi:i≤7):atS s i≤6000003:=by
 unfold atS
 have h1:=qcp (upF i (secN s))
 have h2:=qff h hi
 omega
def qap (s:Snm) (i:Nat):List Sec:=[⟨qb6 i,atS s i,atS s (i+1)⟩]
def qg1:Sec:=⟨⟨#[104,101,97,100]⟩,0,3⟩
def qig (s:Snm):Sec:=⟨⟨#[115,117,109]⟩,atS s 7,atS s 7+4⟩
theorem qwt (s:Snm):secsS s=[qg1]++upF 7 (qap s)++[qig s]:=rfl
def secsE (s:Snm):List Sec:=if chkS s=0 then secsS s else []
theorem qjo {s:Snm} (h:chkS s=0):secsE s=secsS s:=if_pos h
theorem qwu {s:Snm} (h:chkS s≠0):secsE s=[]:=if_neg h
def qfg (t:TypeId) (w:World) (er:Nat) (R:List Sec) (r:Ending) (w':World):Prop:=
 (∃A c,r= .returned (.tuple #[.slice A R.length c,.int .i64 (er:Int)])∧w'.ownsRow w.heap.size t 3 (.slice A R.length c) R.length (R.flatMap secL)∧R.length≤c)∧Below w.heap.size w w'
theorem qqj {t:TypeId} {w w':World} {er er':Nat} {q R:List Sec} {A:Option Addr} {c:Nat} (he:er'=er) (h:q=R) (ho:w'.ownsRow w.heap.size t 3 (.slice A q.length c) q.length (q.flatMap secL)) (hc:q.length≤c) (hb:Below w.heap.size w w'):qfg t w er R (.returned (.tuple #[.slice A q.length c,.int .i64 (er':Int)])) w':=by
 subst h;subst he
 exact ⟨⟨A,c,rfl,ho,hc⟩,hb⟩
theorem qqk {t:TypeId} {w w':World} {er:Nat} {R:List Sec} (e:Int) (he:e=er) (h:R=[]) (hb:Below w.heap.size w w'):qfg t w er R (.returned (.tuple #[.slice none 0 0,.int .i64 e])) w':=by
 subst h;subst he
 exact ⟨⟨none,0,rfl,World.ownsRow_nil _ _ _ _,Nat.le_refl _⟩,hb⟩
theorem qeu {α:Type} {f:Nat→List α} {m:Nat} (h:∀i,(f i).length=m):∀k,(upF k f).length=m*k
 |0=>rfl
 |k+1=>by rw [qs,List.length_append,Nat.mul_succ,qeu h k,h k]
theorem qdm {α:Type} (d:α) {l m:List α} (hl:l.length=m.length) (hu:∀i,i<l.length→l.getD i d=m.getD i d):l=m:=by
 apply List.ext_getElem hl
 intro i h1 h2
 have:=hu i h1
 rwa [List.getD_eq_getElem?_getD,List.getD_eq_getElem?_getD,List.getElem?_eq_getElem h1,List.getElem?_eq_getElem h2] at this
theorem qdn {α:Type} {f g:Nat→α}:∀i,i<0→f i=g i:=fun i h=>by omega
theorem qdo {α:Type} {f g:Nat→α} {k:Nat} (h:∀i,i<k→f i=g i) (hk:f k=g k):∀i,i<k+1→f i=g i:=fun i hi=>by
 rcases Nat.lt_or_ge i k with h1|h1
 ·exact h i h1
 ·obtain rfl:i=k:=by omega
  exact hk
theorem qwv (x y:Tk):zc Tryz.prog 4 61 (.agg x.cells) (.agg y.cells)=some (decide (x=y)):=by
 have h:zc Tryz.prog 4 61 (.agg x.cells) (.agg y.cells)=some ((x.id==y.id)&& ((x.group==y.group)&& ((x.weight==y.weight)&& ((x.cpu==y.cpu)&& (((x.mask:Int)==(y.mask:Int))&& ((x.ready==y.ready)&& (((x.v:Int)==(y.v:Int))&& (((x.r:Int)==(y.r:Int))&&true)))))))):=by kernel_rfl
 refine h.trans (congrArg some ?_)
 obtain ⟨a1,a2,a3,a4,a5,a6,a7,a8⟩:=x
 obtain ⟨b1,b2,b3,b4,b5,b6,b7,b8⟩:=y
 rw [Bool.eq_iff_iff]
 simp only [Bool.and_eq_true,beq_iff_eq,decide_eq_true_eq,Tk.mk.injEq,and_true,Int.ofNat_inj]
theorem qww (x y:Sp):zc Tryz.prog 4 63 (.agg x.cells) (.agg y.cells)=some (decide (x=y)):=by
 have h:zc Tryz.prog 4 63 (.agg x.cells) (.agg y.cells)=some (((x.v:Int)==(y.v:Int))&& (((x.r:Int)==(y.r:Int))&& (((x.floor:Int)==(y.floor:Int))&&true))):=by kernel_rfl
 refine h.trans (congrArg some ?_)
 obtain ⟨a1,a2,a3⟩:=x
 obtain ⟨b1,b2,b3⟩:=y
 rw [Bool.eq_iff_iff]
 simp only [Bool.and_eq_true,beq_iff_eq,decide_eq_true_eq,Sp.mk.injEq,and_true,Int.ofNat_inj]
def rowsL (x:Stm):List (List Sp):=x.rs.map Rw.l
theorem qb9 {x:Stm} {g:Nat} (h:g<x.rs.length):(rowsL x).getD g []=(x.rs.getD g Rw.zero).l:=rs_at h
theorem qaq (x:Stm):(rowsL x).length=x.rs.length:=List.length_map ..
def CfgEq (a b:Stm):Prop:=a.cpus=b.cpus∧a.credit=b.credit∧a.gs=b.gs
instance cfgEqDec (a b:Stm):Decidable (CfgEq a b):=by unfold CfgEq;infer_instance
def StaEq (a b:Stm):Prop:=CfgEq a b∧a.cl=b.cl∧a.cu=b.cu∧a.ts=b.ts∧rowsL a=rowsL b
instance staEqDec (a b:Stm):Decidable (StaEq a b):=by unfold StaEq;infer_instance
def SnEq (a b:Snm):Prop:=a.next=b.next∧a.st.cpus=b.st.cpus∧a.st.credit=b.st.credit∧a.st.gs=b.st.gs∧a.st.cl=b.st.cl∧a.st.cu=b.st.cu∧a.st.ts=b.st.ts∧rowsL a.st=rowsL b.st
instance snEqDec (a b:Snm):Decidable (SnEq a b):=by unfold SnEq;infer_instance
theorem qbj {l:List Rw} {i:Nat} (h:i<l.length):(l.map Rw.l).getD i []=(l.getD i Rw.zero).l:=by
 rw [List.getD_eq_getElem?_getD,List.getD_eq_getElem?_getD,List.getElem?_map,List.getElem?_eq_getElem h]
 rfl
theorem qth {l m:List Rw} (hl:l.length=m.length) (hu:∀i,i<l.length→(l.getD i Rw.zero).l=(m.getD i Rw.zero).l):l.map Rw.l=m.map Rw.l:=
 qdm [] (by simpa using hl) fun i hi=>by
  rw [List.length_map] at hi
  rw [qbj hi,qbj om]
  exact hu i hi
theorem qti {l m:List Rw} {k:Nat} (h1:k<l.length) (h2:k<m.length) (h:(l.getD k Rw.zero).l≠(m.getD k Rw.zero).l):l.map Rw.l≠m.map Rw.l:=fun e=>h (by rw [←qbj h1,←qbj h2,e])
theorem qtj {l m:List Rw} (h:l.length≠m.length):l.map Rw.l≠m.map Rw.l:=fun e=>h (by have:=congrArg List.length e;simpa using this)
section
variable {P:Program} {Q:Exit→Act→World→Prop} {a:Act} {W w:World} {n d:Nat} {D:List Deferred} {σ:List (Nat×Value)} {o:Oper} {K:Act→World→Prop} {fs:List Fact}
theorem Mem.setPart (h:Mem W w fs) {i g off:Nat} {cs ds es:Array Value} {t:TypeId} (hi:fs[i]?=some (.blk g cs t)) (hl:off+ds.size≤cs.size) (he:cs.toList.take off++ds.toList++cs.toList.drop (off+ds.size)=es.toList):Mem W (w.setCells g off ds.toList) (fs.set i (.blk g es t)):=by
 have hb:=h.holds _ (List.mem_of_getElem? hi)
 refine h.turn hi (below_setCells h.below hb.1 off _) (fun k hk hne=>?_) ⟨hb.1,?_⟩ (fun g' hg'=> .inl hg')
 ·exact q8 _ _ _ _ _ (fun e=>hne (by rw [e];rfl))
 ·have hlen:(cs.toList.take off).length=off:=by rw [List.length_take];simp;omega
  have h1:=qac g t ds.toList w (cs.toList.take off) (cs.toList.drop (off+ds.size)) ((cs.toList.drop off).take ds.size) (by
   rw [hb.2]
   congr 2
   apply Array.ext'
   show cs.toList=_
   rw [List.append_assoc,←List.drop_drop,List.take_append_drop,List.take_append_drop]) (by rw [List.length_take,List.length_drop];simp;omega)
  rw [hlen,he] at h1
  simpa using h1
theorem e_sp (Z:Fr a n D σ) (I:Mem W w fs) (i:Nat) {t:TypeId} {x y:Operand} {g off m:Nat} {cs ds:Array Value} {tb:TypeId} (es:Array Value) (hop:o.op= .store t x y) (hd:o.dst=none) (hx:look σ x=some (.pointer (some ⟨g,off,none⟩))) (hy:look σ y=some (.agg ds)) (hi:fs[i]?=some (.blk g cs tb)) (si:SI P t m) (hc:off+m≤cs.size) (hm:ds.size=m) (h1:∀u∈ds.toList,u.oneCell'=true) (he:cs.toList.take off++ds.toList++cs.toList.drop (off+m)=es.toList)
  (k:∀w',Mem W w' (fs.set i (.blk g es tb))→K a w'):o.wp P a w K Q:=by
 subst hm
 have hb:=I.blk hi
 have hl:=run_storeVar_mid (P:=P) w g off t ds (qb2 hb off ds.size om) (by exact si.size) (by simpa using all_oneCell_toArray h1)
 unfold Oper.wp execOp
 simp only [hop,Z.eval hx,Z.eval hy,Sem.run_bind,Instr.storeAt,Instr.sureAddr,Sem.run_pure,hl,Result.andThen_ok,Oper.upon_skip,hd]
 exact k _ (I.setPart hi hc he)
end
def rwF (t:TypeId) (q:List Rw):List Fact:=ownsF t 3 (q.map Rw.own)
section
variable {W w w':World} {fs gs a T:List Fact} {t:TypeId} {q:List Rw}
theorem qtk {x:Rw} (hq:x∈q):Fact.row (.slice x.A x.l.length x.c) x.l.length (x.l.flatMap spL) t 3∈rwF t q:=List.mem_map_of_mem (List.mem_map_of_mem hq)
theorem Mem.toRw {A:Option Addr} {c:Nat} {l:List Sp} (h:Mem W w (.row (.slice A l.length c) l.length (l.flatMap spL) t 3::(fs++rwF t q))):Mem W w (fs++rwF t (q++[⟨A,c,l⟩])):=by
 have h1:=Mem.q3r h
 unfold rwF
 rw [List.map_append]
 exact h1
theorem Mem.joinT (h:Mem W w fs) (k:Mem w w' gs):Mem W w' (fs++gs):=(h.join k).perm List.perm_append_comm
end
def stF (x:Stm):List Fact:=[.row (.slice x.gA x.gs.length x.gc) x.gs.length (x.gs.flatMap grL) 110 2,.row (.slice x.lA x.cl.length x.lc) x.cl.length (x.cl.map I64i) 3 1,.row (.slice x.uA x.cu.length x.uc) x.cu.length (x.cu.map I64i) 3 1,.row (.slice x.tA x.ts.length x.tc) x.ts.length (x.ts.flatMap tkL) 61 8,.row (.slice x.sA x.rs.length x.sc) x.rs.length (x.rs.map Rw.val) 64 1]++rwF 63 x.rs
section
variable {W w w':World} {fs T:List Fact} {x:Stm}
theorem Mem.stOf (h:Mem W w fs) (hs:∀f∈stF x,f∈fs):StRd w x:=
 ⟨h.rdMem (hs _ (List.mem_of_getElem? (i:=0) (l:=stF x) rfl)),h.rdMem (hs _ (List.mem_of_getElem? (i:=1) (l:=stF x) rfl)),h.rdMem (hs _ (List.mem_of_getElem? (i:=2) (l:=stF x) rfl)),h.rdMem (hs _ (List.mem_of_getElem? (i:=3) (l:=stF x) rfl)),h.rdMem (hs _ (List.mem_of_getElem? (i:=4) (l:=stF x) rfl)),fun y hy=>h.rdMem (hs _ (List.mem_append_right _ (qtk hy)))⟩
theorem Mem.stL (n:Nat) (h:Mem W w fs) (he:fs.drop n=stF x++T):StRd w x:=h.stOf fun f hf=>List.mem_of_mem_drop (he▸List.mem_append_left _ hf)
end
def qtl (w:World) (x:Stm) (r:Ending) (w':World):Prop:=∃y:Stm,r= .returned (.agg y.cells)∧StaEq x y∧StCap y∧Mem w w' (stF y)
def q0m (w:World) (R:List Int) (r:Ending) (w':World):Prop:=
 (∃A c,r= .returned (.slice A R.length c)∧w'.ownsRow w.heap.size 3 1 (.slice A R.length c) R.length (R.map I64i)∧R.length≤c)∧Below w.heap.size w w'
def q2x (w:World) (x:Stm) (r:Ending) (w':World):Prop:=
 (∃A c,r= .returned (.agg #[.int .i64 x.cpus,.int .u64 (x.credit:Int),.slice A x.gs.length c])∧w'.ownsRow w.heap.size 110 2 (.slice A x.gs.length c) x.gs.length (x.gs.flatMap grL)∧x.gs.length≤c)∧Below w.heap.size w w'
theorem qot (l:List Gr):∀u∈l.flatMap grL,u.oneCell'=true:=by
 intro u hu
 obtain ⟨x,_,hx⟩:=List.mem_flatMap.1 hu
 simp only [grL,List.mem_cons,List.not_mem_nil,or_false] at hx
 rcases hx with rfl|rfl<;>rfl
theorem qy3 (l:List Sp):∀u∈l.flatMap spL,u.oneCell'=true:=by
 intro u hu
 obtain ⟨x,_,hx⟩:=List.mem_flatMap.1 hu
 simp only [spL,List.mem_cons,List.not_mem_nil,or_false] at hx
 rcases hx with rfl|rfl|rfl<;>rfl
theorem qfu (l:List Tk):∀u∈l.flatMap tkL,u.oneCell'=true:=by
 intro u hu
 obtain ⟨x,_,hx⟩:=List.mem_flatMap.1 hu
 simp only [tkL,List.mem_cons,List.not_mem_nil,or_false] at hx
 rcases hx with rfl|rfl|rfl|rfl|rfl|rfl|rfl|rfl<;>rfl
theorem qtm (l:List Int):∀u∈l.map I64i,u.oneCell'=true:=by
 intro u hu
 obtain ⟨x,_,rfl⟩:=List.mem_map.1 hu
 rfl
theorem qy4 (l:List Rw):∀u∈l.map Rw.val,u.oneCell'=true:=by
 intro u hu
 obtain ⟨x,_,rfl⟩:=List.mem_map.1 hu
 rfl
theorem qou {l:List Rw} {k:Nat} (h:k<l.length):(l.take (k+1)).map Rw.l=(l.take k).map Rw.l++[(l.getD k Rw.zero).l]:=by rw [qeq Rw.zero h,List.map_append];rfl
theorem qla {a b:Stm} (h:StaEq a b):b.sta=a.sta:=by
 obtain ⟨⟨h1,h2,h3⟩,h4,h5,h6,h7⟩:=h
 unfold Stm.sta
 rw [h1,h2,h3,h4,h5,h6,show a.rs.map Rw.l=b.rs.map Rw.l from h7]
theorem q2y {a b:Snm} (h:SnEq a b):StaEq a.st b.st:=⟨⟨h.2.1,h.2.2.1,h.2.2.2.1⟩,h.2.2.2.2.1,h.2.2.2.2.2.1,h.2.2.2.2.2.2.1,h.2.2.2.2.2.2.2⟩
theorem sn_of {a b:Snm} (h0:a.next=b.next) (h:StaEq a.st b.st):SnEq a b:=⟨h0,h.1.1,h.1.2.1,h.1.2.2,h.2.1,h.2.2.1,h.2.2.2.1,h.2.2.2.2⟩
theorem qih {a b:Stm} (h:rowsL a=rowsL b):a.rs.length=b.rs.length:=by rw [←qaq a,h,qaq]
theorem qjp {α:Type} {f g:Nat→List α}:∀k,(∀i,i<k→f i=g i)→upF k f=upF k g
 |0,_=>rfl
 |k+1,h=>by rw [qs,qs,qjp k (fun i hi=>h i om),h k om]
theorem qov {a b:Snm} (h:SnEq a b):∀i,secN b i=secN a i:=by
 obtain ⟨h0,h1,h2,h3,h4,h5,h6,h7⟩:=h
 intro i
 match i with
 |0=>show [toU b.next]=[toU a.next];rw [h0]
 |1=>show [toU b.st.cpus,b.st.credit,b.st.gs.length]=[toU a.st.cpus,a.st.credit,a.st.gs.length];rw [h1,h2,h3]
 |2=>show upF (b.st.gs.length-1) (gsN b.st.gs)=upF (a.st.gs.length-1) (gsN a.st.gs);rw [h3]
 |3=>show b.st.cl.map toU=a.st.cl.map toU;rw [h4]
 |4=>show b.st.cu.map toU=a.st.cu.map toU;rw [h5]
 |5=>show (b.st.ts.length::upF b.st.ts.length fun i=>tkN (ql b.st.ts i) (b.st.ts.getD i Tk.zero))=a.st.ts.length::upF a.st.ts.length fun i=>tkN (ql a.st.ts i) (a.st.ts.getD i Tk.zero);rw [h6]
 |6=>
  have hl:=qih h7
  show (upF b.st.rs.length fun g=>rwN g (b.st.rs.getD g Rw.zero).l)=upF a.st.rs.length fun g=>rwN g (a.st.rs.getD g Rw.zero).l
  rw [hl]
  exact qjp _ fun g hg=>by rw [←qb9 hg,←h7,qb9 om]
 |k+7=>rfl
theorem q2z {a b:Snm} (h:SnEq a b):chkS b=chkS a:=by unfold chkS;rw [qla (q2y h),h.1]
theorem q0n {a b:Snm} (h:SnEq a b):numsS b=numsS a:=qjp 7 fun i _=>qov h i
theorem qwx {a b:Snm} (h:SnEq a b):numsE b=numsE a:=by unfold numsE;rw [q2z h,q0n h]
theorem qql (a:Stm):StaEq a a:=⟨⟨rfl,rfl,rfl⟩,rfl,rfl,rfl,rfl⟩
def LitP (x:Stm):Prop:=x.ts.length≤60∧x.gs.length≤12∧x.rs.length≤12∧x.cl.length≤8∧x.cu.length≤8∧∀k,k<x.rs.length→(x.rs.getD k Rw.zero).l.length≤8
instance litDec (x:Stm):Decidable (LitP x):=by unfold LitP;infer_instance
def Sec.zero:Sec:=⟨⟨#[]⟩,0,0⟩
def Sec.cells (x:Sec):Array Value:= #[.string x.nm,.int .i64 (x.fr:Int),.int .i64 (x.to:Int)]
def secEq (x y:Sec):Bool:=(x.nm.toList==y.nm.toList)&& (((x.fr:Int)==(y.fr:Int))&& (((x.to:Int)==(y.to:Int))&&true))
theorem qqm (x:Sec):secEq x x=true:=by unfold secEq;simp
theorem qtn (x y:Sec):zc Tryz.prog 4 69 (.agg x.cells) (.agg y.cells)=some (secEq x y):=by kernel_rfl
def exA (a b c d e:Nat):Snm:=⟨1,⟨1,0,some ⟨a,0,none⟩,1,[⟨0,1⟩],some ⟨b,0,none⟩,1,[0],some ⟨c,0,none⟩,1,[0],none,0,[],some ⟨e,0,none⟩,1,[⟨some ⟨d,0,none⟩,1,[⟨0,0,0⟩]⟩]⟩⟩
def exZ (a b c d e:Nat):Snm:=⟨0,(exA a b c d e).st⟩
def exT (a b c d e:Nat):Snm:=⟨1,⟨1,0,some ⟨a,0,none⟩,1,[⟨0,1⟩],some ⟨b,0,none⟩,2,[0,0],some ⟨c,0,none⟩,1,[0],none,0,[],some ⟨e,0,none⟩,1,[⟨some ⟨d,0,none⟩,1,[⟨0,0,0⟩]⟩]⟩⟩
def exB (a b c d e f:Nat):Snm:=⟨4,⟨1,0,some ⟨a,0,none⟩,1,[⟨0,1⟩],some ⟨b,0,none⟩,1,[3],some ⟨c,0,none⟩,1,[5],some ⟨d,0,none⟩,1,[⟨5,0,1024,0,1,true,3072,0⟩],some ⟨f,0,none⟩,1,[⟨some ⟨e,0,none⟩,1,[⟨0,0,3072⟩]⟩]⟩⟩
def byA:List Nat:=[113,115,1,1,1,0,1,0,0,0,0]
def nuB:List Nat:=[4,1,0,1,3,5,1,5,0,1024,0,1,1,3072,0,3072]
def sec6:Sec:=⟨⟨#[116,97,115,107,115]⟩,9,20⟩
section
variable {w:World} {a b c d e f:Nat}
theorem qho:chkS (exA a b c d e)=0:=by kernel_rfl
theorem qkc:chkS (exB a b c d e f)=0:=by kernel_rfl
theorem q1j:chkS (exZ a b c d e)=330:=by kernel_rfl
theorem q1k:chkS (exT a b c d e)=331:=by kernel_rfl
theorem qpo:bodyS (exA a b c d e)=byA:=by kernel_rfl
theorem qvi:outS (exA a b c d e)=sealL byA:=by rw [qg0 qho,qpo]
theorem q1l:sumS (exA a b c d e)=qx byA:=by rw [qtf qho,qpo]
theorem qx9:numsE (exB a b c d e f)=nuB:=by rw [qbf qkc];kernel_rfl
theorem qya:secsE (exB a b c d e f)=secsS (exB 0 0 0 0 0 0):=by rw [qjo qkc];rfl
theorem exS_6:(secsS (exB 0 0 0 0 0 0))[6]?=some sec6:=by kernel_rfl
theorem zn {α:Type} {p:α→Prop} {x:α} (h:p x):∀y∈[x],p y:=fun y hy=>by rw [List.mem_singleton] at hy;subst hy;exact h
theorem qvj {α:Type} {p:α→Prop}:∀y∈([]:List α),p y:=fun y hy=>by cases hy
theorem qnv:Gr.Ok ⟨0,1⟩:=⟨by unfold I64;decide,by unfold I64;decide⟩
theorem qpp:(exA a b c d e).st.sta.Ok:=⟨show I64 1 by unfold I64;decide,show 0<18446744073709551616 by decide,zn qnv,zn (by unfold I64;decide),zn (by unfold I64;decide),qvj,zn (zn ⟨by decide,by decide,by decide⟩)⟩
theorem q3g:(exT a b c d e).st.sta.Ok:=⟨show I64 1 by unfold I64;decide,show 0<18446744073709551616 by decide,zn qnv,fun y hy=>by (simp [exT,Stm.sta] at hy;subst hy;unfold I64;decide),zn (by unfold I64;decide),qvj,zn (zn ⟨by decide,by decide,by decide⟩)⟩
theorem qzf:(exB a b c d e f).st.sta.Ok:=⟨show I64 1 by unfold I64;decide,show 0<18446744073709551616 by decide,zn qnv,zn (by unfold I64;decide),zn (by unfold I64;decide),zn ⟨by unfold I64;decide,by unfold I64;decide,by unfold I64;decide,by unfold I64;decide,by decide,by decide,by decide⟩,zn (zn ⟨by decide,by decide,by decide⟩)⟩
theorem qhp:StFew (exA a b c d e).st:=⟨by show 1≤1000000;decide,by show 1≤1000000;decide,by show 1≤1000000;decide,by show 0≤1000000;decide,by show 1≤1000000;decide,zn (by show 1≤1000000;decide)⟩
theorem q1m:StFew (exT a b c d e).st:=⟨by show 1≤1000000;decide,by show 2≤1000000;decide,by show 1≤1000000;decide,by show 0≤1000000;decide,by show 1≤1000000;decide,zn (by show 1≤1000000;decide)⟩
theorem qhq:StFew (exB a b c d e f).st:=⟨by show 1≤1000000;decide,by show 1≤1000000;decide,by show 1≤1000000;decide,by show 1≤1000000;decide,by show 1≤1000000;decide,zn (by show 1≤1000000;decide)⟩
theorem qkd:StCap (exA a b c d e).st:=⟨Nat.le_refl 1,Nat.le_refl 1,Nat.le_refl 1,Nat.le_refl 0,Nat.le_refl 1,zn (Nat.le_refl 1)⟩
theorem q1n:StCap (exT a b c d e).st:=⟨Nat.le_refl 1,Nat.le_refl 2,Nat.le_refl 1,Nat.le_refl 0,Nat.le_refl 1,zn (Nat.le_refl 1)⟩
theorem qvk:StCap (exB a b c d e f).st:=⟨Nat.le_refl 1,Nat.le_refl 1,Nat.le_refl 1,Nat.le_refl 1,Nat.le_refl 1,zn (Nat.le_refl 1)⟩
theorem ql3 (h1:w.heap[a]?=some (.cells #[.int .i64 0,.int .i64 1] 110 (0,0))) (h2:w.heap[b]?=some (.cells #[.int .i64 0] 3 (0,0))) (h3:w.heap[c]?=some (.cells #[.int .i64 0] 3 (0,0))) (h4:w.heap[d]?=some (.cells #[.int .u64 0,.int .u32 0,.int .u64 0] 63 (0,0))) (h5:w.heap[e]?=some (.cells #[.slice (some ⟨d,0,none⟩) 1 1] 64 (0,0))):StRd w (exA a b c d e).st:=
 ⟨Rd.qa2 h1 rfl,Rd.qa2 h2 rfl,Rd.qa2 h3 rfl,Rd.nil,Rd.qa2 h5 rfl,zn (Rd.qa2 h4 rfl)⟩
theorem q3h (h1:w.heap[a]?=some (.cells #[.int .i64 0,.int .i64 1] 110 (0,0))) (h2:w.heap[b]?=some (.cells #[.int .i64 0,.int .i64 0] 3 (0,0))) (h3:w.heap[c]?=some (.cells #[.int .i64 0] 3 (0,0))) (h4:w.heap[d]?=some (.cells #[.int .u64 0,.int .u32 0,.int .u64 0] 63 (0,0))) (h5:w.heap[e]?=some (.cells #[.slice (some ⟨d,0,none⟩) 1 1] 64 (0,0))):StRd w (exT a b c d e).st:=
 ⟨Rd.qa2 h1 rfl,Rd.qa2 h2 rfl,Rd.qa2 h3 rfl,Rd.nil,Rd.qa2 h5 rfl,zn (Rd.qa2 h4 rfl)⟩
theorem qpq (h1:w.heap[a]?=some (.cells #[.int .i64 0,.int .i64 1] 110 (0,0))) (h2:w.heap[b]?=some (.cells #[.int .i64 3] 3 (0,0))) (h3:w.heap[c]?=some (.cells #[.int .i64 5] 3 (0,0))) (h4:w.heap[d]?=some (.cells #[.int .i64 5,.int .i64 0,.int .i64 1024,.int .i64 0,.int .u64 1,.bool true,.int .u64 3072,.int .u32 0] 61 (0,0))) (h5:w.heap[e]?=some (.cells #[.int .u64 0,.int .u32 0,.int .u64 3072] 63 (0,0))) (h6:w.heap[f]?=some (.cells #[.slice (some ⟨e,0,none⟩) 1 1] 64 (0,0))):StRd w (exB a b c d e f).st:=
 ⟨Rd.qa2 h1 rfl,Rd.qa2 h2 rfl,Rd.qa2 h3 rfl,Rd.qa2 h4 rfl,Rd.qa2 h6 rfl,zn (Rd.qa2 h5 rfl)⟩
theorem qpr {B:Nat} {A:Option Addr} (h:Rd w B 1 A 15 ((sealL byA).map B8)):Rd w B 1 A 11 (byA.map B8):=Rd.pre (r:=le4 (qx byA)) h rfl de
end
def ExIs (w:World) (r:Ending) (w':World):Prop:=∃e6 e9 e10 e12 e13 e17 e18 e20 e22 e23:Nat,r= .returned (.tuple #[.agg (exA e6 e9 e10 e12 e13).cells,.agg (exB e6 e17 e18 e20 e22 e23).cells])∧
 Mem w w' [.blk e6 #[.int .i64 0,.int .i64 1] 110,.blk e9 #[.int .i64 0] 3,.blk e10 #[.int .i64 0] 3,.blk e12 #[.int .u64 0,.int .u32 0,.int .u64 0] 63,.blk e13 #[.slice (some ⟨e12,0,none⟩) 1 1] 64,.blk e17 #[.int .i64 3] 3,.blk e18 #[.int .i64 5] 3,.blk e20 #[.int .i64 5,.int .i64 0,.int .i64 1024,.int .i64 0,.int .u64 1,.bool true,.int .u64 3072,.int .u32 0] 61,.blk e22 #[.int .u64 0,.int .u32 0,.int .u64 3072] 63,.blk e23 #[.slice (some ⟨e22,0,none⟩) 1 1] 64]
structure ShA0 (x:Stm):Prop where
 cfg:cfgOk x.sta=true
 cl:(x.cl.length:Int)=x.cpus
 cu:(x.cu.length:Int)=x.cpus
 rs:x.rs.length=x.gs.length
 cls:∀c,c<x.cl.length→clOk (x.cl.getD c 0)=true
 row:∀g,g<x.rs.length→rowOk x.sta g=true
section
variable {x:Stm} {g:Nat}
end
def Mb.zero:Mb:=⟨0,0,0⟩
section
variable {x:Stm} {g i:Nat} {z:Sp} {t:Tk}
end
theorem q1r {P:Program} {x:Code} {Q:Exit→Act→World→Prop} {a:Act} {w:World} (R:Act→World→Prop) (h:x.wp P (Exit.then R Q) a w) (k:∀a w,R a w→Q .normal a w):x.wp P Q a w:=
 Code.wp_mono (fun e a w hq=>by cases e<;>first|exact k _ _ hq|exact hq) h
structure SnGood (T:List Fact) (S:Snm):Prop where
 ok:S.st.sta.Ok
 few:StFew S.st
 cap:StCap S.st
 rd:∀(W w:World) (fs:List Fact),Mem W w fs→(∀f∈T,f∈fs)→StRd w S.st
theorem SnGood.at {T fs:List Fact} {S:Snm} {W w:World} (h:SnGood T S) (I:Mem W w fs) (n:Nat) (he:fs.drop n=T):StRd w S.st:=h.rd _ _ _ I fun _ hf=>List.mem_of_mem_drop (he▸hf)
def Sp3 (l:List Sp):Prop:=l.length=3∧∀z∈l,z.Ok
theorem Sp3.set {l:List Sp} (h:Sp3 l) (k:Nat) {x:Sp} (hx:x.Ok):Sp3 (l.set k x):=⟨by rw [List.length_set];exact h.1,fun z hz=>(List.mem_or_eq_of_mem_set hz).elim (h.2 z) (fun e=>e▸hx)⟩
theorem Sp3.at {l:List Sp} (h:Sp3 l) {k:Nat} (hk:k<3):(l.getD k Sp.zero).Ok:=h.2 _ (qd Sp.zero (by rw [h.1];exact hk))
theorem qyb (A:Option Addr) (c:Nat) (l:List Gr) (D:Option Addr) (c2:Nat) (m:List Gr) (w:World) (hr:Rd w w.heap.size 2 A l.length (l.flatMap grL)) (hr2:Rd w w.heap.size 2 D m.length (m.flatMap grL)) (hn:l.length≤1000000) (hn2:m.length≤1000000):
    Calls Tryz.prog 42 #[.slice A l.length c,.slice D m.length c2] w (Is w (.bool (decide (l=m)))):=by
 refine (JN2 Tryz.func42 26) ?_
 refine (JP∘Jp 1∘Jj∘JQ∘JP∘Jp 1∘Jl∘Jp 1∘Jl∘Jp 1∘Jd4∘Jj) (Ju (fun hb10=>?_) fun hb10=>?_)
 ·
  intro a Z I
  have hd10:=bne_iff_ne.1 hb10
  exact Jb Z I ((JT∘JP∘Jp 1∘Jj∘JZ∘Jz1) fun I=>is_no (fun e=>by rw [e] at hd10;exact hd10 rfl) I.below)
 intro a Z I
 have hd10:=bne_eq_false_iff_eq.1 hb10
 have hlm:l.length=m.length:=by omega
 refine Jb Z I ((JF∘JS'∘JQ∘JP∘Jp 1∘Jl∘Jp 1∘Jj∘JB) fun a Z I=>?_)
 refine qj (fun mS aS wS=>∃(k:Nat),(k≤l.length)∧(∀i,i<k→l.getD i Gr.zero=m.getD i Gr.zero)∧mS=l.length-k∧Fr aS 26 [] [(13,vI k),(12,vI l.length),(10,.bool false),(4,.bool false),(0,.slice A l.length c),(1,.slice D m.length c2)]∧Mem w wS []) (m:=l.length-0) ⟨0,Nat.zero_le _,qdn,rfl,Z.sub kr,I.pk []⟩ ?_
 clear Z I;rintro mS a w_ ⟨k,hk,hu,rfl,Z,I⟩
 refine Jb Z I ((JP∘Jp 1∘Jj∘JQ) (Ju (fun hb14=>?_) fun hb14=>?_))
 ·
  intro a Z I
  have hd14:=of_decide_eq_true hb14
  have hk1:k<l.length:=by omega
  have hk2:k<m.length:=by omega
  revert I;revert a;repeat (first|clear Z|clear I)
  intro a Z I
  obtain ⟨gA,oA,rfl,_⟩:=hr.qm (Nat.lt_of_le_of_lt (Nat.zero_le _) (show k<l.length from hk1)) de
  revert I;revert a;repeat (first|clear Z|clear I)
  intro a Z I
  obtain ⟨gD,oD,rfl,_⟩:=hr2.qm (Nat.lt_of_le_of_lt (Nat.zero_le _) (show k<m.length from hk2)) de
  refine Jb Z I ((JT∘JS'∘JQ∘JB∘JP∘Jp 2∘Jd1∘Jj) fun a Z I=>?_)
  refine wp_seq ?_
  refine Jb Z I ((Vs .n []) fun wd6=>(Vp [0,1,4,5]∘Vy 2 (h:=by exact Yl.ix gA oA k 2 rfl rfl rfl)∘Vy 3 (v:= .agg ((l.getD k Gr.zero).cells)) (h:=by exact Yl.loadS rfl rfl si_gr rfl (fun _ h=>(h.old hr).q7 zm ((getD_at Gr.zero hk1))))∘Vy 6 (h:=by exact Yl.ix gD oD k 2 rfl rfl rfl)∘Vy 7 (v:= .agg ((m.getD k Gr.zero).cells)) (h:=by exact Yl.loadS rfl rfl si_gr rfl (fun _ h=>(h.old hr2).q7 zm ((getD_at Gr.zero hk2))))∘Vy 8 (v:= .bool (!(decide ((l.getD k Gr.zero)=(m.getD k Gr.zero))))) (h:=by exact Yl.qmd rfl rfl rfl (qoi (l.getD k Gr.zero) (m.getD k Gr.zero)))∘Vd∘Jd6) (Ji' (fun hd24=>?_) fun hd24=>?_))
  ·
   exact (JT∘JP∘Jp 1∘Jj∘JZ∘Jz1) fun I=>is_no (fun e=>hd24 (by rw [e])) I.below
  refine (JF∘JS'∘JR∘JaK 1∘Jp 1∘Jd1∘Jq) fun a Z I=>?_
  exact ⟨_,om,k+1,by omega,qdo hu (hd24),rfl,Z.sub kr,I.pk []⟩
 intro a Z I
 have hd14:=of_decide_eq_false hb14
 exact Jb Z I ((JF∘JX∘JG∘JP∘Jp 1∘Jj∘JZ∘Jz1) fun I=>qgq (qdm Gr.zero hlm (fun i hi=>hu i om)) I.below)
theorem ql5 (A:Option Addr) (c:Nat) (l:List Int) (D:Option Addr) (c2:Nat) (m:List Int) (w:World) (hr:Rd w w.heap.size 1 A l.length (l.map I64i)) (hr2:Rd w w.heap.size 1 D m.length (m.map I64i)) (hn:l.length≤1000000) (hn2:m.length≤1000000):
    Calls Tryz.prog 43 #[.slice A l.length c,.slice D m.length c2] w (Is w (.bool (decide (l=m)))):=by
 refine (JN2 Tryz.func43 26) ?_
 refine (JP∘Jp 1∘Jj∘JQ∘JP∘Jp 1∘Jl∘Jp 1∘Jl∘Jp 1∘Jd4∘Jj) (Ju (fun hb10=>?_) fun hb10=>?_)
 ·
  intro a Z I
  have hd10:=bne_iff_ne.1 hb10
  exact Jb Z I ((JT∘JP∘Jp 1∘Jj∘JZ∘Jz1) fun I=>is_no (fun e=>by rw [e] at hd10;exact hd10 rfl) I.below)
 intro a Z I
 have hd10:=bne_eq_false_iff_eq.1 hb10
 have hlm:l.length=m.length:=by omega
 refine Jb Z I ((JF∘JS'∘JQ∘JP∘Jp 1∘Jl∘Jp 1∘Jj∘JB) fun a Z I=>?_)
 refine qj (fun mS aS wS=>∃(k:Nat),(k≤l.length)∧(∀i,i<k→l.getD i 0=m.getD i 0)∧mS=l.length-k∧Fr aS 26 [] [(13,vI k),(12,vI l.length),(10,.bool false),(4,.bool false),(0,.slice A l.length c),(1,.slice D m.length c2)]∧Mem w wS []) (m:=l.length-0) ⟨0,Nat.zero_le _,qdn,rfl,Z.sub kr,I.pk []⟩ ?_
 clear Z I;rintro mS a w_ ⟨k,hk,hu,rfl,Z,I⟩
 refine Jb Z I ((JP∘Jp 1∘Jj∘JQ) (Ju (fun hb14=>?_) fun hb14=>?_))
 ·
  intro a Z I
  have hd14:=of_decide_eq_true hb14
  have hk1:k<l.length:=by omega
  have hk2:k<m.length:=by omega
  revert I;revert a;repeat (first|clear Z|clear I)
  intro a Z I
  obtain ⟨gA,oA,rfl,_⟩:=hr.qm (Nat.lt_of_le_of_lt (Nat.zero_le _) (show k<l.length from hk1)) de
  revert I;revert a;repeat (first|clear Z|clear I)
  intro a Z I
  obtain ⟨gD,oD,rfl,_⟩:=hr2.qm (Nat.lt_of_le_of_lt (Nat.zero_le _) (show k<m.length from hk2)) de
  refine Jb Z I ((JT∘JS'∘JQ∘JB∘JP∘Jp 2∘Jd1∘Jj) fun a Z I=>?_)
  refine wp_seq ?_
  refine Jb Z I ((Vs .n []) fun wd6=>(Vp [0,1,4,5]∘Vy 2 (h:=by exact Yl.ix gA oA k 1 rfl rfl rfl)∘Vy 3 (h:=by exact Yl.o1 hr k 0 hk1 rfl rfl)∘Vy 6 (h:=by exact Yl.ix gD oD k 1 rfl rfl rfl)∘Vy 7 (h:=by exact Yl.o1 hr2 k 0 hk2 rfl rfl)∘Vp [8]∘Vd∘Jd6) (Jh (fun hd24=>?_) fun hd24=>?_))
  ·
   exact (JT∘JP∘Jp 1∘Jj∘JZ∘Jz1) fun I=>is_no (fun e=>hd24 (by rw [e])) I.below
  refine (JF∘JS'∘JR∘JaK 1∘Jp 1∘Jd1∘Jq) fun a Z I=>?_
  exact ⟨_,om,k+1,by omega,qdo hu (hd24),rfl,Z.sub kr,I.pk []⟩
 intro a Z I
 have hd14:=of_decide_eq_false hb14
 exact Jb Z I ((JF∘JX∘JG∘JP∘Jp 1∘Jj∘JZ∘Jz1) fun I=>qgq (qdm 0 hlm (fun i hi=>hu i om)) I.below)
theorem qyc (A:Option Addr) (c:Nat) (l:List Tk) (D:Option Addr) (c2:Nat) (m:List Tk) (w:World) (hr:Rd w w.heap.size 8 A l.length (l.flatMap tkL)) (hr2:Rd w w.heap.size 8 D m.length (m.flatMap tkL)) (hn:l.length≤1000000) (hn2:m.length≤1000000):
    Calls Tryz.prog 44 #[.slice A l.length c,.slice D m.length c2] w (Is w (.bool (decide (l=m)))):=by
 refine (JN2 Tryz.func44 26) ?_
 refine (JP∘Jp 1∘Jj∘JQ∘JP∘Jp 1∘Jl∘Jp 1∘Jl∘Jp 1∘Jd4∘Jj) (Ju (fun hb10=>?_) fun hb10=>?_)
 ·
  intro a Z I
  have hd10:=bne_iff_ne.1 hb10
  exact Jb Z I ((JT∘JP∘Jp 1∘Jj∘JZ∘Jz1) fun I=>is_no (fun e=>by rw [e] at hd10;exact hd10 rfl) I.below)
 intro a Z I
 have hd10:=bne_eq_false_iff_eq.1 hb10
 have hlm:l.length=m.length:=by omega
 refine Jb Z I ((JF∘JS'∘JQ∘JP∘Jp 1∘Jl∘Jp 1∘Jj∘JB) fun a Z I=>?_)
 refine qj (fun mS aS wS=>∃(k:Nat),(k≤l.length)∧(∀i,i<k→l.getD i Tk.zero=m.getD i Tk.zero)∧mS=l.length-k∧Fr aS 26 [] [(13,vI k),(12,vI l.length),(10,.bool false),(4,.bool false),(0,.slice A l.length c),(1,.slice D m.length c2)]∧Mem w wS []) (m:=l.length-0) ⟨0,Nat.zero_le _,qdn,rfl,Z.sub kr,I.pk []⟩ ?_
 clear Z I;rintro mS a w_ ⟨k,hk,hu,rfl,Z,I⟩
 refine Jb Z I ((JP∘Jp 1∘Jj∘JQ) (Ju (fun hb14=>?_) fun hb14=>?_))
 ·
  intro a Z I
  have hd14:=of_decide_eq_true hb14
  have hk1:k<l.length:=by omega
  have hk2:k<m.length:=by omega
  revert I;revert a;repeat (first|clear Z|clear I)
  intro a Z I
  obtain ⟨gA,oA,rfl,_⟩:=hr.qm (Nat.lt_of_le_of_lt (Nat.zero_le _) (show k<l.length from hk1)) de
  revert I;revert a;repeat (first|clear Z|clear I)
  intro a Z I
  obtain ⟨gD,oD,rfl,_⟩:=hr2.qm (Nat.lt_of_le_of_lt (Nat.zero_le _) (show k<m.length from hk2)) de
  refine Jb Z I ((JT∘JS'∘JQ∘JB∘JP∘Jp 2∘Jd1∘Jj) fun a Z I=>?_)
  refine wp_seq ?_
  refine Jb Z I ((Vs .n []) fun wd6=>(Vp [0,1,4,5]∘Vy 2 (h:=by exact Yl.ix gA oA k 8 rfl rfl rfl)∘Vy 3 (v:= .agg ((l.getD k Tk.zero).cells)) (h:=by exact Yl.loadS rfl rfl si_tk rfl (fun _ h=>(h.old hr).q7 qf ((getD_at Tk.zero hk1))))∘Vy 6 (h:=by exact Yl.ix gD oD k 8 rfl rfl rfl)∘Vy 7 (v:= .agg ((m.getD k Tk.zero).cells)) (h:=by exact Yl.loadS rfl rfl si_tk rfl (fun _ h=>(h.old hr2).q7 qf ((getD_at Tk.zero hk2))))∘Vy 8 (v:= .bool (!(decide ((l.getD k Tk.zero)=(m.getD k Tk.zero))))) (h:=by exact Yl.qmd rfl rfl rfl (qwv (l.getD k Tk.zero) (m.getD k Tk.zero)))∘Vd∘Jd6) (Ji' (fun hd24=>?_) fun hd24=>?_))
  ·
   exact (JT∘JP∘Jp 1∘Jj∘JZ∘Jz1) fun I=>is_no (fun e=>hd24 (by rw [e])) I.below
  refine (JF∘JS'∘JR∘JaK 1∘Jp 1∘Jd1∘Jq) fun a Z I=>?_
  exact ⟨_,om,k+1,by omega,qdo hu (hd24),rfl,Z.sub kr,I.pk []⟩
 intro a Z I
 have hd14:=of_decide_eq_false hb14
 exact Jb Z I ((JF∘JX∘JG∘JP∘Jp 1∘Jj∘JZ∘Jz1) fun I=>qgq (qdm Tk.zero hlm (fun i hi=>hu i om)) I.below)
theorem qyd (A:Option Addr) (c:Nat) (l:List Sp) (D:Option Addr) (c2:Nat) (m:List Sp) (w:World) (hr:Rd w w.heap.size 3 A l.length (l.flatMap spL)) (hr2:Rd w w.heap.size 3 D m.length (m.flatMap spL)) (hn:l.length≤1000000) (hn2:m.length≤1000000):
    Calls Tryz.prog 46 #[.slice A l.length c,.slice D m.length c2] w (Is w (.bool (decide (l=m)))):=by
 refine (JN2 Tryz.func46 26) ?_
 refine (JP∘Jp 1∘Jj∘JQ∘JP∘Jp 1∘Jl∘Jp 1∘Jl∘Jp 1∘Jd4∘Jj) (Ju (fun hb10=>?_) fun hb10=>?_)
 ·
  intro a Z I
  have hd10:=bne_iff_ne.1 hb10
  exact Jb Z I ((JT∘JP∘Jp 1∘Jj∘JZ∘Jz1) fun I=>is_no (fun e=>by rw [e] at hd10;exact hd10 rfl) I.below)
 intro a Z I
 have hd10:=bne_eq_false_iff_eq.1 hb10
 have hlm:l.length=m.length:=by omega
 refine Jb Z I ((JF∘JS'∘JQ∘JP∘Jp 1∘Jl∘Jp 1∘Jj∘JB) fun a Z I=>?_)
 refine qj (fun mS aS wS=>∃(k:Nat),(k≤l.length)∧(∀i,i<k→l.getD i Sp.zero=m.getD i Sp.zero)∧mS=l.length-k∧Fr aS 26 [] [(13,vI k),(12,vI l.length),(10,.bool false),(4,.bool false),(0,.slice A l.length c),(1,.slice D m.length c2)]∧Mem w wS []) (m:=l.length-0) ⟨0,Nat.zero_le _,qdn,rfl,Z.sub kr,I.pk []⟩ ?_
 clear Z I;rintro mS a w_ ⟨k,hk,hu,rfl,Z,I⟩
 refine Jb Z I ((JP∘Jp 1∘Jj∘JQ) (Ju (fun hb14=>?_) fun hb14=>?_))
 ·
  intro a Z I
  have hd14:=of_decide_eq_true hb14
  have hk1:k<l.length:=by omega
  have hk2:k<m.length:=by omega
  revert I;revert a;repeat (first|clear Z|clear I)
  intro a Z I
  obtain ⟨gA,oA,rfl,_⟩:=hr.qm (Nat.lt_of_le_of_lt (Nat.zero_le _) (show k<l.length from hk1)) de
  revert I;revert a;repeat (first|clear Z|clear I)
  intro a Z I
  obtain ⟨gD,oD,rfl,_⟩:=hr2.qm (Nat.lt_of_le_of_lt (Nat.zero_le _) (show k<m.length from hk2)) de
  refine Jb Z I ((JT∘JS'∘JQ∘JB∘JP∘Jp 2∘Jd1∘Jj) fun a Z I=>?_)
  refine wp_seq ?_
  refine Jb Z I ((Vs .n []) fun wd6=>(Vp [0,1,4,5]∘Vy 2 (h:=by exact Yl.ix gA oA k 3 rfl rfl rfl)∘Vy 3 (v:= .agg ((l.getD k Sp.zero).cells)) (h:=by exact Yl.loadS rfl rfl si_sp rfl (fun _ h=>(h.old hr).q7 qcu ((getD_at Sp.zero hk1))))∘Vy 6 (h:=by exact Yl.ix gD oD k 3 rfl rfl rfl)∘Vy 7 (v:= .agg ((m.getD k Sp.zero).cells)) (h:=by exact Yl.loadS rfl rfl si_sp rfl (fun _ h=>(h.old hr2).q7 qcu ((getD_at Sp.zero hk2))))∘Vy 8 (v:= .bool (!(decide ((l.getD k Sp.zero)=(m.getD k Sp.zero))))) (h:=by exact Yl.qmd rfl rfl rfl (qww (l.getD k Sp.zero) (m.getD k Sp.zero)))∘Vd∘Jd6) (Ji' (fun hd24=>?_) fun hd24=>?_))
  ·
   exact (JT∘JP∘Jp 1∘Jj∘JZ∘Jz1) fun I=>is_no (fun e=>hd24 (by rw [e])) I.below
  refine (JF∘JS'∘JR∘JaK 1∘Jp 1∘Jd1∘Jq) fun a Z I=>?_
  exact ⟨_,om,k+1,by omega,qdo hu (hd24),rfl,Z.sub kr,I.pk []⟩
 intro a Z I
 have hd14:=of_decide_eq_false hb14
 exact Jb Z I ((JF∘JX∘JG∘JP∘Jp 1∘Jj∘JZ∘Jz1) fun I=>qgq (qdm Sp.zero hlm (fun i hi=>hu i om)) I.below)
theorem qrs (A:Option Addr) (c:Nat) (l:List Rw) (D:Option Addr) (c2:Nat) (m:List Rw) (w:World) (hr:Rd w w.heap.size 1 A l.length (l.map Rw.val)) (hr2:Rd w w.heap.size 1 D m.length (m.map Rw.val)) (hl:∀y∈l,Rd w w.heap.size 3 y.A y.l.length (y.l.flatMap spL)) (hm:∀y∈m,Rd w w.heap.size 3 y.A y.l.length (y.l.flatMap spL)) (hn:l.length≤1000000) (hn2:m.length≤1000000) (hnl:∀y∈l,y.l.length≤1000000) (hnm:∀y∈m,y.l.length≤1000000):
    Calls Tryz.prog 45 #[.slice A l.length c,.slice D m.length c2,.func (.func 46) #[] #[]] w (Is w (.bool (decide (l.map Rw.l=m.map Rw.l)))):=by
 refine (JN3 Tryz.func45 32) ?_
 refine (JP∘Jp 1∘Jj∘JQ∘JP∘Jp 1∘Jl∘Jp 1∘Jl∘Jp 1∘Jd4∘Jj) (Ju (fun hb14=>?_) fun hb14=>?_)
 ·
  intro a Z I
  have hd14:=bne_iff_ne.1 hb14
  exact Jb Z I ((JT∘JP∘Jp 1∘Jj∘JZ∘Jz1) fun I=>is_no (qtj (fun e=>hd14 (by rw [e]))) I.below)
 intro a Z I
 have hd14:=bne_eq_false_iff_eq.1 hb14
 have hlm:l.length=m.length:=by omega
 refine Jb Z I ((JF∘JS'∘JQ∘JP∘Jp 1∘Jl∘Jp 1∘Jj∘JB) fun a Z I=>?_)
 refine qj (fun mS aS wS=>∃(k:Nat),(k≤l.length)∧(∀i,i<k→(l.getD i Rw.zero).l=(m.getD i Rw.zero).l)∧mS=l.length-k∧Fr aS 32 [] [(17,vI k),(16,vI l.length),(15,.slice A l.length c),(14,.bool false),(6,.bool false),(0,.slice A l.length c),(1,.slice D m.length c2),(2,.func (.func 46) #[] #[])]∧Mem w wS []) (m:=l.length-0) ⟨0,Nat.zero_le _,qdn,rfl,Z.sub kr,I.pk []⟩ ?_
 clear Z I;rintro mS a w_ ⟨k,hk,hu,rfl,Z,I⟩
 refine Jb Z I ((JP∘Jp 1∘Jj∘JQ) (Ju (fun hb18=>?_) fun hb18=>?_))
 ·
  intro a Z I
  have hd18:=of_decide_eq_true hb18
  have hk1:k<l.length:=by omega
  have hk2:k<m.length:=by omega
  revert I;revert a;repeat (first|clear Z|clear I)
  intro a Z I
  obtain ⟨gA,oA,rfl,_⟩:=hr.qm (Nat.lt_of_le_of_lt (Nat.zero_le _) (show k<l.length from hk1)) de
  revert I;revert a;repeat (first|clear Z|clear I)
  intro a Z I
  obtain ⟨gD,oD,rfl,_⟩:=hr2.qm (Nat.lt_of_le_of_lt (Nat.zero_le _) (show k<m.length from hk2)) de
  refine Jb Z I ((JT∘JS'∘JQ∘JB∘JP∘Jp 1∘Jy (h:=by exact Yl.ix gA oA k 1 rfl rfl rfl)∘Jy (h:=by exact Yl.o1 hr k Rw.zero hk1 rfl rfl)∘Jp 2∘Jr∘Jp 2∘Jy (h:=by exact Yl.ix gD oD k 1 rfl rfl rfl)∘Jy (h:=by exact Yl.o1 hr2 k Rw.zero hk2 rfl rfl)∘Jp 1∘Jd4∘Jr∘Jp 3) fun a Z I=>?_)
  refine fo Z 3 rfl rfl ?_
  refine qag Z (f:=46) (vs:=[.slice ((l.getD k Rw.zero).A) ((l.getD k Rw.zero).l.length) ((l.getD k Rw.zero).c),.slice ((m.getD k Rw.zero).A) ((m.getD k Rw.zero).l.length) ((m.getD k Rw.zero).c)]) (fst:=[]) (caps:=[]) rfl rfl rfl kr rfl de (qyd (l.getD k Rw.zero).A (l.getD k Rw.zero).c (l.getD k Rw.zero).l (m.getD k Rw.zero).A (m.getD k Rw.zero).c (m.getD k Rw.zero).l _ (I.old (hl _ (qd Rw.zero hk1))) (I.old (hm _ (qd Rw.zero hk2))) (hnl _ (qd Rw.zero hk1)) (hnm _ (qd Rw.zero hk2))) ?_
  rintro _ w29 ⟨rfl,hbw⟩
  refine ⟨_,rfl,?_⟩
  replace I:=I.call hbw
  clear Z;intro a Z
  refine Jb Z I ((Jp 1∘Jd4∘Jj) (Ji' (fun hd30=>?_) fun hd30=>?_))
  ·
   exact (JT∘JP∘Jp 1∘Jj∘JZ∘Jz1) fun I=>is_no (qti hk1 hk2 hd30) I.below
  refine (JF∘JS'∘JR∘JaK 1∘Jp 1∘Jd1∘Jq) fun a Z I=>?_
  exact ⟨_,om,k+1,by omega,qdo (f:=fun i=>(l.getD i Rw.zero).l) (g:=fun i=>(m.getD i Rw.zero).l) hu hd30,rfl,Z.sub kr,I.pk []⟩
 intro a Z I
 have hd18:=of_decide_eq_false hb18
 exact Jb Z I ((JF∘JX∘JG∘JP∘Jp 1∘Jj∘JZ∘Jz1) fun I=>qgq (qth hlm (fun i hi=>hu i om)) I.below)
theorem qhr (s z : Snm) (w : World) (hx : StRd w s.st) (hz : StRd w z.st) (hf : StFew s.st) (hg : StFew z.st) :
    Calls Tryz.prog 18 #[.agg s.cells,.agg z.cells] w (Is w (.bool (decide (SnEq s z)))):=by
 refine (JN2 Tryz.func18 71) ?_
 refine (JP∘JE) fun w2 g2=>(JE) fun w3 g3=>(Jp 1∘Jj) fun a Z I=>?_
 refine zb (fun aS wS=>∃(g5:Nat) (g6:Nat),Fr aS 71 [] [(6,vP g6 0),(5,vP g5 0),(4,.bool false),(3,vP g3 0),(2,vP g2 0)]∧Mem w wS [.blk g6 z.st.cells 38,.blk g5 s.st.cells 38,.blk g3 z.cells 40,.blk g2 s.cells 40]) ?_ ?_
 ·
  refine Jb Z I ((Vs .n [7]) fun wd1=>(Vf 0 1∘Vf 2 1∘Vy 1 (v:= .agg #[vI s.st.cpus,vQ s.st.credit,.slice s.st.gA s.st.gs.length s.st.gc,.slice s.st.lA s.st.cl.length s.st.lc,.slice s.st.uA s.st.cu.length s.st.uc,.slice s.st.tA s.st.ts.length s.st.tc,.slice s.st.sA s.st.rs.length s.st.sc]) (h:=by exact Yl.loadS rfl rfl si_st rfl (fun _ h=>h.sub (i:=1) rfl 1 rfl))∘Vo (.agg s.st.cells) (by exact rfl)∘Vy 3 (v:= .agg #[vI z.st.cpus,vQ z.st.credit,.slice z.st.gA z.st.gs.length z.st.gc,.slice z.st.lA z.st.cl.length z.st.lc,.slice z.st.uA z.st.cu.length z.st.uc,.slice z.st.tA z.st.ts.length z.st.tc,.slice z.st.sA z.st.rs.length z.st.sc]) (h:=by exact Yl.loadS rfl rfl si_st rfl (fun _ h=>h.sub (i:=0) rfl 1 rfl))∘Vo (.agg z.st.cells) (by exact rfl)) fun a Z I HS=>?_)
  refine qo [4,5] kr rfl ?_
  refine all_cons ?_ ?_
  ·refine qc Z (i:=4) rfl rfl ?_
   refine s_ea Z I #[vI 0,vQ 0,vN,vN,vN,vN,vN] ?_
   clear Z I;intro a w5 g5 Z I
   refine keepS (I.pk [1,2]) (fun HS=>?_)
   refine Vb Z I HS ((VA 5 (.f .n) #[vI 0,vQ 0,vN,vN,vN,vN,vN]) fun w6 g6=>fun a Z I HS=>?_)
   refine s_on Z 6 rfl (e_sa Z I 1 rfl rfl rfl rfl rfl si_st rfl rfl (qfb s.st) ?_)
   clear I;intro w1_6 I
   refine keepS (I.pk [2,3]) (fun HS=>?_)
   refine s_on Z 7 rfl (e_sa Z I 0 rfl rfl rfl rfl rfl si_st rfl rfl (qfb z.st) ?_)
   clear I;intro w1_7 I
   refine noS kr ?_
   refine qb kr ?_
   exact ⟨g5,g6,Z.sub kr,I.pk [0,1,2,3]⟩
  refine all_cons ?_ all_nil
  refine qc Z (i:=5) rfl rfl ?_
  refine s_ea Z I #[vI 0,vQ 0,vN,vN,vN,vN,vN] ?_
  clear Z I;intro a w6 g6 Z I
  refine keepS (I.pk [1,2]) (fun HS=>?_)
  refine Vb Z I HS ((VA 4 (.f .n) #[vI 0,vQ 0,vN,vN,vN,vN,vN]) fun w5 g5=>fun a Z I HS=>?_)
  refine s_on Z 6 rfl (e_sa Z I 0 rfl rfl rfl rfl rfl si_st rfl rfl (qfb s.st) ?_)
  clear I;intro w1_6 I
  refine keepS (I.pk [2,3]) (fun HS=>?_)
  refine s_on Z 7 rfl (e_sa Z I 1 rfl rfl rfl rfl rfl si_st rfl rfl (qfb z.st) ?_)
  clear I;intro w1_7 I
  refine noS kr ?_
  refine qb kr ?_
  exact ⟨g5,g6,Z.sub kr,I.pk [1,0,2,3]⟩
 clear Z I;rintro a w1 ⟨g5,g6,Z,I⟩
 refine Jb Z I ((JP∘Jg 0 O3∘Jg 0 O2∘Jp 2) (Je (fun hd16=>?_) fun hd16=>?_))
 ·
  refine (Jf 0∘Jg 0 O1∘Jf 0∘Jg 0 O0∘Jp 3) (Je (fun hd25=>?_) fun hd25=>?_)
  ·
   refine (Jf 0∘Jg 1 O1∘Jf 0∘Jg 1 O0∘Jp 3) (Je (fun hd34=>?_) fun hd34=>?_)
   ·
    refine (Jf 0∘Jg 2 O1∘Jf 0∘Jg 2 O0∘JL (h:=by exact fun I=>qyb s.st.gA s.st.gc s.st.gs z.st.gA z.st.gc z.st.gs _ (I.old hx.g) (I.old hz.g) hf.g hg.g)) ?_
    rintro I _ w41 ⟨rfl,hbw⟩
    refine ⟨_,rfl,_,I.call hbw,?_⟩
    refine (Jp 2) (Ju (fun hb43=>?_) fun hb43=>?_)
    ·
     intro a Z I
     have hd43:=of_decide_eq_true hb43
     refine Jb Z I ((Jg 3 O1∘Jg 3 O0∘JL (h:=by exact fun I=>ql5 s.st.lA s.st.lc s.st.cl z.st.lA z.st.lc z.st.cl _ (I.old hx.l) (I.old hz.l) hf.l hg.l)) ?_)
     rintro I _ w48 ⟨rfl,hbw⟩
     refine ⟨_,rfl,_,I.call hbw,?_⟩
     refine (Jp 2) (Ji (fun hd50=>?_) fun hd50=>?_)
     ·
      refine (Jg 4 O1∘Jg 4 O0∘JL (h:=by exact fun I=>ql5 s.st.uA s.st.uc s.st.cu z.st.uA z.st.uc z.st.cu _ (I.old hx.u) (I.old hz.u) hf.u hg.u)) ?_
      rintro I _ w55 ⟨rfl,hbw⟩
      refine ⟨_,rfl,_,I.call hbw,?_⟩
      refine (Jp 2) (Ji (fun hd57=>?_) fun hd57=>?_)
      ·
       refine (Jg 5 O1∘Jg 5 O0∘JL (h:=by exact fun I=>qyc s.st.tA s.st.tc s.st.ts z.st.tA z.st.tc z.st.ts _ (I.old hx.t) (I.old hz.t) hf.t hg.t)) ?_
       rintro I _ w62 ⟨rfl,hbw⟩
       refine ⟨_,rfl,_,I.call hbw,?_⟩
       refine (Jp 2) (Ji (fun hd64=>?_) fun hd64=>?_)
       ·
        exact (Jg 6 O1∘Jg 6 O0∘JI (h:=by exact fun I=>qrs s.st.sA s.st.sc s.st.rs z.st.sA z.st.sc z.st.rs _ (I.old hx.s) (I.old hz.s) (fun y hy=>I.old (hx.r y hy)) (fun y hy=>I.old (hz.r y hy)) hf.s hg.s hf.r hg.r)) fun w69 hbw=>(Jp 2∘Jd6∘Jj∘JZ∘Jz1) fun I=>by exact qfs (p:=SnEq s z) ⟨fun e=>⟨hd16,hd25,by omega,hd43,hd50,hd57,hd64,e⟩,fun h=>h.2.2.2.2.2.2.2⟩ I.below
       refine (Jp 7∘Jd6∘Jq) fun a Z I=>?_
       replace Z:=Z.to [(4,.bool false),(6,vP g6 0),(5,vP g5 0),(3,vP g3 0),(2,vP g2 0)]
       exact Jb Z I ((JG∘JZ∘Jz1) fun I=>by exact is_no (p:=SnEq s z) (fun ⟨e0,e1,e2,e3,e4,e5,e6,e7⟩=>hd64 (by rw [e6])) I.below)
      exact (Jv 14 [(4,.bool false)]∘Jd6∘Jj∘JZ∘Jz1) fun I=>by exact is_no (p:=SnEq s z) (fun ⟨e0,e1,e2,e3,e4,e5,e6,e7⟩=>hd57 (by rw [e5])) I.below
     exact (Jv 21 [(4,.bool false)]∘Jd6∘Jj∘JZ∘Jz1) fun I=>by exact is_no (p:=SnEq s z) (fun ⟨e0,e1,e2,e3,e4,e5,e6,e7⟩=>hd50 (by rw [e4])) I.below
    intro a Z I
    have hd43:=of_decide_eq_false hb43
    exact Jb Z I ((Jv 28 [(4,.bool false)]∘Jd6∘Jj∘JZ∘Jz1) fun I=>by exact is_no (p:=SnEq s z) (fun ⟨e0,e1,e2,e3,e4,e5,e6,e7⟩=>hd43 (by rw [e3])) I.below)
   exact (Jv 37 [(4,.bool false)]∘Jd6∘Jj∘JZ∘Jz1) fun I=>by exact is_no (p:=SnEq s z) (fun ⟨e0,e1,e2,e3,e4,e5,e6,e7⟩=>hd34 (by rw [e2])) I.below
  exact (Jv 46 [(4,.bool false)]∘Jd6∘Jj∘JZ∘Jz1) fun I=>by exact is_no (p:=SnEq s z) (fun ⟨e0,e1,e2,e3,e4,e5,e6,e7⟩=>hd25 (by rw [e1])) I.below
 exact (Jv 55 [(4,.bool false)]∘Jd4∘Jj∘JZ∘Jz1) fun I=>by exact is_no (p:=SnEq s z) (fun ⟨e0,e1,e2,e3,e4,e5,e6,e7⟩=>hd16 (by rw [e0])) I.below
theorem qd6 (A:Option Addr) (c:Nat) (l:List Int) (w:World) (hr:Rd w w.heap.size 1 A l.length (l.map I64i)) (hn:l.length≤1000000):
    Calls Tryz.prog 121 #[.slice A l.length c] w (qb7 w (l.map toU)):=by
 refine (JN1 Tryz.func121 19) ?_
 refine (JP∘Jp 1∘Jr∘Jp 1∘Jq) fun a Z I=>?_
 replace I:=I.nil 30 1
 refine Jb Z I ((JG∘JQ∘JP∘Jp 1∘Jl∘Jp 1∘Jj∘JB) fun a Z I=>?_)
 refine qj (fun mS aS wS=>∃(k:Nat) (q:List Nat) (Ao:Option Addr) (co:Nat),(k≤l.length)∧(q=(l.take k).map toU)∧(q.length=k)∧(q.length≤co)∧mS=l.length-k∧Fr aS 19 [] [(8,vI k),(7,vI l.length),(6,.slice A l.length c),(3,.slice Ao q.length co),(2,vN)]∧Mem w wS [.row (.slice Ao q.length co) q.length (q.map U64) 30 1]) (m:=l.length-0) ⟨0,[],none,0,Nat.zero_le _,rfl,rfl,Nat.le_refl _,rfl,Z.sub kr,I.pk [0]⟩ ?_
 clear Z I;rintro mS a w_ ⟨k,q,Ao,co,hk,hq,hql,hco,rfl,Z,I⟩
 refine Jb Z I ((JP∘Jp 1∘Jj∘JQ) (Ju (fun hb9=>?_) fun hb9=>?_))
 ·
  intro a Z I
  have hd9:=of_decide_eq_true hb9
  have hk9:k<l.length:=by omega
  refine Jb Z I ((JT∘JS'∘JQ∘JB∘JP) ?_)
  repeat (first|clear Z|clear I)
  intro a Z I
  obtain ⟨gA,oA,rfl,_⟩:=hr.qm (Nat.lt_of_le_of_lt (Nat.zero_le _) (show k<l.length from by omega)) de
  refine Jb Z I ((Jy (h:=by exact Yl.ix gA oA k 1 rfl rfl rfl)∘Jy (h:=by exact Yl.o1 hr k 0 hk9 rfl rfl)∘Jp 1∘Jd2∘Jj∘JR∘Jp 2∘Jv 1 [(14,vQ (IntKind.u64.wrap (l.getD k 0)))]∘Jo (vQ (toU (l.getD k 0))) (by exact qtb _)∘JU qat #[vQ (toU (l.getD k 0))]) fun w15 g15=>(JD ([toU (l.getD k 0)].map U64) 1 (fun _ _=>O1') qat (hr:=by exact fun I=>I.rdBlk (i:=0) (n:=1) (size:=1) rfl rfl) (h1:=by exact qb8 _)) fun w16 A16 c16 hc16=>(Jp 1∘Jd5∘Jq) fun a Z I=>?_)
  have hnA16:q.length+1=(q++[toU (l.getD k 0)]).length:=qax rfl
  replace I:=I.reRow (i:=1) (ys:=(q++[toU (l.getD k 0)]).map U64) rfl hnA16 (List.map_append.symm)
  rw [hnA16] at hc16
  replace Z:=Z.sp 3 (.slice A16 ((q++[toU (l.getD k 0)]).length) c16) rfl (by rw [hnA16])
  refine Jb Z I ((JG∘JR∘JaK 1∘Jp 1∘Jd1∘Jq) fun a Z I=>?_)
  exact ⟨_,om,k+1,(q++[toU (l.getD k 0)]),A16,c16,by omega,by rw [hq,qjh hk9],by rw [List.length_append,hql];rfl,hc16,rfl,Z.sub kr,I.pk [1]⟩
 intro a Z I
 have hd9:=of_decide_eq_false hb9
 exact Jb Z I ((JF∘JX∘JG∘JP∘Jp 2∘Jd1∘Jj∘JZ∘Jz1) fun I=>qai (by rw [hq,List.take_of_length_le om]) (I.own (i:=0) rfl) hco I.below)
theorem qco (A:Option Addr) (c n:Nat) (l:List Int) (R:List Nat) (w:World) (hl:l.length=n) (hr:Rd w w.heap.size 1 A n (l.map I64i)) (hn:n≤1000000) (hR:l.map toU=R):
  Calls Tryz.prog 121 #[.slice A n c] w (qb7 w R):=by
 subst hl;subst hR
 exact qd6 A c l w hr hn
theorem qvl (s:Snm) (hok:s.st.sta.Ok) (hf:StFew s.st) (w:World) (hx:StRd w s.st):
    Calls Tryz.prog 74 #[.agg s.cells] w (qb7 w (secN s 0)):=by
 refine (JN1 Tryz.func74 7) ?_
 refine (JP∘JE) fun w1 g1=>(Jp 1∘Jr∘Jg 0 O0∘JU ze #[vI s.next]) fun w5 g5=>(JK (h:=by exact fun I=>qco (some ⟨g5,0,none⟩) 1 1 [s.next] [toU s.next] _ rfl (I.rdBlk (i:=0) (n:=1) (size:=1) rfl rfl) de rfl)) fun A6 c6 w6 hc6=>fun a Z I=>?_
 have hrl6: [toU s.next].length=1:=rfl
 exact Jb Z I ((Jp 1∘Jd3∘Jj∘JZ∘Jz1) fun I=>qai rfl (I.own (i:=0) rfl) hc6 I.below)
theorem qnw (s:Snm) (hok:s.st.sta.Ok) (hf:StFew s.st) (w:World) (hx:StRd w s.st):
    Calls Tryz.prog 75 #[.agg s.cells] w (qb7 w (secN s 1)):=by
 have hgl:=hf.g
 refine (JN1 Tryz.func75 17) ?_
 refine (JP∘JE) fun w1 g1=>(Jp 1∘Jr∘Jf 1∘Jf 0∘Jy (v:= .agg #[vI s.st.cpus,vQ s.st.credit,.slice s.st.gA s.st.gs.length s.st.gc]) (h:=by exact Yl.loadS rfl rfl qab rfl (fun _ h=>h.sub (i:=0) rfl 1 rfl))∘JA #[vI 0,vQ 0,vN]) fun w3 g3=>(JV qab O0') fun w1_4=>(Jd3∘Jr∘Jg 0 O0∘Jv 1 [(9,vQ (IntKind.u64.wrap s.st.cpus))]∘Jo (vQ (toU s.st.cpus)) (by exact qtb _)∘Jg 1 O0∘Jg 2 O0∘Jl∘Jw .u64∘JU qat #[vQ (toU s.st.cpus),vQ s.st.credit,vQ s.st.gs.length]) fun w16 g16=>(Jp 1∘Jd6∘Jq) fun a Z I=>?_
 replace I:=(I.blkRow (i:=0) (n:=3) (size:=1) rfl rfl de).asRow (i:=0) (ys:=[toU s.st.cpus,s.st.credit,s.st.gs.length].map U64) rfl (rfl)
 exact Jb Z I ((JG∘JZ∘Jz1) fun I=>qai (q:=[toU s.st.cpus,s.st.credit,s.st.gs.length]) rfl (I.own (i:=0) rfl) (Nat.le_refl 3) I.below)
theorem qnx (s:Snm) (hok:s.st.sta.Ok) (hf:StFew s.st) (w:World) (hx:StRd w s.st):
    Calls Tryz.prog 77 #[.agg s.cells] w (qb7 w (secN s 3)):=by
 refine (JN1 Tryz.func77 7) ?_
 exact (JP∘JE) fun w1 g1=>(Jp 1∘Jr∘Jf 1∘Jg 3 O0∘JK (h:=by exact fun I=>qd6 s.st.lA s.st.lc s.st.cl _ (I.old hx.l) hf.l)) fun A6 c6 w6 hc6=>(Jp 1∘Jd3∘Jj∘JZ∘Jz1) fun I=>qai rfl (I.own (i:=0) rfl) hc6 I.below
theorem ql6 (s:Snm) (hok:s.st.sta.Ok) (hf:StFew s.st) (w:World) (hx:StRd w s.st):
    Calls Tryz.prog 78 #[.agg s.cells] w (qb7 w (secN s 4)):=by
 refine (JN1 Tryz.func78 7) ?_
 exact (JP∘JE) fun w1 g1=>(Jp 1∘Jr∘Jf 1∘Jg 4 O0∘JK (h:=by exact fun I=>qd6 s.st.uA s.st.uc s.st.cu _ (I.old hx.u) hf.u)) fun A6 c6 w6 hc6=>(Jp 1∘Jd3∘Jj∘JZ∘Jz1) fun I=>qai rfl (I.own (i:=0) rfl) hc6 I.below
theorem qny (s:Snm) (hok:s.st.sta.Ok) (hf:StFew s.st) (w:World) (hx:StRd w s.st) (hc:StCap s.st) (hsh:ShAt s.st):
    Calls Tryz.prog 76 #[.agg s.cells] w (qb7 w (secN s 2)):=by
 have hgl:=hf.g;have hgc:=hc.g
 have hg1:=(qq (zq hsh.cfg).2.2.2).1
 obtain ⟨gA2,hgA2⟩:∃z,(if s.st.gc=1 then s.st.gA else s.st.gA.map (·.add (1*2)))=z:=⟨_,rfl⟩
 have hr2:=q0b hx.g hg1 hgc hgA2
 obtain ⟨m,hm⟩:∃z,s.st.gs.drop 1=z:=⟨_,rfl⟩
 have hml:m.length=s.st.gs.length-1:=by rw [←hm,List.length_drop]
 rw [hm] at hr2
 refine (JN1 Tryz.func76 26) ?_
 refine (JP∘JE) fun w1 g1=>(Jp 1∘Jr∘Jp 1∘Jq) fun a Z I=>?_
 replace I:=I.nil 30 1
 refine Jb Z I ((JG∘JQ∘JP∘Jf 1∘Jf 0∘Jg 2 O1∘Jy (v:= .slice (if s.st.gc=1 then s.st.gA else (s.st.gA:Option Addr).map (·.add (1*2))) (s.st.gs.length-1) (s.st.gc-1)) (h:=by exact Yl.sliceFrom ei_gr (j:=1) rfl rfl rfl om)∘Jo (.slice gA2 m.length (s.st.gc-1)) (by rw [hgA2,hml])∘Jl∘Jp 1∘Jj∘JB) fun a Z I=>?_)
 refine qj (fun mS aS wS=>∃(k:Nat) (q:List Nat) (Ao:Option Addr) (co:Nat),(k≤m.length)∧(q=upF k (gsN s.st.gs))∧(q.length=2*k)∧(q.length≤co)∧mS=m.length-k∧Fr aS 26 [] [(12,vI k),(11,vI m.length),(10,.slice gA2 m.length (s.st.gc-1)),(3,.slice Ao q.length co),(2,vN)]∧Mem w wS [.row (.slice Ao q.length co) q.length (q.map U64) 30 1,.blk g1 s.cells 40]) (m:=m.length-0) ⟨0,[],none,0,Nat.zero_le _,rfl,rfl,Nat.le_refl _,rfl,Z.sub kr,I.pk [0,1]⟩ ?_
 clear Z I;rintro mS a w_ ⟨k,q,Ao,co,hk,hq,hql,hco,rfl,Z,I⟩
 refine Jb Z I ((JP∘Jp 1∘Jj∘JQ) (Ju (fun hb13=>?_) fun hb13=>?_))
 ·
  intro a Z I
  have hd13:=of_decide_eq_true hb13
  have hk13:k<m.length:=by omega
  refine Jb Z I ((JT∘JS'∘JQ∘JB∘JP) ?_)
  repeat (first|clear Z|clear I)
  intro a Z I
  obtain ⟨ggA2,ogA2,rfl,_⟩:=hr2.qm (Nat.lt_of_le_of_lt (Nat.zero_le _) (show k<m.length from by omega)) de
  refine Jb Z I ((Jy (h:=by exact Yl.ix ggA2 ogA2 k 2 rfl rfl rfl)∘Jy (v:= .agg ((m.getD k Gr.zero).cells)) (h:=by exact Yl.loadS rfl rfl si_gr rfl (fun _ h=>(h.old hr2).q7 zm ((getD_at Gr.zero hk13))))∘JA #[vI 0,vI 0]) fun w5 g5=>(JV si_gr O0' (h1:=by exact qyx (m.getD k Gr.zero))) fun w4_3=>(Jd2∘Jj∘JR∘Jp 1∘Jg 0 O0∘Jg 1 O0∘JU ze #[vI ((m.getD k Gr.zero).parent),vI ((m.getD k Gr.zero).weight)]) fun w21 g21=>(JK (h:=by exact fun I=>qco (some ⟨g21,0,none⟩) 2 2 [(m.getD k Gr.zero).parent,(m.getD k Gr.zero).weight] [toU (m.getD k Gr.zero).parent,toU (m.getD k Gr.zero).weight] _ rfl (I.rdBlk (i:=0) (n:=2) (size:=1) rfl rfl) de rfl)) fun A22 c22 w22 hc22=>fun a Z I=>?_)
  have hrl22: [toU (m.getD k Gr.zero).parent,toU (m.getD k Gr.zero).weight].length=2:=rfl
  refine Jb Z I ((JD ([toU (m.getD k Gr.zero).parent,toU (m.getD k Gr.zero).weight].map U64) 3 (fun _ _=>O3') qat (hr:=by exact fun I=>I.rd (i:=0) rfl) (h1:=by exact qb8 _)) fun w23 A23 c23 hc23=>(Jp 1∘Jd6∘Jq) fun a Z I=>?_)
  have hnA23:q.length+([toU (m.getD k Gr.zero).parent,toU (m.getD k Gr.zero).weight].length)=(q++[toU (m.getD k Gr.zero).parent,toU (m.getD k Gr.zero).weight]).length:=qax rfl
  replace I:=I.reRow (i:=3) (ys:=(q++[toU (m.getD k Gr.zero).parent,toU (m.getD k Gr.zero).weight]).map U64) rfl hnA23 (List.map_append.symm)
  rw [hnA23] at hc23
  replace Z:=Z.sp 3 (.slice A23 ((q++[toU (m.getD k Gr.zero).parent,toU (m.getD k Gr.zero).weight]).length) c23) rfl (by rw [hnA23])
  refine Jb Z I ((JG∘JR∘JaK 1∘Jp 1∘Jd1∘Jq) fun a Z I=>?_)
  exact ⟨_,om,k+1,(q++[toU (m.getD k Gr.zero).parent,toU (m.getD k Gr.zero).weight]),A23,c23,by omega,by rw [hq,qs,←hm,getD_drop];rfl,by rw [List.length_append,hql];rfl,hc23,rfl,Z.sub kr,I.pk [3,4]⟩
 intro a Z I
 have hd13:=of_decide_eq_false hb13
 exact Jb Z I ((JF∘JX∘JG∘JP∘Jp 2∘Jd1∘Jj∘JZ∘Jz1) fun I=>qai (by rw [hq,show k=s.st.gs.length-1 by omega];try rfl) (I.own (i:=0) rfl) hco I.below)
theorem qrt (s:Snm) (hok:s.st.sta.Ok) (hf:StFew s.st) (w:World) (hx:StRd w s.st) (hc:StCap s.st) (hsh:ShAt s.st):
    Calls Tryz.prog 79 #[.agg s.cells] w (qb7 w (secN s 5)):=by
 have htl:=hf.t
 refine (JN1 Tryz.func79 53) ?_
 refine (JP∘JE) fun w1 g1=>(Jp 1∘Jr∘Jf 1∘Jg 5 O0∘Jl∘JU ze #[vI s.st.ts.length]) fun w12 g12=>(JK (h:=by exact fun I=>qco (some ⟨g12,0,none⟩) 1 1 [(s.st.ts.length:Int)] [toU (s.st.ts.length:Int)] _ rfl (I.rdBlk (i:=0) (n:=1) (size:=1) rfl rfl) de rfl)) fun A13 c13 w13 hc13=>fun a Z I=>?_
 have hrl13: [toU (s.st.ts.length:Int)].length=1:=rfl
 refine Jb Z I ((Jp 1∘Jd5∘Jq) fun a Z I=>?_)
 have hnA13: [toU (s.st.ts.length:Int)].length=[s.st.ts.length].length:=rfl
 replace I:=I.reRow (i:=0) (ys:=[s.st.ts.length].map U64) rfl hnA13 (by rw [q0a om])
 rw [hnA13] at hc13
 replace Z:=Z.sp 3 (.slice A13 ([s.st.ts.length].length) c13) rfl (by rw [hnA13])
 refine Jb Z I ((JG∘JP∘Jp 1∘Jj∘JQ∘JP∘Jf 1∘Jg 5 O2∘Jl∘Jp 1∘Jj∘JB) fun a Z I=>?_)
 refine qj (fun mS aS wS=>∃(k:Nat) (q:List Nat) (Ao:Option Addr) (co:Nat),(k≤s.st.ts.length)∧(0≤ql s.st.ts k∧ql s.st.ts k≤65535)∧(q=[s.st.ts.length]++upF k fun i=>tkN (ql s.st.ts i) (s.st.ts.getD i Tk.zero))∧(q.length=8*k+1)∧(q.length≤co)∧mS=s.st.ts.length-k∧Fr aS 53 [] [(18,vI k),(17,vI s.st.ts.length),(16,.slice s.st.tA s.st.ts.length s.st.tc),(4,vI (ql s.st.ts k)),(3,.slice Ao q.length co),(2,vN),(1,vP g1 0)]∧Mem w wS [.row (.slice Ao q.length co) q.length (q.map U64) 30 1,.blk g12 #[vI s.st.ts.length] 3,.blk g1 s.cells 40]) (m:=s.st.ts.length-0) ⟨0,[s.st.ts.length],A13,c13,Nat.zero_le _,by rw [qm4];decide,by rw [qeo,List.append_nil],rfl,hc13,rfl,Z.sub kr,I.pk [0,1,2]⟩ ?_
 clear Z I;rintro mS a w_ ⟨k,q,Ao,co,hk,hp,hq,hql,hco,rfl,Z,I⟩
 refine Jb Z I ((JP∘Jp 1∘Jj∘JQ) (Ju (fun hb19=>?_) fun hb19=>?_))
 ·
  intro a Z I
  have hd19:=of_decide_eq_true hb19
  have hk19:k<s.st.ts.length:=by omega
  obtain ⟨t,ht⟩:∃z,(s.st.ts.getD k Tk.zero)=z:=⟨_,rfl⟩
  have htid:=tk_id (hsh.tk k hk19)
  rw [ht] at htid
  have hto:=hok.ts _ (qd Tk.zero hk19)
  replace hto:Tk.Ok t:=by rw [←ht];exact hto
  have htr:=hto.r
  refine Jb Z I ((JT∘JS'∘JQ∘JB∘JP) fun a Z I=>?_)
  obtain ⟨gq1,oq1,hq1,_⟩:=Rd.qm hx.t (Nat.lt_of_le_of_lt (Nat.zero_le _) (show k<s.st.ts.length from by omega)) de
  have hrq1:=hx.t;rw [hq1] at hrq1
  replace Z:=Z.sp 16 (.slice (some ⟨gq1,oq1,none⟩) s.st.ts.length s.st.tc) rfl (by rw [hq1];try rfl)
  refine Jb Z I ((Jy (h:=by exact Yl.ix gq1 oq1 k 8 rfl rfl rfl)∘Jy (v:= .agg ((s.st.ts.getD k Tk.zero).cells)) (h:=by exact Yl.loadS rfl rfl si_tk rfl (fun _ h=>(h.old hrq1).q7 qf ((getD_at Tk.zero hk19))))∘Jo (.agg t.cells) (by rw [ht])∘JA #[vI 0,vI 0,vI 0,vI 0,vQ 0,.bool false,vQ 0,vW 0]) fun w6 g6=>(JV si_tk O0' (h1:=by exact qid t)) fun w5_3=>(Jd2∘Jr∘Jp 1∘Jj∘JQ∘JP∘Jg 5 O0∘Jj) (Ju (fun hb23=>?_) fun hb23=>?_))
  ·
   refine (JT∘JR∘Jp 1∘Jr∘Jp 1∘Jg 0 O0∘Jp 2∘Jo (vI (t.id-ql s.st.ts k)) (by exact qcg ⟨by omega,by omega⟩)∘Jg 1 O0∘Jg 2 O0∘Jg 3 O0∘JU ze #[vI (t.id-ql s.st.ts k),vI t.group,vI t.weight,vI t.cpu]) fun w35 g35=>(JK (h:=by exact fun I=>qco (some ⟨g35,0,none⟩) 4 4 [t.id-ql s.st.ts k,t.group,t.weight,t.cpu] [toU (t.id-ql s.st.ts k),toU t.group,toU t.weight,toU t.cpu] _ rfl (I.rdBlk (i:=0) (n:=4) (size:=1) rfl rfl) de rfl)) fun A36 c36 w36 hc36=>fun a Z I=>?_
   have hrl36: [toU (t.id-ql s.st.ts k),toU t.group,toU t.weight,toU t.cpu].length=4:=rfl
   refine Jb Z I ((JD ([toU (t.id-ql s.st.ts k),toU t.group,toU t.weight,toU t.cpu].map U64) 3 (fun _ _=>O3') qat (hr:=by exact fun I=>I.rd (i:=0) rfl) (h1:=by exact qb8 _)) fun w37 A37 c37 hc37=>(Jp 1∘Jd6∘Jq) fun a Z I=>?_)
   have hnA37:q.length+([toU (t.id-ql s.st.ts k),toU t.group,toU t.weight,toU t.cpu].length)=(q++[toU (t.id-ql s.st.ts k),toU t.group,toU t.weight,toU t.cpu]).length:=qax rfl
   replace I:=I.reRow (i:=3) (ys:=(q++[toU (t.id-ql s.st.ts k),toU t.group,toU t.weight,toU t.cpu]).map U64) rfl hnA37 (List.map_append.symm)
   rw [hnA37] at hc37
   replace Z:=Z.sp 3 (.slice A37 ((q++[toU (t.id-ql s.st.ts k),toU t.group,toU t.weight,toU t.cpu]).length) c37) rfl (by rw [hnA37])
   refine Jb Z I ((JG∘JP∘Jp 1∘Jg 4 O2∘Jp 1∘Jg 6 O2∘Jg 7 O2∘Jw .u64∘JU qat #[vQ t.mask,vQ 1,vQ t.v,vQ t.r]) fun w47 g47=>(JD ([t.mask,1,t.v,t.r].map U64) 4 (fun _ _=>O4') qat (hr:=by exact fun I=>I.rdBlk (i:=0) (n:=4) (size:=1) rfl rfl) (h1:=by exact qb8 _)) fun w48 A48 c48 hc48=>(Jp 1∘Jd6∘Jq) fun a Z I=>?_)
   have hnA48:((q++[toU (t.id-ql s.st.ts k),toU t.group,toU t.weight,toU t.cpu]).length)+4=((q++[toU (t.id-ql s.st.ts k),toU t.group,toU t.weight,toU t.cpu])++[t.mask,1,t.v,t.r]).length:=qax rfl
   replace I:=I.reRow (i:=4) (ys:=((q++[toU (t.id-ql s.st.ts k),toU t.group,toU t.weight,toU t.cpu])++[t.mask,1,t.v,t.r]).map U64) rfl hnA48 (List.map_append.symm)
   rw [hnA48] at hc48
   replace Z:=Z.sp 3 (.slice A48 (((q++[toU (t.id-ql s.st.ts k),toU t.group,toU t.weight,toU t.cpu])++[t.mask,1,t.v,t.r]).length) c48) rfl (by rw [hnA48])
   refine Jb Z I ((JG∘JR∘Jf 0∘Jc O3∘Jo (vI (ql s.st.ts (k+1))) (by rw [qcw,ht])∘Jp 1∘Jd2∘Jj∘JR∘JaK 1∘Jp 1∘Jd1∘Jq) fun a Z I=>?_)
   replace Z:=Z.sp 16 (.slice s.st.tA s.st.ts.length s.st.tc) rfl (by rw [hq1])
   exact ⟨_,om,k+1,(q++[toU (t.id-ql s.st.ts k),toU t.group,toU t.weight,toU t.cpu]++[t.mask,1,t.v,t.r]),A48,c48,by omega,by rw [qcw,ht];omega,by rw [hq,qs,ht,tkN_t hb23,List.append_assoc,List.append_assoc],by (simp only [List.length_append,List.length_cons,List.length_nil];omega),hc48,rfl,Z.sub kr,I.pk [4,5,6]⟩
  refine (JF∘JS'∘JP∘Jp 1∘Jg 0 O0∘Jp 2∘Jo (vI (t.id-ql s.st.ts k)) (by exact qcg ⟨by omega,by omega⟩)∘Jg 1 O0∘Jg 2 O0∘Jg 3 O0∘JU ze #[vI (t.id-ql s.st.ts k),vI t.group,vI t.weight,vI t.cpu]) fun w35 g35=>(JK (h:=by exact fun I=>qco (some ⟨g35,0,none⟩) 4 4 [t.id-ql s.st.ts k,t.group,t.weight,t.cpu] [toU (t.id-ql s.st.ts k),toU t.group,toU t.weight,toU t.cpu] _ rfl (I.rdBlk (i:=0) (n:=4) (size:=1) rfl rfl) de rfl)) fun A36 c36 w36 hc36=>fun a Z I=>?_
  have hrl36: [toU (t.id-ql s.st.ts k),toU t.group,toU t.weight,toU t.cpu].length=4:=rfl
  refine Jb Z I ((JD ([toU (t.id-ql s.st.ts k),toU t.group,toU t.weight,toU t.cpu].map U64) 3 (fun _ _=>O3') qat (hr:=by exact fun I=>I.rd (i:=0) rfl) (h1:=by exact qb8 _)) fun w37 A37 c37 hc37=>(Jp 1∘Jd6∘Jq) fun a Z I=>?_)
  have hnA37:q.length+([toU (t.id-ql s.st.ts k),toU t.group,toU t.weight,toU t.cpu].length)=(q++[toU (t.id-ql s.st.ts k),toU t.group,toU t.weight,toU t.cpu]).length:=qax rfl
  replace I:=I.reRow (i:=3) (ys:=(q++[toU (t.id-ql s.st.ts k),toU t.group,toU t.weight,toU t.cpu]).map U64) rfl hnA37 (List.map_append.symm)
  rw [hnA37] at hc37
  replace Z:=Z.sp 3 (.slice A37 ((q++[toU (t.id-ql s.st.ts k),toU t.group,toU t.weight,toU t.cpu]).length) c37) rfl (by rw [hnA37])
  refine Jb Z I ((JG∘JP∘Jp 1∘Jg 4 O2∘Jp 1∘Jg 6 O2∘Jg 7 O2∘Jw .u64∘JU qat #[vQ t.mask,vQ 0,vQ t.v,vQ t.r]) fun w47 g47=>(JD ([t.mask,0,t.v,t.r].map U64) 4 (fun _ _=>O4') qat (hr:=by exact fun I=>I.rdBlk (i:=0) (n:=4) (size:=1) rfl rfl) (h1:=by exact qb8 _)) fun w48 A48 c48 hc48=>(Jp 1∘Jd6∘Jq) fun a Z I=>?_)
  have hnA48:((q++[toU (t.id-ql s.st.ts k),toU t.group,toU t.weight,toU t.cpu]).length)+4=((q++[toU (t.id-ql s.st.ts k),toU t.group,toU t.weight,toU t.cpu])++[t.mask,0,t.v,t.r]).length:=qax rfl
  replace I:=I.reRow (i:=4) (ys:=((q++[toU (t.id-ql s.st.ts k),toU t.group,toU t.weight,toU t.cpu])++[t.mask,0,t.v,t.r]).map U64) rfl hnA48 (List.map_append.symm)
  rw [hnA48] at hc48
  replace Z:=Z.sp 3 (.slice A48 (((q++[toU (t.id-ql s.st.ts k),toU t.group,toU t.weight,toU t.cpu])++[t.mask,0,t.v,t.r]).length) c48) rfl (by rw [hnA48])
  refine Jb Z I ((JG∘JR∘Jf 0∘Jc O3∘Jo (vI (ql s.st.ts (k+1))) (by rw [qcw,ht])∘Jp 1∘Jd2∘Jj∘JR∘JaK 1∘Jp 1∘Jd1∘Jq) fun a Z I=>?_)
  replace Z:=Z.sp 16 (.slice s.st.tA s.st.ts.length s.st.tc) rfl (by rw [hq1])
  exact ⟨_,om,k+1,(q++[toU (t.id-ql s.st.ts k),toU t.group,toU t.weight,toU t.cpu]++[t.mask,0,t.v,t.r]),A48,c48,by omega,by rw [qcw,ht];omega,by rw [hq,qs,ht,tkN_f hb23,List.append_assoc,List.append_assoc],by (simp only [List.length_append,List.length_cons,List.length_nil];omega),hc48,rfl,Z.sub kr,I.pk [4,5,6]⟩
 intro a Z I
 have hd19:=of_decide_eq_false hb19
 exact Jb Z I ((JF∘JX∘JG∘JP∘Jp 2∘Jd1∘Jj∘JZ∘Jz1) fun I=>qai (by rw [hq,show k=s.st.ts.length by omega];try rfl) (I.own (i:=0) rfl) hco I.below)
theorem qru (s:Snm) (hok:s.st.sta.Ok) (hf:StFew s.st) (w:World) (hx:StRd w s.st) (hc:StCap s.st) (hsh:ShAt s.st):
    Calls Tryz.prog 80 #[.agg s.cells] w (qb7 w (secN s 6)):=by
 have hrl:=hf.s
 obtain ⟨hc1,hc2,_,_⟩:=zq hsh.cfg
 refine (JN1 Tryz.func80 41) ?_
 refine (JP∘JE) fun w1 g1=>(Jp 1∘Jr∘Jp 1∘Jq) fun a Z I=>?_
 replace I:=I.nil 30 1
 refine Jb Z I ((JG∘JQ∘JP∘Jf 1∘Jg 6 O1∘Jl∘Jp 1∘Jj∘JB) fun a Z I=>?_)
 refine qj (fun mS aS wS=>∃(g:Nat) (q:List Nat) (Ao:Option Addr) (co:Nat),(g≤s.st.rs.length)∧(q=upF g fun i=>rwN i (s.st.rs.getD i Rw.zero).l)∧(q.length≤192*g)∧(q.length≤co)∧mS=s.st.rs.length-g∧Fr aS 41 [] [(12,vI g),(11,vI s.st.rs.length),(10,.slice s.st.sA s.st.rs.length s.st.sc),(3,.slice Ao q.length co),(2,vN)]∧Mem w wS [.row (.slice Ao q.length co) q.length (q.map U64) 30 1,.blk g1 s.cells 40]) (m:=s.st.rs.length-0) ⟨0,[],none,0,Nat.zero_le _,rfl,Nat.le_refl _,Nat.le_refl _,rfl,Z.sub kr,I.pk [0,1]⟩ ?_
 clear Z I;rintro mS a w_ ⟨g,q,Ao,co,hg,hq,hql,hco,rfl,Z,I⟩
 refine Jb Z I ((JP∘Jp 1∘Jj∘JQ) (Ju (fun hb13=>?_) fun hb13=>?_))
 ·
  intro a Z I
  have hd13:=of_decide_eq_true hb13
  have hg13:g<s.st.rs.length:=by omega
  obtain ⟨y,hy⟩:∃z,s.st.rs.getD g Rw.zero=z:=⟨_,rfl⟩
  have hyr:Rd w w.heap.size 3 y.A y.l.length (y.l.flatMap spL):=by rw [←hy];exact hx.row hg13
  have hyl:(y.l.length:Int)=s.st.cpus:=by rw [←hy];exact (qgs hg13 (hsh.row g hg13)).1
  have hyo:∀z∈y.l,z.Ok:=by rw [←hy,←rs_at hg13];exact hok.sp _ (qd [] (by rw [zh];exact hg13))
  refine Jb Z I ((JT∘JS'∘JQ∘JB∘JP∘Jp 1) fun a Z I=>?_)
  obtain ⟨gq1,oq1,hq1,_⟩:=Rd.qm hx.s (Nat.lt_of_le_of_lt (Nat.zero_le _) (show g<s.st.rs.length from by omega)) de
  have hrq1:=hx.s;rw [hq1] at hrq1
  replace Z:=Z.sp 10 (.slice (some ⟨gq1,oq1,none⟩) s.st.rs.length s.st.sc) rfl (by rw [hq1];try rfl)
  refine Jb Z I ((Jy (h:=by exact Yl.ix gq1 oq1 g 1 rfl rfl rfl)∘Jy (v:= .slice ((s.st.rs.getD g Rw.zero).A) ((s.st.rs.getD g Rw.zero).l.length) ((s.st.rs.getD g Rw.zero).c)) (h:=by exact Yl.o1 hrq1 g Rw.zero hg13 rfl rfl)∘Jo (.slice y.A y.l.length y.c) (by rw [hy])∘Jp 2∘Jr∘Jp 1∘Jl∘Jp 1∘Jj∘JB) fun a Z I=>?_)
  refine qj (fun mS aS wS=>∃(c:Nat) (q:List Nat) (Ao:Option Addr) (co:Nat),(c≤y.l.length)∧(q=(upF g fun i=>rwN i (s.st.rs.getD i Rw.zero).l)++upF c fun i=>spN g (y.l.getD i Sp.zero))∧(q.length≤192*g+3*c)∧(q.length≤co)∧mS=y.l.length-c∧Fr aS 41 [] [(19,vI c),(18,vI y.l.length),(17,.slice y.A y.l.length y.c),(5,.slice y.A y.l.length y.c),(4,vI g),(10,.slice (some ⟨gq1,oq1,none⟩) s.st.rs.length s.st.sc),(13,.bool true),(12,vI g),(11,vI s.st.rs.length),(3,.slice Ao q.length co),(2,vN)]∧Mem w wS [.row (.slice Ao q.length co) q.length (q.map U64) 30 1,.blk g1 s.cells 40]) (m:=y.l.length-0) ⟨0,q,Ao,co,Nat.zero_le _,by rw [hq,qeo,List.append_nil],by omega,hco,rfl,Z.sub kr,I.pk [0,1]⟩ ?_
  clear Z I;rintro mS a w_ ⟨c,q,Ao,co,hc,hq,hql,hco,rfl,Z,I⟩
  refine Jb Z I ((JP∘Jp 1∘Jj∘JQ) (Ju (fun hb20=>?_) fun hb20=>?_))
  ·
   intro a Z I
   have hd20:=of_decide_eq_true hb20
   have hc20:c<y.l.length:=by omega
   obtain ⟨z,hz⟩:∃q,(y.l.getD c Sp.zero)=q:=⟨_,rfl⟩
   have hzo:=hyo _ (qd Sp.zero hc20)
   rw [hz] at hzo
   have hzr:=hzo.r
   refine Jb Z I ((JT∘JS'∘JQ∘JB∘JP) fun a Z I=>?_)
   obtain ⟨gq2,oq2,hq2,_⟩:=Rd.qm hyr (Nat.lt_of_le_of_lt (Nat.zero_le _) (show c<y.l.length from by omega)) de
   have hrq2:=hyr;rw [hq2] at hrq2
   replace Z:=Z.sp 17 (.slice (some ⟨gq2,oq2,none⟩) y.l.length y.c) rfl (by rw [hq2];try rfl)
   refine Jb Z I ((Jy (h:=by exact Yl.ix gq2 oq2 c 3 rfl rfl rfl)∘Jy (v:= .agg ((y.l.getD c Sp.zero).cells)) (h:=by exact Yl.loadS rfl rfl si_sp rfl (fun _ h=>(h.old hrq2).q7 qcu ((getD_at Sp.zero hc20))))∘Jo (.agg z.cells) (by rw [hz])∘JA #[vQ 0,vW 0,vQ 0]) fun w7 g7=>(JV si_sp O0' (h1:=by exact qyy z)) fun w7_3=>(Jd2∘Jj∘JQ∘JP∘Jp 2∘Jd1∘Jj) (Ji (fun hd24=>?_) fun hd24=>?_))
   ·
    refine (JT∘JR∘Jp 1∘Jg 0 O0∘Jg 1 O0∘Jw .u64∘JU qat #[vQ z.v,vQ z.r]) fun w31 g31=>(JD ([z.v,z.r].map U64) 2 (fun _ _=>O2') qat (hr:=by exact fun I=>I.rdBlk (i:=0) (n:=2) (size:=1) rfl rfl) (h1:=by exact qb8 _)) fun w32 A32 c32 hc32=>(Jp 1∘Jd6∘Jq) fun a Z I=>?_
    have hnA32:q.length+2=(q++[z.v,z.r]).length:=qax rfl
    replace I:=I.reRow (i:=2) (ys:=(q++[z.v,z.r]).map U64) rfl hnA32 (List.map_append.symm)
    rw [hnA32] at hc32
    replace Z:=Z.sp 3 (.slice A32 ((q++[z.v,z.r]).length) c32) rfl (by rw [hnA32])
    refine Jb Z I ((JG∘JR∘Jp 1∘Jg 2 O1∘JU qat #[vQ z.floor]) fun w36 g36=>(JD ([z.floor].map U64) 3 (fun _ _=>O3') qat (hr:=by exact fun I=>I.rdBlk (i:=0) (n:=1) (size:=1) rfl rfl) (h1:=by exact qb8 _)) fun w37 A37 c37 hc37=>(Jp 1∘Jd4∘Jq) fun a Z I=>?_)
    have hnA37:((q++[z.v,z.r]).length)+1=((q++[z.v,z.r])++[z.floor]).length:=qax rfl
    replace I:=I.reRow (i:=3) (ys:=((q++[z.v,z.r])++[z.floor]).map U64) rfl hnA37 (List.map_append.symm)
    rw [hnA37] at hc37
    replace Z:=Z.sp 3 (.slice A37 (((q++[z.v,z.r])++[z.floor]).length) c37) rfl (by rw [hnA37])
    refine Jb Z I ((JG∘JR∘JaK 1∘Jp 1∘Jd1∘Jq) fun a Z I=>?_)
    replace Z:=Z.sp 17 (.slice y.A y.l.length y.c) rfl (by rw [hq2])
    exact ⟨_,om,c+1,((q++[z.v,z.r])++[z.floor]),A37,c37,by omega,by rw [hq,qs,hz,qgx om];simp only [List.append_assoc],by (simp only [List.length_append,List.length_cons,List.length_nil];omega),hc37,rfl,Z.sub kr,I.pk [3,4]⟩
   refine (JF∘JS'∘JR∘Jp 1∘Jg 2 O0∘JU qat #[vQ z.floor]) fun w36 g36=>(JD ([z.floor].map U64) 2 (fun _ _=>O2') qat (hr:=by exact fun I=>I.rdBlk (i:=0) (n:=1) (size:=1) rfl rfl) (h1:=by exact qb8 _)) fun w37 A37 c37 hc37=>(Jp 1∘Jd4∘Jq) fun a Z I=>?_
   have hnA37:q.length+1=(q++[z.floor]).length:=qax rfl
   replace I:=I.reRow (i:=2) (ys:=(q++[z.floor]).map U64) rfl hnA37 (List.map_append.symm)
   rw [hnA37] at hc37
   replace Z:=Z.sp 3 (.slice A37 ((q++[z.floor]).length) c37) rfl (by rw [hnA37])
   refine Jb Z I ((JG∘JR∘JaK 1∘Jp 1∘Jd1∘Jq) fun a Z I=>?_)
   replace Z:=Z.sp 17 (.slice y.A y.l.length y.c) rfl (by rw [hq2])
   exact ⟨_,om,c+1,(q++[z.floor]),A37,c37,by omega,by rw [hq,qs,hz,qf4 om,List.append_assoc],by (simp only [List.length_append,List.length_cons,List.length_nil];omega),hc37,rfl,Z.sub kr,I.pk [2,3]⟩
  intro a Z I
  have hd20:=of_decide_eq_false hb20
  refine Jb Z I ((JF∘JX∘JG∘JR∘JaK 1∘Jp 1∘Jd1∘Jq) fun a Z I=>?_)
  replace Z:=Z.sp 10 (.slice s.st.sA s.st.rs.length s.st.sc) rfl (by rw [hq1])
  exact ⟨_,om,g+1,q,Ao,co,by omega,by rw [hq,show c=y.l.length by omega,qs,hy];rfl,by omega,hco,rfl,Z.sub kr,I.pk [0,1]⟩
 intro a Z I
 have hd13:=of_decide_eq_false hb13
 exact Jb Z I ((JF∘JX∘JG∘JP∘Jp 2∘Jd1∘Jj∘JZ∘Jz1) fun I=>qai (by rw [hq,show g=s.st.rs.length by omega];try rfl) (I.own (i:=0) rfl) hco I.below)
theorem qas:SI Tryz.prog 146 2:=⟨by kernel_rfl,by kernel_rfl⟩
theorem q1o:EI Tryz.prog 147 146 (.agg #[.string (ByteArray.mk #[]),.nilFunc]) 2 24:=⟨by kernel_rfl,by kernel_rfl,rfl,by omega⟩
def qv (s:Snm):Array Value:= #[.string (ByteArray.mk #[110,101,120,116]),.func (.func 74) #[.agg s.cells] #[],.string (ByteArray.mk #[99,111,110,102,105,103]),.func (.func 75) #[.agg s.cells] #[],.string (ByteArray.mk #[103,114,111,117,112,115]),.func (.func 76) #[.agg s.cells] #[],.string (ByteArray.mk #[99,108,111,99,107,115]),.func (.func 77) #[.agg s.cells] #[],.string (ByteArray.mk #[99,117,114,114,101,110,116]),.func (.func 78) #[.agg s.cells] #[],.string (ByteArray.mk #[116,97,115,107,115]),.func (.func 79) #[.agg s.cells] #[],.string (ByteArray.mk #[115,112,111,116,115]),.func (.func 80) #[.agg s.cells] #[]]
def qkf (P:Program) (W:World) (lp:Nat) (s:Snm) (Inv:Nat→List Fact→Prop):Prop:=
 ∀(i:Nat) (F fr:List Fact) (w:World) (A:Option Addr) (c:Nat),Inv i F→i<7→(secN s i).length≤c→Mem W w (.row (.slice A (secN s i).length c) (secN s i).length ((secN s i).map U64) 30 1::(F++fr))→YieldAt Fence.wide 0 P lp #[.string (qb6 i),.slice A (secN s i).length c] w (qsw W fr (Inv (i+1)))
theorem ql9 (s:Snm) (w:World):
    Calls Tryz.prog 40 #[.agg s.cells] w fun r w'=>∃gv gp,r= .returned (.func (.func 81) #[] #[vP gv 0])∧Mem w w' [.blk gv #[.slice (some ⟨gp,0,none⟩) 7 7] 147,.blk gp (qv s) 146]:=by
 refine (JN1 Tryz.func40 27) ?_
 refine (JP∘JE) fun w1 g1=>(Jp 1∘Jr∘Jy (v:= .agg s.cells) (h:=by exact Yl.loadS rfl rfl qu rfl (fun _ h=>qa (h.blk (i:=0) rfl)))∘Jy (h:=by exact Yl.makeFunc (fst:=[.agg s.cells]) (caps:=[]) rfl rfl rfl)∘Jy (v:= .agg #[.string (ByteArray.mk #[110,101,120,116]),.func (.func 74) #[.agg s.cells] #[]]) (h:=by exact Yl.build (vs:=[(0,.string (ByteArray.mk #[110,101,120,116])),(1,.func (.func 74) #[.agg s.cells] #[])]) rfl kr kr)∘Jy (v:= .agg s.cells) (h:=by exact Yl.loadS rfl rfl qu rfl (fun _ h=>qa (h.blk (i:=0) rfl)))∘Jy (h:=by exact Yl.makeFunc (fst:=[.agg s.cells]) (caps:=[]) rfl rfl rfl)∘Jy (v:= .agg #[.string (ByteArray.mk #[99,111,110,102,105,103]),.func (.func 75) #[.agg s.cells] #[]]) (h:=by exact Yl.build (vs:=[(0,.string (ByteArray.mk #[99,111,110,102,105,103])),(1,.func (.func 75) #[.agg s.cells] #[])]) rfl kr kr)∘Jy (v:= .agg s.cells) (h:=by exact Yl.loadS rfl rfl qu rfl (fun _ h=>qa (h.blk (i:=0) rfl)))∘Jy (h:=by exact Yl.makeFunc (fst:=[.agg s.cells]) (caps:=[]) rfl rfl rfl)∘Jy (v:= .agg #[.string (ByteArray.mk #[103,114,111,117,112,115]),.func (.func 76) #[.agg s.cells] #[]]) (h:=by exact Yl.build (vs:=[(0,.string (ByteArray.mk #[103,114,111,117,112,115])),(1,.func (.func 76) #[.agg s.cells] #[])]) rfl kr kr)∘Jy (v:= .agg s.cells) (h:=by exact Yl.loadS rfl rfl qu rfl (fun _ h=>qa (h.blk (i:=0) rfl)))∘Jy (h:=by exact Yl.makeFunc (fst:=[.agg s.cells]) (caps:=[]) rfl rfl rfl)∘Jy (v:= .agg #[.string (ByteArray.mk #[99,108,111,99,107,115]),.func (.func 77) #[.agg s.cells] #[]]) (h:=by exact Yl.build (vs:=[(0,.string (ByteArray.mk #[99,108,111,99,107,115])),(1,.func (.func 77) #[.agg s.cells] #[])]) rfl kr kr)∘Jy (v:= .agg s.cells) (h:=by exact Yl.loadS rfl rfl qu rfl (fun _ h=>qa (h.blk (i:=0) rfl)))∘Jy (h:=by exact Yl.makeFunc (fst:=[.agg s.cells]) (caps:=[]) rfl rfl rfl)∘Jy (v:= .agg #[.string (ByteArray.mk #[99,117,114,114,101,110,116]),.func (.func 78) #[.agg s.cells] #[]]) (h:=by exact Yl.build (vs:=[(0,.string (ByteArray.mk #[99,117,114,114,101,110,116])),(1,.func (.func 78) #[.agg s.cells] #[])]) rfl kr kr)∘Jy (v:= .agg s.cells) (h:=by exact Yl.loadS rfl rfl qu rfl (fun _ h=>qa (h.blk (i:=0) rfl)))∘Jy (h:=by exact Yl.makeFunc (fst:=[.agg s.cells]) (caps:=[]) rfl rfl rfl)∘Jy (v:= .agg #[.string (ByteArray.mk #[116,97,115,107,115]),.func (.func 79) #[.agg s.cells] #[]]) (h:=by exact Yl.build (vs:=[(0,.string (ByteArray.mk #[116,97,115,107,115])),(1,.func (.func 79) #[.agg s.cells] #[])]) rfl kr kr)∘Jy (v:= .agg s.cells) (h:=by exact Yl.loadS rfl rfl qu rfl (fun _ h=>qa (h.blk (i:=0) rfl)))∘Jy (h:=by exact Yl.makeFunc (fst:=[.agg s.cells]) (caps:=[]) rfl rfl rfl)∘Jy (v:= .agg #[.string (ByteArray.mk #[115,112,111,116,115]),.func (.func 80) #[.agg s.cells] #[]]) (h:=by exact Yl.build (vs:=[(0,.string (ByteArray.mk #[115,112,111,116,115])),(1,.func (.func 80) #[.agg s.cells] #[])]) rfl kr kr)) fun a Z I=>?_
 refine fo Z 21 rfl rfl (s_el Z I q1o [(0,.agg #[.string (ByteArray.mk #[110,101,120,116]),.func (.func 74) #[.agg s.cells] #[]]),(1,.agg #[.string (ByteArray.mk #[99,111,110,102,105,103]),.func (.func 75) #[.agg s.cells] #[]]),(2,.agg #[.string (ByteArray.mk #[103,114,111,117,112,115]),.func (.func 76) #[.agg s.cells] #[]]),(3,.agg #[.string (ByteArray.mk #[99,108,111,99,107,115]),.func (.func 77) #[.agg s.cells] #[]]),(4,.agg #[.string (ByteArray.mk #[99,117,114,114,101,110,116]),.func (.func 78) #[.agg s.cells] #[]]),(5,.agg #[.string (ByteArray.mk #[116,97,115,107,115]),.func (.func 79) #[.agg s.cells] #[]]),(6,.agg #[.string (ByteArray.mk #[115,112,111,116,115]),.func (.func 80) #[.agg s.cells] #[]])] (qv s) ?_)
 clear Z I;intro a w25 g25 Z I
 exact Jb Z I ((JA #[vN]) fun w3 g3=>(JW O0' O0') fun w1_23=>(Jd6∘Jr∘Jy (h:=by exact Yl.makeFunc (fst:=[]) (caps:=[vP g3 0]) rfl rfl rfl)∘Jp 1∘Jd1∘Jj∘JZ∘Jz1) fun I=>by exact ⟨_,_,rfl,I.pk [0,1]⟩)
theorem qi1 (W w:World) (gv gp lp:Nat) (s:Snm) (hok:s.st.sta.Ok) (hf:StFew s.st) (hx:StRd W s.st) (hc:StCap s.st) (hsh:ShAt s.st) (Inv:Nat→List Fact→Prop) (F0:List Fact) (hy:qkf Tryz.prog W lp s Inv) (hI0:Inv 0 F0) (I:Mem W w (.blk gv #[.slice (some ⟨gp,0,none⟩) 7 7] 147:: .blk gp (qv s) 146::F0)):
    Calls Tryz.prog 81 (.func (.yield lp) #[] #[]:: [vP gv 0]).toArray w (qsx W (Inv 7)):=by
 refine s_ce Tryz.func81 [.func (.yield lp) #[] #[],vP gv 0] [(0,.func (.yield lp) #[] #[]),(1,vP gv 0)] fun a Z=>?_
 refine Jb Z I ((JP∘Jc O0∘Jl∘Jp 1∘Jj∘JB) fun a Z I=>?_)
 refine qj (fun mS aS wS=>∃(k:Nat) (F:List Fact),(k≤7)∧(Inv k F)∧mS=7-k∧Fr aS 20 [] [(7,vI k),(6,vI 7),(5,vS gp 7 7),(0,.func (.yield lp) #[] #[])]∧Mem W wS (.blk gv #[vS gp 7 7] 147:: .blk gp (qv s) 146::F)) (m:=7-0) ⟨0,F0,by decide,hI0,rfl,Z.sub kr,I.pt 2 [0,1]⟩ ?_
 clear Z I;rintro mS a w_ ⟨k,F,hk,hI,rfl,Z,I⟩
 refine Jb Z I ((JP∘Jp 1∘Jj∘JQ) (Ju (fun hb8=>?_) fun hb8=>?_))
 ·
  intro a Z I
  have hd8:=of_decide_eq_true hb8
  revert I;revert a;repeat (first|clear Z|clear I)
  intro a Z I
  obtain rfl|rfl|rfl|rfl|rfl|rfl|rfl:k=0∨k=1∨k=2∨k=3∨k=4∨k=5∨k=6:=by omega
  ·
   replace Z:=Z.sp 7 (vI 0) rfl rfl
   refine Jb Z I ((JT∘JS'∘JQ∘JB∘JP∘Jy (v:=vP gp 0) (h:=by exact Yl.indexAddr (ad:=⟨gp,0,none⟩) (y:=0) (sz:=2) rfl rfl rfl de kr)∘Jy (v:= .agg #[.string (ByteArray.mk #[110,101,120,116]),.func (.func 74) #[.agg s.cells] #[]]) (h:=by exact Yl.loadS rfl rfl qas rfl (fun _ h=>h.sub (i:=1) rfl 0 rfl))∘JA #[.string (ByteArray.mk #[]),.nilFunc]) fun w4 g4=>(JV qas O0') fun w2_3=>(Jd2∘Jj) fun a Z I=>?_)
   refine wp_seq ?_
   refine qcy 6 I (.blk g4 #[.string (ByteArray.mk #[110,101,120,116]),.func (.func 74) #[.agg s.cells] #[]] 146:: .blk gv #[vS gp 7 7] 147:: .blk gp (qv s) 146::F) 3 [0,1,2] [] fun I HS=>?_
   refine ap Z (fun _=>HS) [0,1,3] (bf 6 [0,1,3]) [(14,vP g4 1),(12,vP g4 0),(11,.func (.yield lp) #[] #[])] fun a Z=>?_
   refine s_ac Z HS 2 0 fun a Z=>?_
   refine s_ac Z HS 4 0 fun a Z=>?_
   refine s_on Z 5 rfl ?_
   refine qag Z (f:=74) (vs:=[]) (fst:=[.agg s.cells]) (caps:=[]) rfl rfl rfl kr rfl de (qvl s hok hf _ (hx.old I)) ?_
   rintro _ w16 ⟨⟨A16,c16,rfl,ho,hc16⟩,hbw⟩
   refine ⟨_,rfl,?_⟩
   replace I:=I.callRow hbw ho
   clear Z;intro a Z
   refine keepS (I.pt 4 [1,2,3]) (fun HS=>?_)
   refine qb kr ?_
   replace I:=I.pt (fs':=(.row (.slice A16 ((secN s 0).length) c16) ((secN s 0).length) ((secN s 0).map U64) 30 1:: .blk g4 #[.string (ByteArray.mk #[110,101,120,116]),.func (.func 74) #[.agg s.cells] #[]] 146:: .blk gv #[vS gp 7 7] 147:: .blk gp (qv s) 146::F)) 4 [0,1,2,3]
   refine qbx Z (i:=6) (vs:=[.string (ByteArray.mk #[110,101,120,116]),.slice A16 ((secN s 0).length) c16]) rfl rfl rfl rfl rfl rfl de (hy 0 F [.blk g4 #[.string (ByteArray.mk #[110,101,120,116]),.func (.func 74) #[.agg s.cells] #[]] 146,.blk gv #[vS gp 7 7] 147,.blk gp (qv s) 146] _ A16 c16 hI om hc16 (Mem.qd8 (es:=[.blk g4 #[.string (ByteArray.mk #[110,101,120,116]),.func (.func 74) #[.agg s.cells] #[]] 146,.blk gv #[vS gp 7 7] 147,.blk gp (qv s) 146]) I)) q3 ?_
   clear Z I;rintro v w20 a ⟨F2,I,hv,hI2⟩ Z;injection hv with hv;subst hv
   replace I:Mem W w20 (.blk g4 #[.string (ByteArray.mk #[110,101,120,116]),.func (.func 74) #[.agg s.cells] #[]] 146:: .blk gv #[vS gp 7 7] 147:: .blk gp (qv s) 146::F2):=Mem.qcz (es:=[.blk g4 #[.string (ByteArray.mk #[110,101,120,116]),.func (.func 74) #[.agg s.cells] #[]] 146,.blk gv #[vS gp 7 7] 147,.blk gp (qv s) 146]) I
   replace Z:=Z.to [(17,.bool true),(7,vI 0),(6,vI 7),(5,vS gp 7 7),(0,.func (.yield lp) #[] #[])]
   refine Jb Z I ((Jp 1∘Jd1∘Jq∘JF∘JS'∘JR∘Jv 2 [(7,vI 1)]∘Jq) fun a Z I=>?_)
   exact ⟨_,om,1,F2,by omega,hI2,rfl,Z.sub kr,I.pt 3 [1,2]⟩
  ·
   replace Z:=Z.sp 7 (vI 1) rfl rfl
   refine Jb Z I ((JT∘JS'∘JQ∘JB∘JP∘Jy (v:=vP gp 2) (h:=by exact Yl.indexAddr (ad:=⟨gp,0,none⟩) (y:=1) (sz:=2) rfl rfl rfl de kr)∘Jy (v:= .agg #[.string (ByteArray.mk #[99,111,110,102,105,103]),.func (.func 75) #[.agg s.cells] #[]]) (h:=by exact Yl.loadS rfl rfl qas rfl (fun _ h=>h.sub (i:=1) rfl 2 rfl))∘JA #[.string (ByteArray.mk #[]),.nilFunc]) fun w4 g4=>(JV qas O0') fun w2_3=>(Jd2∘Jj) fun a Z I=>?_)
   refine wp_seq ?_
   refine qcy 6 I (.blk g4 #[.string (ByteArray.mk #[99,111,110,102,105,103]),.func (.func 75) #[.agg s.cells] #[]] 146:: .blk gv #[vS gp 7 7] 147:: .blk gp (qv s) 146::F) 3 [0,1,2] [] fun I HS=>?_
   refine ap Z (fun _=>HS) [0,1,3] (bf 6 [0,1,3]) [(14,vP g4 1),(12,vP g4 0),(11,.func (.yield lp) #[] #[])] fun a Z=>?_
   refine s_ac Z HS 2 0 fun a Z=>?_
   refine s_ac Z HS 4 0 fun a Z=>?_
   refine s_on Z 5 rfl ?_
   refine qag Z (f:=75) (vs:=[]) (fst:=[.agg s.cells]) (caps:=[]) rfl rfl rfl kr rfl de (qnw s hok hf _ (hx.old I)) ?_
   rintro _ w16 ⟨⟨A16,c16,rfl,ho,hc16⟩,hbw⟩
   refine ⟨_,rfl,?_⟩
   replace I:=I.callRow hbw ho
   clear Z;intro a Z
   refine keepS (I.pt 4 [1,2,3]) (fun HS=>?_)
   refine qb kr ?_
   replace I:=I.pt (fs':=(.row (.slice A16 ((secN s 1).length) c16) ((secN s 1).length) ((secN s 1).map U64) 30 1:: .blk g4 #[.string (ByteArray.mk #[99,111,110,102,105,103]),.func (.func 75) #[.agg s.cells] #[]] 146:: .blk gv #[vS gp 7 7] 147:: .blk gp (qv s) 146::F)) 4 [0,1,2,3]
   refine qbx Z (i:=6) (vs:=[.string (ByteArray.mk #[99,111,110,102,105,103]),.slice A16 ((secN s 1).length) c16]) rfl rfl rfl rfl rfl rfl de (hy 1 F [.blk g4 #[.string (ByteArray.mk #[99,111,110,102,105,103]),.func (.func 75) #[.agg s.cells] #[]] 146,.blk gv #[vS gp 7 7] 147,.blk gp (qv s) 146] _ A16 c16 hI om hc16 (Mem.qd8 (es:=[.blk g4 #[.string (ByteArray.mk #[99,111,110,102,105,103]),.func (.func 75) #[.agg s.cells] #[]] 146,.blk gv #[vS gp 7 7] 147,.blk gp (qv s) 146]) I)) q3 ?_
   clear Z I;rintro v w20 a ⟨F2,I,hv,hI2⟩ Z;injection hv with hv;subst hv
   replace I:Mem W w20 (.blk g4 #[.string (ByteArray.mk #[99,111,110,102,105,103]),.func (.func 75) #[.agg s.cells] #[]] 146:: .blk gv #[vS gp 7 7] 147:: .blk gp (qv s) 146::F2):=Mem.qcz (es:=[.blk g4 #[.string (ByteArray.mk #[99,111,110,102,105,103]),.func (.func 75) #[.agg s.cells] #[]] 146,.blk gv #[vS gp 7 7] 147,.blk gp (qv s) 146]) I
   replace Z:=Z.to [(17,.bool true),(7,vI 1),(6,vI 7),(5,vS gp 7 7),(0,.func (.yield lp) #[] #[])]
   refine Jb Z I ((Jp 1∘Jd1∘Jq∘JF∘JS'∘JR∘Jv 2 [(7,vI 2)]∘Jq) fun a Z I=>?_)
   exact ⟨_,om,2,F2,by omega,hI2,rfl,Z.sub kr,I.pt 3 [1,2]⟩
  ·
   replace Z:=Z.sp 7 (vI 2) rfl rfl
   refine Jb Z I ((JT∘JS'∘JQ∘JB∘JP∘Jy (v:=vP gp 4) (h:=by exact Yl.indexAddr (ad:=⟨gp,0,none⟩) (y:=2) (sz:=2) rfl rfl rfl de kr)∘Jy (v:= .agg #[.string (ByteArray.mk #[103,114,111,117,112,115]),.func (.func 76) #[.agg s.cells] #[]]) (h:=by exact Yl.loadS rfl rfl qas rfl (fun _ h=>h.sub (i:=1) rfl 4 rfl))∘JA #[.string (ByteArray.mk #[]),.nilFunc]) fun w4 g4=>(JV qas O0') fun w2_3=>(Jd2∘Jj) fun a Z I=>?_)
   refine wp_seq ?_
   refine qcy 6 I (.blk g4 #[.string (ByteArray.mk #[103,114,111,117,112,115]),.func (.func 76) #[.agg s.cells] #[]] 146:: .blk gv #[vS gp 7 7] 147:: .blk gp (qv s) 146::F) 3 [0,1,2] [] fun I HS=>?_
   refine ap Z (fun _=>HS) [0,1,3] (bf 6 [0,1,3]) [(14,vP g4 1),(12,vP g4 0),(11,.func (.yield lp) #[] #[])] fun a Z=>?_
   refine s_ac Z HS 2 0 fun a Z=>?_
   refine s_ac Z HS 4 0 fun a Z=>?_
   refine s_on Z 5 rfl ?_
   refine qag Z (f:=76) (vs:=[]) (fst:=[.agg s.cells]) (caps:=[]) rfl rfl rfl kr rfl de (qny s hok hf _ (hx.old I) hc hsh) ?_
   rintro _ w16 ⟨⟨A16,c16,rfl,ho,hc16⟩,hbw⟩
   refine ⟨_,rfl,?_⟩
   replace I:=I.callRow hbw ho
   clear Z;intro a Z
   refine keepS (I.pt 4 [1,2,3]) (fun HS=>?_)
   refine qb kr ?_
   replace I:=I.pt (fs':=(.row (.slice A16 ((secN s 2).length) c16) ((secN s 2).length) ((secN s 2).map U64) 30 1:: .blk g4 #[.string (ByteArray.mk #[103,114,111,117,112,115]),.func (.func 76) #[.agg s.cells] #[]] 146:: .blk gv #[vS gp 7 7] 147:: .blk gp (qv s) 146::F)) 4 [0,1,2,3]
   refine qbx Z (i:=6) (vs:=[.string (ByteArray.mk #[103,114,111,117,112,115]),.slice A16 ((secN s 2).length) c16]) rfl rfl rfl rfl rfl rfl de (hy 2 F [.blk g4 #[.string (ByteArray.mk #[103,114,111,117,112,115]),.func (.func 76) #[.agg s.cells] #[]] 146,.blk gv #[vS gp 7 7] 147,.blk gp (qv s) 146] _ A16 c16 hI om hc16 (Mem.qd8 (es:=[.blk g4 #[.string (ByteArray.mk #[103,114,111,117,112,115]),.func (.func 76) #[.agg s.cells] #[]] 146,.blk gv #[vS gp 7 7] 147,.blk gp (qv s) 146]) I)) q3 ?_
   clear Z I;rintro v w20 a ⟨F2,I,hv,hI2⟩ Z;injection hv with hv;subst hv
   replace I:Mem W w20 (.blk g4 #[.string (ByteArray.mk #[103,114,111,117,112,115]),.func (.func 76) #[.agg s.cells] #[]] 146:: .blk gv #[vS gp 7 7] 147:: .blk gp (qv s) 146::F2):=Mem.qcz (es:=[.blk g4 #[.string (ByteArray.mk #[103,114,111,117,112,115]),.func (.func 76) #[.agg s.cells] #[]] 146,.blk gv #[vS gp 7 7] 147,.blk gp (qv s) 146]) I
   replace Z:=Z.to [(17,.bool true),(7,vI 2),(6,vI 7),(5,vS gp 7 7),(0,.func (.yield lp) #[] #[])]
   refine Jb Z I ((Jp 1∘Jd1∘Jq∘JF∘JS'∘JR∘Jv 2 [(7,vI 3)]∘Jq) fun a Z I=>?_)
   exact ⟨_,om,3,F2,by omega,hI2,rfl,Z.sub kr,I.pt 3 [1,2]⟩
  ·
   replace Z:=Z.sp 7 (vI 3) rfl rfl
   refine Jb Z I ((JT∘JS'∘JQ∘JB∘JP∘Jy (v:=vP gp 6) (h:=by exact Yl.indexAddr (ad:=⟨gp,0,none⟩) (y:=3) (sz:=2) rfl rfl rfl de kr)∘Jy (v:= .agg #[.string (ByteArray.mk #[99,108,111,99,107,115]),.func (.func 77) #[.agg s.cells] #[]]) (h:=by exact Yl.loadS rfl rfl qas rfl (fun _ h=>h.sub (i:=1) rfl 6 rfl))∘JA #[.string (ByteArray.mk #[]),.nilFunc]) fun w4 g4=>(JV qas O0') fun w2_3=>(Jd2∘Jj) fun a Z I=>?_)
   refine wp_seq ?_
   refine qcy 6 I (.blk g4 #[.string (ByteArray.mk #[99,108,111,99,107,115]),.func (.func 77) #[.agg s.cells] #[]] 146:: .blk gv #[vS gp 7 7] 147:: .blk gp (qv s) 146::F) 3 [0,1,2] [] fun I HS=>?_
   refine ap Z (fun _=>HS) [0,1,3] (bf 6 [0,1,3]) [(14,vP g4 1),(12,vP g4 0),(11,.func (.yield lp) #[] #[])] fun a Z=>?_
   refine s_ac Z HS 2 0 fun a Z=>?_
   refine s_ac Z HS 4 0 fun a Z=>?_
   refine s_on Z 5 rfl ?_
   refine qag Z (f:=77) (vs:=[]) (fst:=[.agg s.cells]) (caps:=[]) rfl rfl rfl kr rfl de (qnx s hok hf _ (hx.old I)) ?_
   rintro _ w16 ⟨⟨A16,c16,rfl,ho,hc16⟩,hbw⟩
   refine ⟨_,rfl,?_⟩
   replace I:=I.callRow hbw ho
   clear Z;intro a Z
   refine keepS (I.pt 4 [1,2,3]) (fun HS=>?_)
   refine qb kr ?_
   replace I:=I.pt (fs':=(.row (.slice A16 ((secN s 3).length) c16) ((secN s 3).length) ((secN s 3).map U64) 30 1:: .blk g4 #[.string (ByteArray.mk #[99,108,111,99,107,115]),.func (.func 77) #[.agg s.cells] #[]] 146:: .blk gv #[vS gp 7 7] 147:: .blk gp (qv s) 146::F)) 4 [0,1,2,3]
   refine qbx Z (i:=6) (vs:=[.string (ByteArray.mk #[99,108,111,99,107,115]),.slice A16 ((secN s 3).length) c16]) rfl rfl rfl rfl rfl rfl de (hy 3 F [.blk g4 #[.string (ByteArray.mk #[99,108,111,99,107,115]),.func (.func 77) #[.agg s.cells] #[]] 146,.blk gv #[vS gp 7 7] 147,.blk gp (qv s) 146] _ A16 c16 hI om hc16 (Mem.qd8 (es:=[.blk g4 #[.string (ByteArray.mk #[99,108,111,99,107,115]),.func (.func 77) #[.agg s.cells] #[]] 146,.blk gv #[vS gp 7 7] 147,.blk gp (qv s) 146]) I)) q3 ?_
   clear Z I;rintro v w20 a ⟨F2,I,hv,hI2⟩ Z;injection hv with hv;subst hv
   replace I:Mem W w20 (.blk g4 #[.string (ByteArray.mk #[99,108,111,99,107,115]),.func (.func 77) #[.agg s.cells] #[]] 146:: .blk gv #[vS gp 7 7] 147:: .blk gp (qv s) 146::F2):=Mem.qcz (es:=[.blk g4 #[.string (ByteArray.mk #[99,108,111,99,107,115]),.func (.func 77) #[.agg s.cells] #[]] 146,.blk gv #[vS gp 7 7] 147,.blk gp (qv s) 146]) I
   replace Z:=Z.to [(17,.bool true),(7,vI 3),(6,vI 7),(5,vS gp 7 7),(0,.func (.yield lp) #[] #[])]
   refine Jb Z I ((Jp 1∘Jd1∘Jq∘JF∘JS'∘JR∘Jv 2 [(7,vI 4)]∘Jq) fun a Z I=>?_)
   exact ⟨_,om,4,F2,by omega,hI2,rfl,Z.sub kr,I.pt 3 [1,2]⟩
  ·
   replace Z:=Z.sp 7 (vI 4) rfl rfl
   refine Jb Z I ((JT∘JS'∘JQ∘JB∘JP∘Jy (v:=vP gp 8) (h:=by exact Yl.indexAddr (ad:=⟨gp,0,none⟩) (y:=4) (sz:=2) rfl rfl rfl de kr)∘Jy (v:= .agg #[.string (ByteArray.mk #[99,117,114,114,101,110,116]),.func (.func 78) #[.agg s.cells] #[]]) (h:=by exact Yl.loadS rfl rfl qas rfl (fun _ h=>h.sub (i:=1) rfl 8 rfl))∘JA #[.string (ByteArray.mk #[]),.nilFunc]) fun w4 g4=>(JV qas O0') fun w2_3=>(Jd2∘Jj) fun a Z I=>?_)
   refine wp_seq ?_
   refine qcy 6 I (.blk g4 #[.string (ByteArray.mk #[99,117,114,114,101,110,116]),.func (.func 78) #[.agg s.cells] #[]] 146:: .blk gv #[vS gp 7 7] 147:: .blk gp (qv s) 146::F) 3 [0,1,2] [] fun I HS=>?_
   refine ap Z (fun _=>HS) [0,1,3] (bf 6 [0,1,3]) [(14,vP g4 1),(12,vP g4 0),(11,.func (.yield lp) #[] #[])] fun a Z=>?_
   refine s_ac Z HS 2 0 fun a Z=>?_
   refine s_ac Z HS 4 0 fun a Z=>?_
   refine s_on Z 5 rfl ?_
   refine qag Z (f:=78) (vs:=[]) (fst:=[.agg s.cells]) (caps:=[]) rfl rfl rfl kr rfl de (ql6 s hok hf _ (hx.old I)) ?_
   rintro _ w16 ⟨⟨A16,c16,rfl,ho,hc16⟩,hbw⟩
   refine ⟨_,rfl,?_⟩
   replace I:=I.callRow hbw ho
   clear Z;intro a Z
   refine keepS (I.pt 4 [1,2,3]) (fun HS=>?_)
   refine qb kr ?_
   replace I:=I.pt (fs':=(.row (.slice A16 ((secN s 4).length) c16) ((secN s 4).length) ((secN s 4).map U64) 30 1:: .blk g4 #[.string (ByteArray.mk #[99,117,114,114,101,110,116]),.func (.func 78) #[.agg s.cells] #[]] 146:: .blk gv #[vS gp 7 7] 147:: .blk gp (qv s) 146::F)) 4 [0,1,2,3]
   refine qbx Z (i:=6) (vs:=[.string (ByteArray.mk #[99,117,114,114,101,110,116]),.slice A16 ((secN s 4).length) c16]) rfl rfl rfl rfl rfl rfl de (hy 4 F [.blk g4 #[.string (ByteArray.mk #[99,117,114,114,101,110,116]),.func (.func 78) #[.agg s.cells] #[]] 146,.blk gv #[vS gp 7 7] 147,.blk gp (qv s) 146] _ A16 c16 hI om hc16 (Mem.qd8 (es:=[.blk g4 #[.string (ByteArray.mk #[99,117,114,114,101,110,116]),.func (.func 78) #[.agg s.cells] #[]] 146,.blk gv #[vS gp 7 7] 147,.blk gp (qv s) 146]) I)) q3 ?_
   clear Z I;rintro v w20 a ⟨F2,I,hv,hI2⟩ Z;injection hv with hv;subst hv
   replace I:Mem W w20 (.blk g4 #[.string (ByteArray.mk #[99,117,114,114,101,110,116]),.func (.func 78) #[.agg s.cells] #[]] 146:: .blk gv #[vS gp 7 7] 147:: .blk gp (qv s) 146::F2):=Mem.qcz (es:=[.blk g4 #[.string (ByteArray.mk #[99,117,114,114,101,110,116]),.func (.func 78) #[.agg s.cells] #[]] 146,.blk gv #[vS gp 7 7] 147,.blk gp (qv s) 146]) I
   replace Z:=Z.to [(17,.bool true),(7,vI 4),(6,vI 7),(5,vS gp 7 7),(0,.func (.yield lp) #[] #[])]
   refine Jb Z I ((Jp 1∘Jd1∘Jq∘JF∘JS'∘JR∘Jv 2 [(7,vI 5)]∘Jq) fun a Z I=>?_)
   exact ⟨_,om,5,F2,by omega,hI2,rfl,Z.sub kr,I.pt 3 [1,2]⟩
  ·
   replace Z:=Z.sp 7 (vI 5) rfl rfl
   refine Jb Z I ((JT∘JS'∘JQ∘JB∘JP∘Jy (v:=vP gp 10) (h:=by exact Yl.indexAddr (ad:=⟨gp,0,none⟩) (y:=5) (sz:=2) rfl rfl rfl de kr)∘Jy (v:= .agg #[.string (ByteArray.mk #[116,97,115,107,115]),.func (.func 79) #[.agg s.cells] #[]]) (h:=by exact Yl.loadS rfl rfl qas rfl (fun _ h=>h.sub (i:=1) rfl 10 rfl))∘JA #[.string (ByteArray.mk #[]),.nilFunc]) fun w4 g4=>(JV qas O0') fun w2_3=>(Jd2∘Jj) fun a Z I=>?_)
   refine wp_seq ?_
   refine qcy 6 I (.blk g4 #[.string (ByteArray.mk #[116,97,115,107,115]),.func (.func 79) #[.agg s.cells] #[]] 146:: .blk gv #[vS gp 7 7] 147:: .blk gp (qv s) 146::F) 3 [0,1,2] [] fun I HS=>?_
   refine ap Z (fun _=>HS) [0,1,3] (bf 6 [0,1,3]) [(14,vP g4 1),(12,vP g4 0),(11,.func (.yield lp) #[] #[])] fun a Z=>?_
   refine s_ac Z HS 2 0 fun a Z=>?_
   refine s_ac Z HS 4 0 fun a Z=>?_
   refine s_on Z 5 rfl ?_
   refine qag Z (f:=79) (vs:=[]) (fst:=[.agg s.cells]) (caps:=[]) rfl rfl rfl kr rfl de (qrt s hok hf _ (hx.old I) hc hsh) ?_
   rintro _ w16 ⟨⟨A16,c16,rfl,ho,hc16⟩,hbw⟩
   refine ⟨_,rfl,?_⟩
   replace I:=I.callRow hbw ho
   clear Z;intro a Z
   refine keepS (I.pt 4 [1,2,3]) (fun HS=>?_)
   refine qb kr ?_
   replace I:=I.pt (fs':=(.row (.slice A16 ((secN s 5).length) c16) ((secN s 5).length) ((secN s 5).map U64) 30 1:: .blk g4 #[.string (ByteArray.mk #[116,97,115,107,115]),.func (.func 79) #[.agg s.cells] #[]] 146:: .blk gv #[vS gp 7 7] 147:: .blk gp (qv s) 146::F)) 4 [0,1,2,3]
   refine qbx Z (i:=6) (vs:=[.string (ByteArray.mk #[116,97,115,107,115]),.slice A16 ((secN s 5).length) c16]) rfl rfl rfl rfl rfl rfl de (hy 5 F [.blk g4 #[.string (ByteArray.mk #[116,97,115,107,115]),.func (.func 79) #[.agg s.cells] #[]] 146,.blk gv #[vS gp 7 7] 147,.blk gp (qv s) 146] _ A16 c16 hI om hc16 (Mem.qd8 (es:=[.blk g4 #[.string (ByteArray.mk #[116,97,115,107,115]),.func (.func 79) #[.agg s.cells] #[]] 146,.blk gv #[vS gp 7 7] 147,.blk gp (qv s) 146]) I)) q3 ?_
   clear Z I;rintro v w20 a ⟨F2,I,hv,hI2⟩ Z;injection hv with hv;subst hv
   replace I:Mem W w20 (.blk g4 #[.string (ByteArray.mk #[116,97,115,107,115]),.func (.func 79) #[.agg s.cells] #[]] 146:: .blk gv #[vS gp 7 7] 147:: .blk gp (qv s) 146::F2):=Mem.qcz (es:=[.blk g4 #[.string (ByteArray.mk #[116,97,115,107,115]),.func (.func 79) #[.agg s.cells] #[]] 146,.blk gv #[vS gp 7 7] 147,.blk gp (qv s) 146]) I
   replace Z:=Z.to [(17,.bool true),(7,vI 5),(6,vI 7),(5,vS gp 7 7),(0,.func (.yield lp) #[] #[])]
   refine Jb Z I ((Jp 1∘Jd1∘Jq∘JF∘JS'∘JR∘Jv 2 [(7,vI 6)]∘Jq) fun a Z I=>?_)
   exact ⟨_,om,6,F2,by omega,hI2,rfl,Z.sub kr,I.pt 3 [1,2]⟩
  ·
   replace Z:=Z.sp 7 (vI 6) rfl rfl
   refine Jb Z I ((JT∘JS'∘JQ∘JB∘JP∘Jy (v:=vP gp 12) (h:=by exact Yl.indexAddr (ad:=⟨gp,0,none⟩) (y:=6) (sz:=2) rfl rfl rfl de kr)∘Jy (v:= .agg #[.string (ByteArray.mk #[115,112,111,116,115]),.func (.func 80) #[.agg s.cells] #[]]) (h:=by exact Yl.loadS rfl rfl qas rfl (fun _ h=>h.sub (i:=1) rfl 12 rfl))∘JA #[.string (ByteArray.mk #[]),.nilFunc]) fun w4 g4=>(JV qas O0') fun w2_3=>(Jd2∘Jj) fun a Z I=>?_)
   refine wp_seq ?_
   refine qcy 6 I (.blk g4 #[.string (ByteArray.mk #[115,112,111,116,115]),.func (.func 80) #[.agg s.cells] #[]] 146:: .blk gv #[vS gp 7 7] 147:: .blk gp (qv s) 146::F) 3 [0,1,2] [] fun I HS=>?_
   refine ap Z (fun _=>HS) [0,1,3] (bf 6 [0,1,3]) [(14,vP g4 1),(12,vP g4 0),(11,.func (.yield lp) #[] #[])] fun a Z=>?_
   refine s_ac Z HS 2 0 fun a Z=>?_
   refine s_ac Z HS 4 0 fun a Z=>?_
   refine s_on Z 5 rfl ?_
   refine qag Z (f:=80) (vs:=[]) (fst:=[.agg s.cells]) (caps:=[]) rfl rfl rfl kr rfl de (qru s hok hf _ (hx.old I) hc hsh) ?_
   rintro _ w16 ⟨⟨A16,c16,rfl,ho,hc16⟩,hbw⟩
   refine ⟨_,rfl,?_⟩
   replace I:=I.callRow hbw ho
   clear Z;intro a Z
   refine keepS (I.pt 4 [1,2,3]) (fun HS=>?_)
   refine qb kr ?_
   replace I:=I.pt (fs':=(.row (.slice A16 ((secN s 6).length) c16) ((secN s 6).length) ((secN s 6).map U64) 30 1:: .blk g4 #[.string (ByteArray.mk #[115,112,111,116,115]),.func (.func 80) #[.agg s.cells] #[]] 146:: .blk gv #[vS gp 7 7] 147:: .blk gp (qv s) 146::F)) 4 [0,1,2,3]
   refine qbx Z (i:=6) (vs:=[.string (ByteArray.mk #[115,112,111,116,115]),.slice A16 ((secN s 6).length) c16]) rfl rfl rfl rfl rfl rfl de (hy 6 F [.blk g4 #[.string (ByteArray.mk #[115,112,111,116,115]),.func (.func 80) #[.agg s.cells] #[]] 146,.blk gv #[vS gp 7 7] 147,.blk gp (qv s) 146] _ A16 c16 hI om hc16 (Mem.qd8 (es:=[.blk g4 #[.string (ByteArray.mk #[115,112,111,116,115]),.func (.func 80) #[.agg s.cells] #[]] 146,.blk gv #[vS gp 7 7] 147,.blk gp (qv s) 146]) I)) q3 ?_
   clear Z I;rintro v w20 a ⟨F2,I,hv,hI2⟩ Z;injection hv with hv;subst hv
   replace I:Mem W w20 (.blk g4 #[.string (ByteArray.mk #[115,112,111,116,115]),.func (.func 80) #[.agg s.cells] #[]] 146:: .blk gv #[vS gp 7 7] 147:: .blk gp (qv s) 146::F2):=Mem.qcz (es:=[.blk g4 #[.string (ByteArray.mk #[115,112,111,116,115]),.func (.func 80) #[.agg s.cells] #[]] 146,.blk gv #[vS gp 7 7] 147,.blk gp (qv s) 146]) I
   replace Z:=Z.to [(17,.bool true),(7,vI 6),(6,vI 7),(5,vS gp 7 7),(0,.func (.yield lp) #[] #[])]
   refine Jb Z I ((Jp 1∘Jd1∘Jq∘JF∘JS'∘JR∘Jv 2 [(7,vI 7)]∘Jq) fun a Z I=>?_)
   exact ⟨_,om,7,F2,by omega,hI2,rfl,Z.sub kr,I.pt 3 [1,2]⟩
 intro a Z I
 have hd8:=of_decide_eq_false hb8
 refine Jb Z I ((JF∘JX) ?_)
 repeat (first|clear Z|clear I)
 intro a Z I
 obtain rfl:k=7:=by omega
 exact norm0 rfl Z ⟨_,rfl,F,Mem.qpw [.blk gv #[vS gp 7 7] 147,.blk gp (qv s) 146] I,hI⟩
theorem qbk (s:Snm) (hok:s.st.sta.Ok) (hf:StFew s.st) (hc:StCap s.st) (w:World) (hx:StRd w s.st):
    Calls Tryz.prog 16 #[.agg s.cells] w (Is w (vI (chkS s:Int))):=by
 refine (JN1 Tryz.func16 17) ?_
 refine (JP∘JE) fun w1 g1=>(Jp 1∘Jj∘JQ∘JB∘JP∘Jg 0 O0∘Jp 2) (Ji (fun hd7=>?_) fun hd7=>?_)
 ·
  exact (Jp 5∘Jd6∘Jj∘JT∘JP∘Jp 1∘Jj∘JZ∘Jz1) fun I=>by exact ⟨by rw [qoq om];rfl,I.below⟩
 refine (Jg 0 O0∘Jp 3∘Jd6∘Jj) (Ji (fun hd3=>?_) fun hd3=>?_)
 ·
  exact (JT∘JP∘Jp 1∘Jj∘JZ∘Jz1) fun I=>by exact ⟨by rw [qoq om];rfl,I.below⟩
 refine (JF∘JP∘Jf 1∘Jy (v:= .agg #[vI s.st.cpus,vQ s.st.credit,.slice s.st.gA s.st.gs.length s.st.gc,.slice s.st.lA s.st.cl.length s.st.lc,.slice s.st.uA s.st.cu.length s.st.uc,.slice s.st.tA s.st.ts.length s.st.tc,.slice s.st.sA s.st.rs.length s.st.sc]) (h:=by exact Yl.loadS rfl rfl si_st rfl (fun _ h=>h.sub (i:=0) rfl 1 rfl))∘Jo (.agg s.st.cells) (by exact rfl)∘JI (h:=by exact fun I=>qm9 s.st hok hf _ (hx.old I))) fun w15 hbw=>(Jp 2∘Jd4∘Jj) (Ju (fun hb12=>?_) fun hb12=>?_)
 ·
  exact (JT∘JP∘Jp 1∘Jj∘JZ∘Jz1) fun I=>by exact ⟨by rw [qte om (by simpa using hb12)];rfl,I.below⟩
 exact (JF∘JS'∘JP∘Jp 1∘Jj∘JZ∘Jz1) fun I=>by exact ⟨by rw [qk7 om (by simpa using hb12)];rfl,I.below⟩
theorem qfx (s:Snm) (hok:s.st.sta.Ok) (hf:StFew s.st) (hc:StCap s.st) (w:World) (hx:StRd w s.st):
    Calls Tryz.prog 14 #[.agg s.cells] w (qjn w (chkS s) (numsE s)):=by
 refine qcv (vs:=[.agg s.cells]) Tryz.func14 rfl rfl kr (σ0:=[(0,.agg s.cells)]) rfl ?_
 intro a Z
 have I:=Mem.start w
 refine Jb Z I ((JP∘JE) fun w1 g1=>(Jp 2∘Jj∘JQ∘JP∘Jy (v:= .agg s.cells) (h:=by exact Yl.loadS rfl rfl qu rfl (fun _ h=>qa (h.blk (i:=0) rfl)))∘JI (h:=by exact fun I=>qbk s hok hf hc _ (hx.old I))) fun w9 hbw=>(Jp 1∘Jd2∘Jr∘Jp 2∘Jd1∘Jj) (Ju (fun hb11=>?_) fun hb11=>?_))
 ·
  intro a Z I
  have hd11:=bne_iff_ne.1 hb11
  refine Jb Z I ((JT∘JP∘Jp 3∘Jj∘JZ) fun a Z I=>?_)
  refine qyz ?_
  exact s_rt2 rfl Z rfl rfl (qqf _ rfl (qwr om) I.below)
 intro a Z I
 have hd11:=bne_eq_false_iff_eq.1 hb11
 have hk0:chkS s=0:=by omega
 have hsh:=qk9 hk0
 refine Jb Z I ((JF∘JS'∘JP∘JA #[vN]) fun w5 g5=>(Jq) fun a Z I=>?_)
 replace I:=I.nil 30 1
 refine Jb Z I ((JG∘JQ∘JP∘Jy (v:= .agg s.cells) (h:=by exact Yl.loadS rfl rfl qu rfl (fun _ h=>qa (h.blk (i:=2) rfl)))∘JL (h:=by exact fun I=>ql9 s _)) ?_)
 rintro I _ w14 ⟨gv,gp,rfl,hm⟩
 refine ⟨_,rfl,_,I.join hm,?_⟩
 refine (Jd1∘Jj∘JB) fun a Z I=>?_
 refine qsv Z I (fun F=>∃(q:List Nat) (Ao:Option Addr) (co:Nat),(q=upF 7 (secN s))∧(q.length≤co)∧F=[.row (.slice Ao q.length co) q.length (q.map U64) 30 1,.blk g5 #[.slice Ao q.length co] 47,.blk g1 s.cells 40]) (fun _ _=>False) rfl kr ?_ ?_ (fun _ _ _ _ _ h=>h.elim)
 ·
  clear Z I;intro lp B rec w1 hrec I
  have hy:qkf Tryz.prog w lp s (fun i F=>∃(q:List Nat) (Ao:Option Addr) (co:Nat),(q=upF i (secN s))∧(q.length≤co)∧F=(.obj lp (.loop (rec .ready none)):: .obj B (.deferred (some [])):: [.row (.slice Ao q.length co) q.length (q.map U64) 30 1,.blk g5 #[.slice Ao q.length co] 47,.blk g1 s.cells 40])):=by
   rintro i F fr w3 Ar cr ⟨q,Ao,co,hq,hco,rfl⟩ hi hcr I
   replace I:=I.pt (fs':=(.obj lp (.loop (rec .ready none)):: .row (.slice Ar ((secN s i).length) cr) ((secN s i).length) ((secN s i).map U64) 30 1:: .obj B (.deferred (some [])):: .row (.slice Ao q.length co) q.length (q.map U64) 30 1:: .blk g5 #[.slice Ao q.length co] 47:: .blk g1 s.cells 40::fr)) 6 [1,0,2,3,4,5]
   refine qfr (v1:= .string (qb6 i)) (v2:= .slice Ar ((secN s i).length) cr) hrec I de de fun a Z=>?_
   refine zp ?_
   refine Jb Z I ((Jp 1∘Jq) fun a Z I=>?_)
   have hql:q.length≤600000:=by rw [hq];exact qff hsh om
   have hsl:=qop hsh hi
   refine ⟨(.row (.slice Ar ((secN s i).length) cr) ((secN s i).length) ((secN s i).map U64) 30 1:: .obj B (.deferred (some [])):: .row (.slice Ao q.length co) q.length (q.map U64) 30 1:: .blk g5 #[.slice Ao q.length co] 47:: .blk g1 s.cells 40::fr),I.pt (fs':=(.obj lp (.loop (rec .ready none)):: .row (.slice Ar ((secN s i).length) cr) ((secN s i).length) ((secN s i).map U64) 30 1:: .obj B (.deferred (some [])):: .row (.slice Ao q.length co) q.length (q.map U64) 30 1:: .blk g5 #[.slice Ao q.length co] 47:: .blk g1 s.cells 40::fr)) 6 [0,1,2,3,4,5],fun w4 I=>?_⟩
   refine wpIn_block ?_
   refine zp ?_
   refine Jb Z I ((Jc O4∘Jp 1∘JD ((secN s i).map U64) 3 (fun _ _=>O3') qat (hr:=by exact fun I=>I.rd (i:=1) rfl) (h1:=by exact qb8 _)) fun w19 A19 c19 hc19=>(JW O4' O0') fun w7_3=>(Jt3∘Jq) fun a Z I=>?_)
   have hnA19:q.length+((secN s i).length)=(q++(secN s i)).length:=qax rfl
   replace I:=I.reRow (i:=3) (ys:=(q++(secN s i)).map U64) rfl hnA19 (List.map_append.symm)
   rw [hnA19] at hc19
   rw [hnA19] at I
   refine ⟨(.obj B (.deferred (some [])):: .row (.slice A19 ((q++(secN s i)).length) c19) ((q++(secN s i)).length) ((q++(secN s i)).map U64) 30 1:: .blk g5 #[.slice A19 ((q++(secN s i)).length) c19] 47:: .blk g1 s.cells 40::fr),I.pt (fs':=(.obj lp (.loop (rec .busy none)):: .obj B (.deferred (some [])):: .row (.slice A19 ((q++(secN s i)).length) c19) ((q++(secN s i)).length) ((q++(secN s i)).map U64) 30 1:: .blk g5 #[.slice A19 ((q++(secN s i)).length) c19] 47:: .blk g1 s.cells 40::fr)) 6 [0,2,3,4,5],fun w5 I=>?_⟩
   exact ⟨(.obj lp (.loop (rec .ready none)):: .obj B (.deferred (some [])):: .row (.slice A19 ((q++(secN s i)).length) c19) ((q++(secN s i)).length) ((q++(secN s i)).map U64) 30 1:: .blk g5 #[.slice A19 ((q++(secN s i)).length) c19] 47:: .blk g1 s.cells 40:: []),I,rfl,⟨(q++(secN s i)),A19,c19,by rw [hq,qs],hc19,rfl⟩⟩
  refine (qi1 w w1 gv gp lp s hok hf hx hc hsh _ _ hy ⟨[],none,0,rfl,Nat.le_refl _,rfl⟩ (I.pk [2,3,0,1,4,5,6])).mono ?_
  rintro r w2 ⟨v,rfl,F2,HM2,⟨q,Ao,co,hq,hco,rfl⟩⟩
  exact ⟨v,rfl,.inl ⟨_,⟨q,Ao,co,hq,hco,rfl⟩,HM2⟩⟩
 clear Z I;rintro B a w6 _ ⟨q,Ao,co,hq,hco,rfl⟩ Z I
 refine Jb Z I ((JG∘JP∘Jc O2∘Jp 2∘Jj∘JZ) fun a Z I=>?_)
 refine qmy Z I (i:=0) rfl fun a w7 Z I=>?_
 exact s_rt2 rfl Z rfl rfl (qqe (er':=0) hk0.symm (by rw [qbf hk0,hq];rfl) (I.own (i:=1) rfl) hco I.below)
end Go.Proofs.YtcajpeiobkcliaaGreatDoor
