/- A part of the proof. -/
import Derived.Test.YtcajpeiobkcliaaGreatDoorQiShrt
import Derived.Test.YtcajpeiobkcliaaGreatDoorQiSep12
set_option linter.all false
namespace Go.Proofs.YtcajpeiobkcliaaGreatDoor
open Go.RowKit
section
variable {α:Type}
inductive At:List α→α→Prop
 |z {a:α} {l:List α}:At (a::l) a
 |s {a b:α} {l:List α} (h:At l a):At (b::l) a
inductive Upd (a b:α):List α→List α→Prop
 |z {l:List α}:Upd a b (a::l) (b::l)
 |s {c:α} {l m:List α} (h:Upd a b l m):Upd a b (c::l) (c::m)
inductive Sel:List α→List α→Prop
 |n {l:List α}:Sel l l
 |t {a:α} {l m:List α} (h:Sel l m):Sel (a::l) (a::m)
 |f {a:α} {l m:List α} (h:Sel l m):Sel (a::l) m
theorem At.get {l:List α} {a:α} (h:At l a):∃i:Nat,l[i]?=some a:=by
 induction h with
 |z=>exact ⟨0,rfl⟩
 |s _ ih=>obtain ⟨i,hi⟩:=ih;exact ⟨i+1,by simpa using hi⟩
theorem Upd.get {a b:α} {l m:List α} (h:Upd a b l m):∃i:Nat,l[i]?=some a∧m=l.set i b:=by
 induction h with
 |z=>exact ⟨0,rfl,rfl⟩
 |s _ ih=>obtain ⟨i,hi,rfl⟩:=ih;exact ⟨i+1,by simpa using hi,rfl⟩
theorem Sel.sub {l m:List α} (h:Sel l m):m.Sublist l:=by
 induction h with
 |n=>exact List.Sublist.refl _
 |t _ ih=>exact ih.cons₂ _
 |f _ ih=>exact ih.cons _
variable {a b x1 x2 x3 x4 x5 x6 x7 x8 x9 y1 y2:α} {l m:List α}
theorem O0:At (a::l) a:= .z
theorem O1:At (x1::a::l) a:= .s .z
theorem O2:At (x1::x2::a::l) a:= .s O1
theorem O3:At (x1::x2::x3::a::l) a:= .s O2
theorem O4:At (x1::x2::x3::x4::a::l) a:= .s O3
theorem O5:At (x1::x2::x3::x4::x5::a::l) a:= .s O4
theorem O6:At (x1::x2::x3::x4::x5::x6::a::l) a:= .s O5
theorem O0':Upd a b (a::l) (b::l):= .z
theorem O1':Upd a b (x1::a::l) (x1::b::l):= .s .z
theorem O2':Upd a b (x1::x2::a::l) (x1::x2::b::l):= .s O1'
theorem O3':Upd a b (x1::x2::x3::a::l) (x1::x2::x3::b::l):= .s O2'
theorem O4':Upd a b (x1::x2::x3::x4::a::l) (x1::x2::x3::x4::b::l):= .s O3'
theorem O5':Upd a b (x1::x2::x3::x4::x5::a::l) (x1::x2::x3::x4::x5::b::l):= .s O4'
theorem O6':Upd a b (x1::x2::x3::x4::x5::x6::a::l) (x1::x2::x3::x4::x5::x6::b::l):= .s O5'
theorem O7':Upd a b (x1::x2::x3::x4::x5::x6::x7::a::l) (x1::x2::x3::x4::x5::x6::x7::b::l):= .s O6'
theorem O8':Upd a b (x1::x2::x3::x4::x5::x6::x7::x8::a::l) (x1::x2::x3::x4::x5::x6::x7::x8::b::l):= .s O7'
theorem O9':Upd a b (x1::x2::x3::x4::x5::x6::x7::x8::x9::a::l) (x1::x2::x3::x4::x5::x6::x7::x8::x9::b::l):= .s O8'
end
def nth {α:Type}:List α→Nat→Option α
 |[],_=>none
 |x::_,0=>some x
 |_::r,n+1=>nth r n
theorem qsk {α:Type}:∀(l:List α) (i:Nat),nth l i=l[i]?
 |[],_=>rfl
 |_::_,0=>rfl
 |_::r,n+1=>by rw [List.getElem?_cons_succ];exact qsk r n
theorem qi8 {α:Type} {l:Array α} {i:Nat} {x:α} (h:nth l.toList i=some x):l[i]?=some x:=by
 rw [qsk] at h;simpa using h
def mostO:Go.IntKind→Option Nat
 | .i8=>some 127| .i16=>some 32767| .i32=>some 2147483647| .i64=>some 9223372036854775807
 | .u8=>some 255| .u16=>some 65535| .u32=>some 4294967295| .u64=>some 18446744073709551615
theorem qch {k:Go.IntKind} {B m:Nat} (hB:mostO k=some B) (h:m≤B):Go.IntKind.wrap k (m:Int)=(m:Int):=
 qbc k (Nat.le_trans h (by cases k<;>(injection hB with hB;subst hB;exact Nat.le_refl _)))
section
variable {P:Program} {ops o2:Array Oper} {Q:Exit→Act→World→Prop} {a:Act} {W w:World} {n i j d d2:Nat} {D:List Deferred} {σ σ':List (Nat×Value)} {o o':Oper} {op:Op} {v v1 v2 v3:Value} {X:Act→World→Prop} {fs fs':List Fact} {p q:Nat×Value}
def JJ (W w:World) (n:Nat) (D:List Deferred) (σ:List (Nat×Value)) (fs:List Fact) (X:Act→World→Prop):Prop:=∀a,Fr a n D σ→Mem W w fs→X a w
theorem Jb (Z:Fr a n D σ) (I:Mem W w fs) (h:JJ W w n D σ fs X):X a w:=h a Z I
theorem Fr.dropN {xs:List (Nat×Value)} (h:Fr a n D (q::(xs++σ))) (hn:(xs.all fun p=>p.1==q.1||(σ.lookup p.1).isNone)=true):Fr a n D (q::σ):=by
 refine ⟨h.size,h.defers,fun t v hv=>h.slot t v ?_⟩
 obtain ⟨q1,q2⟩:=q
 simp only [List.lookup_cons] at hv⊢
 split at hv
 ·exact hv
 ·rename_i e
  rw [qce]
  cases hl:xs.lookup t with
  |none=>exact hv
  |some u=>
   exfalso
   obtain ⟨r,hr,hrt⟩:=qcr (qal hl)
   have:=List.all_eq_true.1 hn r hr
   rw [hrt,Bool.or_eq_true] at this
   rcases this with h1|h1
   ·simp only [e] at h1;cases h1
   ·rw [hv] at h1;cases h1
theorem Fr.dropT {xs:List (Nat×Value)} (h:Fr a n D (xs++σ)) (hn:(xs.all fun p=>(σ.lookup p.1).isNone)=true):Fr a n D σ:=by
 refine ⟨h.size,h.defers,fun t v hv=>h.slot t v ?_⟩
 rw [qce]
 cases hl:xs.lookup t with
 |none=>exact hv
 |some u=>
  exfalso
  obtain ⟨r,hr,hrt⟩:=qcr (qal hl)
  have:=List.all_eq_true.1 hn r hr
  rw [hrt,hv] at this
  cases this
section
variable {p1 p2 p3 p4 p5 p6 p7 p8:Nat×Value}
theorem Jd1 (h:([p1].all fun p=>p.1==q.1||(σ.lookup p.1).isNone)=true:=by kernel_rfl) (k:JJ W w n D (q::σ) fs X):JJ W w n D (q::p1::σ) fs X:=fun a Z=>k a (Z.dropN (xs:=[p1]) h)
theorem Jd2 (h:([p1,p2].all fun p=>p.1==q.1||(σ.lookup p.1).isNone)=true:=by kernel_rfl) (k:JJ W w n D (q::σ) fs X):JJ W w n D (q::p1::p2::σ) fs X:=fun a Z=>k a (Z.dropN (xs:=[p1,p2]) h)
theorem Jd3 (h:([p1,p2,p3].all fun p=>p.1==q.1||(σ.lookup p.1).isNone)=true:=by kernel_rfl) (k:JJ W w n D (q::σ) fs X):JJ W w n D (q::p1::p2::p3::σ) fs X:=fun a Z=>k a (Z.dropN (xs:=[p1,p2,p3]) h)
theorem Jd4 (h:([p1,p2,p3,p4].all fun p=>p.1==q.1||(σ.lookup p.1).isNone)=true:=by kernel_rfl) (k:JJ W w n D (q::σ) fs X):JJ W w n D (q::p1::p2::p3::p4::σ) fs X:=fun a Z=>k a (Z.dropN (xs:=[p1,p2,p3,p4]) h)
theorem Jd5 (h:([p1,p2,p3,p4,p5].all fun p=>p.1==q.1||(σ.lookup p.1).isNone)=true:=by kernel_rfl) (k:JJ W w n D (q::σ) fs X):JJ W w n D (q::p1::p2::p3::p4::p5::σ) fs X:=fun a Z=>k a (Z.dropN (xs:=[p1,p2,p3,p4,p5]) h)
theorem Jd6 (h:([p1,p2,p3,p4,p5,p6].all fun p=>p.1==q.1||(σ.lookup p.1).isNone)=true:=by kernel_rfl) (k:JJ W w n D (q::σ) fs X):JJ W w n D (q::p1::p2::p3::p4::p5::p6::σ) fs X:=fun a Z=>k a (Z.dropN (xs:=[p1,p2,p3,p4,p5,p6]) h)
theorem Jt1 (h:([p1].all fun p=>(σ.lookup p.1).isNone)=true:=by kernel_rfl) (k:JJ W w n D σ fs X):JJ W w n D (p1::σ) fs X:=fun a Z=>k a (Z.dropT (xs:=[p1]) h)
theorem Jt2 (h:([p1,p2].all fun p=>(σ.lookup p.1).isNone)=true:=by kernel_rfl) (k:JJ W w n D σ fs X):JJ W w n D (p1::p2::σ) fs X:=fun a Z=>k a (Z.dropT (xs:=[p1,p2]) h)
theorem Jt3 (h:([p1,p2,p3].all fun p=>(σ.lookup p.1).isNone)=true:=by kernel_rfl) (k:JJ W w n D σ fs X):JJ W w n D (p1::p2::p3::σ) fs X:=fun a Z=>k a (Z.dropT (xs:=[p1,p2,p3]) h)
theorem Jt4 (h:([p1,p2,p3,p4].all fun p=>(σ.lookup p.1).isNone)=true:=by kernel_rfl) (k:JJ W w n D σ fs X):JJ W w n D (p1::p2::p3::p4::σ) fs X:=fun a Z=>k a (Z.dropT (xs:=[p1,p2,p3,p4]) h)
theorem Jt5 (h:([p1,p2,p3,p4,p5].all fun p=>(σ.lookup p.1).isNone)=true:=by kernel_rfl) (k:JJ W w n D σ fs X):JJ W w n D (p1::p2::p3::p4::p5::σ) fs X:=fun a Z=>k a (Z.dropT (xs:=[p1,p2,p3,p4,p5]) h)
theorem Jt6 (h:([p1,p2,p3,p4,p5,p6].all fun p=>(σ.lookup p.1).isNone)=true:=by kernel_rfl) (k:JJ W w n D σ fs X):JJ W w n D (p1::p2::p3::p4::p5::p6::σ) fs X:=fun a Z=>k a (Z.dropT (xs:=[p1,p2,p3,p4,p5,p6]) h)
end
theorem Mem.sel (h:Mem W w fs) (m:Sel fs fs'):Mem W w fs':=⟨h.below,fun f hf=>h.holds f (m.sub.subset hf),h.apart.sublist m.sub⟩
theorem JM (m:Sel fs fs') (k:JJ W w n D σ fs' X):JJ W w n D σ fs X:=fun a Z I=>k a Z (I.sel m)
def opW (ops:Array Oper) (σ:List (Nat×Value)) (n i:Nat):Option (Nat×Op):=match ops[i]? with
 |some o=>match wantB ops σ o,o.dst with
  |some true,some d=>if d<n then some (d,o.op) else none
  |_,_=>none
 |none=>none
theorem qei (h:opW ops σ n i=some (d,op)):∃o,ops[i]?=some o∧wantB ops σ o=some true∧o.dst=some d∧d<n∧o.op=op:=by
 unfold opW at h
 split at h
 ·rename_i o ho
  split at h
  ·rename_i d' hw hd
   split at h
   ·rename_i hdn
    injection h with h
    injection h with h1 h2
    subst h1;subst h2
    exact ⟨o,ho,hw,hd,hdn,rfl⟩
   ·cases h
  ·cases h
 ·cases h
theorem JJ.yl (h:opW ops σ n i=some (d,op)) (hy:∀o:Oper,o.op=op→Yl P (fun wS=>Mem W wS fs) σ o v) (k:JJ W w n D ((d,v)::σ) fs (qg P ops Q (i+1))):JJ W w n D σ fs (qg P ops Q i):=by
 obtain ⟨o,ho,hw,hd,hdn,he⟩:=qei h
 exact fun _ Z I=>qmj (S:=fun wS=>Mem W wS fs) Z I ho hw hd hdn (hy o he) fun a Z=>k a Z I
theorem JJ.eff (h:opW ops σ n i=some (d,op)) (k:∀(o:Oper) a,o.op=op→o.dst=some d→d<n→Fr a n D σ→Mem W w fs→o.wp P a w (qg P ops Q (i+1)) Q):JJ W w n D σ fs (qg P ops Q i):=by
 obtain ⟨o,ho,hw,hd,hdn,he⟩:=qei h
 exact fun a Z I=>qgi Z ho hw (k o a he hd hdn Z I)
theorem Jp (m:Nat) (h:qaa P ops n m i σ=some σ':=by exact rfl) (k:JJ W w n D σ' fs (qg P ops Q (i+m))):JJ W w n D σ fs (qg P ops Q i):=
 fun _ Z I=>qd0 m i Z h rfl fun a' HF'=>k a' HF' I
theorem Jv (m:Nat) (new:List (Nat×Value)) (h:(qaa P ops n m i σ).map (fun s=>(thin s σ new,new.map fun p=>s.lookup p.1))=some (true,new.map fun p=>some p.2):=by kernel_rfl) (k:JJ W w n D (new++σ) fs (qg P ops Q (i+m))):JJ W w n D σ fs (qg P ops Q i):=
 fun _ Z I=>fp Z m i new (fun a' HF'=>k a' HF' I) h
theorem Jf (off:Nat) {s f g b:Nat} {x:Operand} (h:opW ops σ n i=some (d,.fieldAddr s x f):=by exact rfl) (hx:look σ x=some (.pointer (some ⟨g,b,none⟩)):=by exact rfl) (hf:qdg P s f=some off:=by kernel_rfl) (k:JJ W w n D ((d,.pointer (some ⟨g,b+off,none⟩))::σ) fs (qg P ops Q (i+1))):JJ W w n D σ fs (qg P ops Q i):=
 JJ.yl h (fun o ho=>Yl.pure (by rw [ho];simp only [qa4,hx,hf];rw [Addr.add_mid])) k
theorem Jc {g off:Nat} {x:Operand} {t tb:TypeId} {cs:Array Value} (O:At fs (.blk g cs tb)) (h:opW ops σ n i=some (d,.load t x):=by exact rfl) (hx:look σ x=some (.pointer (some ⟨g,off,none⟩)):=by exact rfl) (hv:nth cs.toList off=some v:=by exact rfl) (ht:isOne P t=true:=by kernel_rfl) (k:JJ W w n D ((d,v)::σ) fs (qg P ops Q (i+1))):JJ W w n D σ fs (qg P ops Q i):=
 JJ.yl h (fun o ho=>Yl.qe ho hx ht fun _ h=>let ⟨_,hi⟩:=O.get;h.cell hi (qi8 hv)) k
theorem Jg (off:Nat) {s f g b:Nat} {x:Operand} {t tb:TypeId} {cs:Array Value} (O:At fs (.blk g cs tb)) (h:opW ops σ n i=some (d,.fieldAddr s x f):=by exact rfl) (hx:look σ x=some (.pointer (some ⟨g,b,none⟩)):=by exact rfl) (h2:opW ops ((d,.pointer (some ⟨g,b+off,none⟩))::σ) n (i+1)=some (d2,.load t (.tmp d)):=by exact rfl) (hv:nth cs.toList (b+off)=some v:=by exact rfl)
 (hk:(isOne P t&& (qdg P s f==some off&& (d2==d||(σ.lookup d).isNone)))=true:=by kernel_rfl) (k:JJ W w n D ((d2,v)::σ) fs (qg P ops Q (i+2))):JJ W w n D σ fs (qg P ops Q i):=by
 simp only [Bool.and_eq_true,beq_iff_eq] at hk
 refine Jf off h hx hk.2.1 (Jc O h2 ?_ hv hk.1 (Jd1 (by simpa [Bool.beq_comm] using hk.2.2) k))
 simp [look]
theorem Jl {x:Operand} {t:TypeId} {A:Option Addr} {m c:Nat} (h:opW ops σ n i=some (d,.call {callee:= .builtin .len,args:= #[x],argTypes:= #[t]}):=by exact rfl) (hx:look σ x=some (.slice A m c):=by exact rfl) (ht:isSl P t=true:=by kernel_rfl) (k:JJ W w n D ((d,.int .i64 (m:Int))::σ) fs (qg P ops Q (i+1))):JJ W w n D σ fs (qg P ops Q i):=
 JJ.yl h (fun o ho=>Yl.len ho hx ht) k
theorem Jn {x:Operand} {p:Addr} (h:opW ops σ n i=some (d,.nilCheck x):=by exact rfl) (hx:look σ x=some (.pointer (some p)):=by exact rfl) (k:JJ W w n D ((d,.pointer (some p))::σ) fs (qg P ops Q (i+1))):JJ W w n D σ fs (qg P ops Q i):=
 JJ.yl h (fun o ho=>Yl.nilCheck ho hx) k
theorem Jx {x:Operand} {e:Nat} {vs:Array Value} (h:opW ops σ n i=some (d,.extract x e):=by exact rfl) (hx:look σ x=some (.tuple vs):=by exact rfl) (hv:nth vs.toList e=some v:=by exact rfl) (k:JJ W w n D ((d,v)::σ) fs (qg P ops Q (i+1))):JJ W w n D σ fs (qg P ops Q i):=
 JJ.yl h (fun o ho=>Yl.pure (by rw [ho];simp only [qa4,hx];exact qi8 hv)) k
theorem Jy (ho:ops[i]?=some o:=by exact rfl) (hw:wantB ops σ o=some true:=by exact rfl) (hd:o.dst=some d:=by exact rfl) (hdn:d<n:=by decide) (h:Yl P (fun wS=>Mem W wS fs) σ o v) (k:JJ W w n D ((d,v)::σ) fs (qg P ops Q (i+1))):JJ W w n D σ fs (qg P ops Q i):=
 fun _ Z I=>qmj (S:=fun wS=>Mem W wS fs) Z I ho hw hd hdn h fun a Z=>k a Z I
theorem Jo (u:Value) (h:v=u) (k:JJ W w n D ((d,u)::σ) fs X):JJ W w n D ((d,v)::σ) fs X:=by subst h;exact k
section
variable {x y:Operand} {t t2:TypeId} {k:Go.IntKind} {m p B:Nat}
theorem JJ.bin {bo:BinOp} {u:Value} {a1 a2:Value} (h:opW ops σ n i=some (d,.binOp bo t x y t2)) (hx:look σ x=some a1) (hy:look σ y=some a2) (hn:qko a1=true) (hb:qbr bo a1 a2=some v) (e:v=u) (K:JJ W w n D ((d,u)::σ) fs (qg P ops Q (i+1))):JJ W w n D σ fs (qg P ops Q i):=by
 subst e
 exact JJ.yl h (fun o ho=>Yl.pure (by rw [ho];simp only [qa4,hx,hy,hn,if_true];exact hb)) K
theorem qsl (k:Go.IntKind) (a b:Int):qbr .add (.int k a) (.int k b)=some (.int k (k.wrap (a+b))):=by simp [qbr,qgf]
theorem qsm (k:Go.IntKind) (a b:Int):qbr .sub (.int k a) (.int k b)=some (.int k (k.wrap (a-b))):=by simp [qbr,qgf]
theorem Ja (h:opW ops σ n i=some (d,.binOp .add t x y t2):=by exact rfl) (hx:look σ x=some (.int k (m:Int)):=by exact rfl) (hy:look σ y=some (.int k (p:Int)):=by exact rfl) (hB:mostO k=some B:=by exact rfl) (hb:m+p≤B:=by omega) (K:JJ W w n D ((d,.int k ((m+p:Nat):Int))::σ) fs (qg P ops Q (i+1))):JJ W w n D σ fs (qg P ops Q i):=
 JJ.bin h hx hy rfl (qsl _ _ _) (by rw [show ((m:Int)+(p:Int))=((m+p:Nat):Int) from rfl,qch hB hb]) K
theorem JaK (p:Nat) {z:Int} (h:opW ops σ n i=some (d,.binOp .add t x y t2):=by exact rfl) (hx:look σ x=some (.int k (m:Int)):=by exact rfl) (hy:look σ y=some (.int k z):=by exact rfl) (hz:z=(p:Int):=by exact rfl) (hB:mostO k=some B:=by exact rfl) (hb:m+p≤B:=by omega) (K:JJ W w n D ((d,.int k ((m+p:Nat):Int))::σ) fs (qg P ops Q (i+1))):JJ W w n D σ fs (qg P ops Q i):=by
 subst hz;exact Ja h hx hy hB hb K
theorem Js (h:opW ops σ n i=some (d,.binOp .sub t x y t2):=by exact rfl) (hx:look σ x=some (.int k (m:Int)):=by exact rfl) (hy:look σ y=some (.int k (p:Int)):=by exact rfl) (hB:mostO k=some B:=by exact rfl) (hb:p≤m∧m-p≤B:=by omega) (K:JJ W w n D ((d,.int k ((m-p:Nat):Int))::σ) fs (qg P ops Q (i+1))):JJ W w n D σ fs (qg P ops Q i):=
 JJ.bin h hx hy rfl (qsm _ _ _) (by rw [show ((m:Int)- (p:Int))=((m-p:Nat):Int) by omega,qch hB hb.2]) K
theorem JsK (p:Nat) {z:Int} (h:opW ops σ n i=some (d,.binOp .sub t x y t2):=by exact rfl) (hx:look σ x=some (.int k (m:Int)):=by exact rfl) (hy:look σ y=some (.int k z):=by exact rfl) (hz:z=(p:Int):=by exact rfl) (hB:mostO k=some B:=by exact rfl) (hb:p≤m∧m-p≤B:=by omega) (K:JJ W w n D ((d,.int k ((m-p:Nat):Int))::σ) fs (qg P ops Q (i+1))):JJ W w n D σ fs (qg P ops Q i):=by
 subst hz;exact Js h hx hy hB hb K
def intK (P:Program) (s t:TypeId):Option Go.IntKind:=match P.underlying s,P.underlying t with
 |some _,some (.int k)=>some k
 |_,_=>none
theorem Jw (k:Go.IntKind) {k0:Go.IntKind} (h:opW ops σ n i=some (d,.convert t t2 x):=by exact rfl) (hx:look σ x=some (.int k0 (m:Int)):=by exact rfl) (hk:intK P t t2=some k:=by kernel_rfl) (hB:mostO k=some B:=by exact rfl) (hb:m≤B:=by omega) (K:JJ W w n D ((d,.int k (m:Int))::σ) fs (qg P ops Q (i+1))):JJ W w n D σ fs (qg P ops Q i):=by
 refine JJ.yl h (fun o ho=>Yl.pure (by
  rw [ho]
  unfold intK at hk
  split at hk
  ·rename_i q1 q2 h1 h2
   injection hk with hk
   subst hk
   simp only [qa4,h1,h2,hx,qch hB hb]
  ·cases hk)) K
end
theorem Ji {p:Prop} {inst:Decidable p} (h1:p→JJ W w n D ((d,.bool true)::σ) fs X) (h2:¬p→JJ W w n D ((d,.bool false)::σ) fs X):JJ W w n D ((d,.bool (@decide p inst))::σ) fs X:=by
 by_cases h:p
 ·rw [decide_eq_true h];exact h1 h
 ·rw [decide_eq_false h];exact h2 h
theorem Ji' {p:Prop} {inst:Decidable p} (h1:¬p→JJ W w n D ((d,.bool true)::σ) fs X) (h2:p→JJ W w n D ((d,.bool false)::σ) fs X):JJ W w n D ((d,.bool (!@decide p inst))::σ) fs X:=by
 by_cases h:p
 ·rw [decide_eq_true h];exact h2 h
 ·rw [decide_eq_false h];exact h1 h
theorem Je {α:Type} {ib:BEq α} [LawfulBEq α] {x y:α} (h1:x=y→JJ W w n D ((d,.bool true)::σ) fs X) (h2:x≠y→JJ W w n D ((d,.bool false)::σ) fs X):JJ W w n D ((d,.bool (x==y))::σ) fs X:=by
 cases h:x==y
 ·exact h2 (ne_of_beq_false h)
 ·exact h1 (eq_of_beq h)
theorem Jh {α:Type} {ib:BEq α} [LawfulBEq α] {x y:α} (h1:x≠y→JJ W w n D ((d,.bool true)::σ) fs X) (h2:x=y→JJ W w n D ((d,.bool false)::σ) fs X):JJ W w n D ((d,.bool (x !=y))::σ) fs X:=by
 cases h:x !=y
 ·exact h2 (bne_eq_false_iff_eq.1 h)
 ·exact h1 (bne_iff_ne.1 h)
theorem Ju {b:Bool} (h1:b=true→JJ W w n D ((d,.bool true)::σ) fs X) (h2:b=false→JJ W w n D ((d,.bool false)::σ) fs X):JJ W w n D ((d,.bool b)::σ) fs X:=by
 cases b
 ·exact h2 rfl
 ·exact h1 rfl
theorem Jr {id:Nat} {c:Code} {Q':Exit→Act→World→Prop} (hi:ops.size=i:=by exact rfl) (h:∀a w,Q' .normal a w=Code.wp P (.seq (.region id o2 false) c) Q a w:=by exact fun _ _=>rfl) (k:JJ W w n D σ fs (qg P o2 (Exit.then (Code.wp P c Q) Q) 0)):JJ W w n D σ fs (qg P ops Q' i):=
 fun a Z I=>qgh hi (by rw [h];exact wp_seq (qbi (k a Z I)))
theorem Jq (hi:ops.size=i:=by exact rfl) (k:JJ W w n D σ fs (Q .normal)):JJ W w n D σ fs (qg P ops Q i):=fun a Z I=>qgh hi (k a Z I)
theorem Jj {c:Code} {Q':Exit→Act→World→Prop} (hi:ops.size=i:=by exact rfl) (h:∀a w,Q' .normal a w=Code.wp P c Q a w:=by exact fun _ _=>rfl) (k:JJ W w n D σ fs (Code.wp P c Q)):JJ W w n D σ fs (qg P ops Q' i):=fun a Z I=>qgh hi (by rw [h];exact k a Z I)
theorem JR {id:Nat} (k:JJ W w n D σ fs (qg P ops Q 0)):JJ W w n D σ fs (Code.wp P (.region id ops false) Q):=fun a Z I=>qbi (k a Z I)
theorem JQ {c c2:Code} (k:JJ W w n D σ fs (Code.wp P c (Exit.then (Code.wp P c2 Q) Q))):JJ W w n D σ fs (Code.wp P (.seq c c2) Q):=fun a Z I=>wp_seq (k a Z I)
theorem JP {id:Nat} {c:Code} (k:JJ W w n D σ fs (qg P ops (Exit.then (Code.wp P c Q) Q) 0)):JJ W w n D σ fs (Code.wp P (.seq (.region id ops false) c) Q):=fun a Z I=>wp_seq (qbi (k a Z I))
theorem JG {Y:Act→World→Prop} {c:Code} (h:∀a w,Y a w=Code.wp P c Q a w:=by exact fun _ _=>rfl) (k:JJ W w n D σ fs (Code.wp P c Q)):JJ W w n D σ fs Y:=fun a Z I=>by rw [h];exact k a Z I
theorem JS' {c:Code} {Q':Exit→Act→World→Prop} (h:∀a w,Q' .normal a w=Code.wp P c Q a w:=by exact fun _ _=>rfl) (k:JJ W w n D σ fs (Code.wp P c Q)):JJ W w n D σ fs (Code.wp P .skip Q'):=fun a Z I=>wp_skip (by rw [h];exact k a Z I)
theorem JT {c:Operand} {x y:Code} (hc:look σ c=some (.bool true):=by exact rfl) (k:JJ W w n D σ fs (Code.wp P x Q)):JJ W w n D σ fs (Code.wp P (.cond c x y) Q):=fun a Z I=>qsg Z hc (k a Z I)
theorem JF {c:Operand} {x y:Code} (hc:look σ c=some (.bool false):=by exact rfl) (k:JJ W w n D σ fs (Code.wp P y Q)):JJ W w n D σ fs (Code.wp P (.cond c x y) Q):=fun a Z I=>qp1 Z hc (k a Z I)
theorem JB {id:Nat} {c:Code} (k:JJ W w n D σ fs (Code.wp P c (Exit.inBlock id Q))):JJ W w n D σ fs (Code.wp P (.block id c) Q):=fun a Z I=>wp_block (k a Z I)
theorem JS (k:JJ W w n D σ fs (Q .normal)):JJ W w n D σ fs (Code.wp P .skip Q):=fun a Z I=>wp_skip (k a Z I)
theorem JX {id:Nat} (k:JJ W w n D σ fs (Q (.exit id))):JJ W w n D σ fs (Code.wp P (.exit id) Q):=fun a Z I=>wp_exit (k a Z I)
theorem JZ (k:JJ W w n D σ fs (Q .ret)):JJ W w n D σ fs (Code.wp P .ret Q):=fun a Z I=>wp_ret (k a Z I)
section
variable {fn:Func} {R:Ending→World→Prop} {t1 t2 t3:Nat}
theorem Jz1 (hX:∀a w,bodyPost P fn R .ret a w→X a w:=by exact fun _ _ h=>h) (hr:fn.results= #[.tmp t1]:=by exact rfl) (h1:σ.lookup t1=some v1:=by exact rfl) (hR:Mem W w fs→R (.returned v1) w):JJ W w n [] σ fs X:=fun _ Z I=>hX _ _ (s_rt1 hr Z h1 (hR I))
theorem JY1 (hX:∀a w,bodyPost P fn R .ret a w→X a w:=by exact fun _ _ h=>h) (hr:fn.results= #[.tmp t1]:=by exact rfl) (h1:σ.lookup t1=some v1:=by exact rfl) (hR:Mem W w fs→R (.returned v1) w:=by exact fun M=>⟨rfl,M.below⟩):JJ W w n [] σ fs X:=fun _ Z I=>hX _ _ (s_rt1 hr Z h1 (hR I))
theorem Jz2 (hX:∀a w,bodyPost P fn R .ret a w→X a w:=by exact fun _ _ h=>h) (hr:fn.results= #[.tmp t1,.tmp t2]:=by exact rfl) (h1:σ.lookup t1=some v1:=by exact rfl) (h2:σ.lookup t2=some v2:=by exact rfl) (hR:Mem W w fs→R (.returned (.tuple #[v1,v2])) w):JJ W w n [] σ fs X:=fun _ Z I=>hX _ _ (s_rt2 hr Z h1 h2 (hR I))
theorem JY2 (hX:∀a w,bodyPost P fn R .ret a w→X a w:=by exact fun _ _ h=>h) (hr:fn.results= #[.tmp t1,.tmp t2]:=by exact rfl) (h1:σ.lookup t1=some v1:=by exact rfl) (h2:σ.lookup t2=some v2:=by exact rfl) (hR:Mem W w fs→R (.returned (.tuple #[v1,v2])) w:=by exact fun M=>⟨rfl,M.below⟩):JJ W w n [] σ fs X:=fun _ Z I=>hX _ _ (s_rt2 hr Z h1 h2 (hR I))
end
theorem JA (cs:Array Value) {e:TypeId} (h:opW ops σ n i=some (d,.alloc e):=by exact rfl) (hz:zl P e=some cs:=by kernel_rfl) (k:∀w' g,JJ W w' n D ((d,.pointer (some ⟨g,0,none⟩))::σ) (.blk g cs e::fs) (qg P ops Q (i+1))):JJ W w n D σ fs (qg P ops Q i):=
 JJ.eff h fun _ _ he hd hdn Z I=>qmk Z I he hz hd hdn fun a w' g Z I=>k w' g a Z I
theorem JE {cs:Array Value} {e:TypeId} {x:Operand} (h:opW ops σ n i=some (d,.box e x):=by exact rfl) (hx:look σ x=some (.agg cs):=by exact rfl) (k:∀w' g,JJ W w' n D ((d,.pointer (some ⟨g,0,none⟩))::σ) (.blk g cs e::fs) (qg P ops Q (i+1))):JJ W w n D σ fs (qg P ops Q i):=
 JJ.eff h fun _ _ he hd hdn Z I=>e_box Z I he hx rfl hd hdn fun a w' g Z I=>k w' g a Z I
theorem Je1 {e:TypeId} {x:Operand} (h:opW ops σ n i=some (d,.box e x):=by exact rfl) (hx:look σ x=some v:=by exact rfl) (hc:v.cells= #[v]:=by exact rfl) (k:∀w' g,JJ W w' n D ((d,.pointer (some ⟨g,0,none⟩))::σ) (.blk g #[v] e::fs) (qg P ops Q (i+1))):JJ W w n D σ fs (qg P ops Q i):=
 JJ.eff h fun _ _ he hd hdn Z I=>e_box Z I he hx hc hd hdn fun a w' g Z I=>k w' g a Z I
theorem JW {t:TypeId} {x y:Operand} {g off:Nat} {l m:List Value} {v0:Value} {tb:TypeId} (O:Upd (.blk g l.toArray tb) (.blk g m.toArray tb) fs fs') (U:Upd v0 v l m) (ho:ops[i]?=some o:=by exact rfl) (hop:o.op= .store t x y:=by exact rfl) (hw:wantB ops σ o=some true:=by exact rfl) (hd:o.dst=none:=by exact rfl) (hx:look σ x=some (.pointer (some ⟨g,off,none⟩)):=by exact rfl) (hy:look σ y=some v:=by exact rfl) (hs:(P.info? t).map (·.size)=some 1:=by kernel_rfl) (hv:v.oneCell'=true:=by exact rfl)
 (hu:m=l.set off v:=by exact rfl) (hl:Nat.blt off l.length=true:=by exact rfl) (k:∀w',JJ W w' n D σ fs' (qg P ops Q (i+1))):JJ W w n D σ fs (qg P ops Q i):=by
 obtain ⟨j,hj,rfl⟩:=O.get
 refine fun a Z I=>qgi Z ho hw (qb3 Z I hop hd hx hy hs hv hj (by simpa using hl) fun w' I=>k w' a Z ?_)
 subst hu
 simpa using I
theorem JV {t:TypeId} {x y:Operand} {g m:Nat} {cs ds:Array Value} {tb:TypeId} (si:SI P t m) (O:Upd (.blk g cs tb) (.blk g ds tb) fs fs') (ho:ops[i]?=some o:=by exact rfl) (hop:o.op= .store t x y:=by exact rfl) (hw:wantB ops σ o=some true:=by exact rfl) (hd:o.dst=none:=by exact rfl) (hx:look σ x=some (.pointer (some ⟨g,0,none⟩)):=by exact rfl) (hy:look σ y=some (.agg ds):=by exact rfl)
 (hc:cs.size=m:=by exact rfl) (hm:ds.size=m:=by exact rfl) (h1:∀u∈ds.toList,u.oneCell'=true:=by simp [Value.oneCell']) (k:∀w',JJ W w' n D σ fs' (qg P ops Q (i+1))):JJ W w n D σ fs (qg P ops Q i):=by
 obtain ⟨j,hj,rfl⟩:=O.get
 exact fun a Z I=>qgi Z ho hw (qia Z I hop hd hx hy si hc hm h1 hj fun w' I=>k w' a Z I)
theorem JI {f:FuncId} {xs:Array Operand} {ts:Array TypeId} {vs:List Value} (h0:opW ops σ n i=some (d,.call {callee:= .value (.func f),args:=xs,argTypes:=ts}):=by exact rfl) (hv:looks σ xs.toList=some vs:=by exact rfl) (h:Mem W w fs→Calls P f vs.toArray w (fun r w'=>r= .returned v∧Below w.heap.size w w')) (hf:callable P f=true:=by kernel_rfl)
 (k:∀w',Below w.heap.size w w'→JJ W w' n D ((d,v)::σ) fs (qg P ops Q (i+1))):JJ W w n D σ fs (qg P ops Q i):=
 JJ.eff h0 fun _ _ he hd hdn Z I=>qfm Z he hv hf hd hdn (h I) fun _ w' ⟨h1,h2⟩=>⟨v,h1,fun a Z=>k w' h2 a Z (I.call h2)⟩
theorem JL {f:FuncId} {xs:Array Operand} {ts:Array TypeId} {vs:List Value} {R:Ending→World→Prop} (h0:opW ops σ n i=some (d,.call {callee:= .value (.func f),args:=xs,argTypes:=ts}):=by exact rfl) (hv:looks σ xs.toList=some vs:=by exact rfl) (h:Mem W w fs→Calls P f vs.toArray w R) (hf:callable P f=true:=by kernel_rfl)
 (k:Mem W w fs→∀r w',R r w'→∃v,r= .returned v∧∃fs',Mem W w' fs'∧JJ W w' n D ((d,v)::σ) fs' (qg P ops Q (i+1))):JJ W w n D σ fs (qg P ops Q i):=
 JJ.eff h0 fun _ _ he hd hdn Z I=>qfm Z he hv hf hd hdn (h I) fun r w' hr=>let ⟨v,h1,_,h3,h4⟩:=k I r w' hr;⟨v,h1,fun a Z=>h4 a Z h3⟩
theorem JK {f:FuncId} {xs:Array Operand} {ts:Array TypeId} {vs:List Value} {V:Option Addr→Nat→Value} {m sz:Nat} {e:TypeId} {ys:List Value} (h0:opW ops σ n i=some (d,.call {callee:= .value (.func f),args:=xs,argTypes:=ts}):=by exact rfl) (hv:looks σ xs.toList=some vs:=by exact rfl) (h:Mem W w fs→Calls P f vs.toArray w (fun r w'=>(∃A c,r= .returned (V A c)∧w'.ownsRow w.heap.size e sz (.slice A m c) m ys∧m≤c)∧Below w.heap.size w w')) (hf:callable P f=true:=by kernel_rfl)
 (k:∀A c w',m≤c→JJ W w' n D ((d,V A c)::σ) (.row (.slice A m c) m ys e sz::fs) (qg P ops Q (i+1))):JJ W w n D σ fs (qg P ops Q i):=
 JJ.eff h0 fun _ _ he hd hdn Z I=>qfm Z he hv hf hd hdn (h I) fun r w' ⟨⟨A,c,h1,h2,h3⟩,h4⟩=>⟨_,h1,fun a Z=>k A c w' h3 a Z (I.callRow h4 h2)⟩
theorem JO {f:FuncId} {xs:Array Operand} {ts:Array TypeId} {vs:List Value} (h0:opW ops σ n i=some (d,.call {callee:= .value (.func f),args:=xs,argTypes:=ts}):=by exact rfl) (hv:looks σ xs.toList=some vs:=by exact rfl) (h:Mem W w fs→Calls P f vs.toArray w (fun r w'=>r= .returned v∧Mem W w' fs')) (hf:callable P f=true:=by kernel_rfl)
 (k:∀w',JJ W w' n D ((d,v)::σ) fs' (qg P ops Q (i+1))):JJ W w n D σ fs (qg P ops Q i):=
 JJ.eff h0 fun _ _ he hd hdn Z I=>qfm Z he hv hf hd hdn (h I) fun r w' ⟨h1,h2⟩=>⟨v,h1,fun a Z=>k w' a Z h2⟩
theorem JU {t len e:Nat} {ps:Array (Nat×Operand)} {vs:List (Nat×Value)} {z:Value} {size bytes:Nat} (ei:EI P t e z size bytes) (cs:Array Value) (h:opW ops σ n i=some (d,.buildSlice t len ps):=by exact rfl) (hl:decide (0<len∧len*size≤16777216)=true:=by decide) (hv:qbb σ ps.toList=some vs:=by exact rfl)
 (hf:Instr.fill (fun i=>some (i*size,size)) (qdi z.cells (len*size)) vs=some cs:=by kernel_rfl) (k:∀w' g,JJ W w' n D ((d,.slice (some ⟨g,0,none⟩) len len)::σ) (.blk g cs e::fs) (qg P ops Q (i+1))):JJ W w n D σ fs (qg P ops Q i):=
 JJ.eff h fun _ _ he hd hdn Z I=>qsf Z I he ei hl hv hf hd hdn fun a w' g Z I=>k w' g a Z I
theorem JD {s x:Operand} {t e:TypeId} {z:Value} {size bytes m0 m c B:Nat} {A:Option Addr} {xs:List Value} {fa:Option Addr→Nat→List Fact} (news:List Value) (j:Nat) (O:∀A' c',Upd (.row v m0 xs e size) (.row (.slice A' (m0+m) c') (m0+m) (xs++news) e size) fs (fa A' c')) (ei:EI P t e z size bytes)
 (h0:opW ops σ n i=some (d,.call {callee:= .builtin .append,args:= #[s,x],argTypes:= #[t,t]}):=by exact rfl) (hs:look σ s=some v:=by exact rfl) (hx:look σ x=some (.slice A m c):=by exact rfl) (hj:fs[j]?=some (.row v m0 xs e size):=by exact rfl) (hu:(fun A' c'=>fs.set j (.row (.slice A' (m0+m) c') (m0+m) (xs++news) e size))=fa:=by kernel_rfl)
 (hr:Mem W w fs→Rd w B size A m news) (h1:∀u∈news,u.oneCell'=true) (hb:(m0+m)*bytes≤140737488355328:=by omega) (h63:m0+m≤9223372036854775807:=by omega)
 (k:∀w' A' c',m0+m≤c'→JJ W w' n D ((d,.slice A' (m0+m) c')::σ) (fa A' c') (qg P ops Q (i+1))):JJ W w n D σ fs (qg P ops Q i):=
 JJ.eff h0 fun _ _ he hd hdn Z I=>qad Z I he ei hs hx hj (hr I) h1 hb h63 hd hdn fun a w' A' c' Z HM' hc=>k w' A' c' hc a Z (by have h:=congrFun (congrFun hu A') c';rw [←h];exact HM')
theorem JH {p:Prop} (h:p) (k:p→JJ W w n D σ fs X):JJ W w n D σ fs X:=k h
section
variable {f N:Nat} {fn:Func} {c:Code} {R:Ending→World→Prop} {u1 u2 u3 u4 u5 u6 u7 u8:Value}
theorem JN0 (hf:P.funcs[f]?=some fn) (N:Nat) (hn:fn.ntmps=N:=by exact rfl) (hb:fn.body=some c:=by exact rfl) (hl:decide (0≤N)=true:=by kernel_rfl) (k:JJ w w N [] [] [] (Code.wp P c (bodyPost P fn R))):Calls P f #[] w R:=
 zj (vs:=[]) hf hb hn hl rfl fun a Z=>k a Z (Mem.start w)
theorem JN1 (hf:P.funcs[f]?=some fn) (N:Nat) (hn:fn.ntmps=N:=by exact rfl) (hb:fn.body=some c:=by exact rfl) (hl:decide (1≤N)=true:=by kernel_rfl) (k:JJ w w N [] [(0,u1)] [] (Code.wp P c (bodyPost P fn R))):Calls P f #[u1] w R:=
 zj (vs:=[u1]) hf hb hn hl rfl fun a Z=>k a Z (Mem.start w)
theorem JN2 (hf:P.funcs[f]?=some fn) (N:Nat) (hn:fn.ntmps=N:=by exact rfl) (hb:fn.body=some c:=by exact rfl) (hl:decide (2≤N)=true:=by kernel_rfl) (k:JJ w w N [] [(0,u1),(1,u2)] [] (Code.wp P c (bodyPost P fn R))):Calls P f #[u1,u2] w R:=
 zj (vs:=[u1,u2]) hf hb hn hl rfl fun a Z=>k a Z (Mem.start w)
theorem JN3 (hf:P.funcs[f]?=some fn) (N:Nat) (hn:fn.ntmps=N:=by exact rfl) (hb:fn.body=some c:=by exact rfl) (hl:decide (3≤N)=true:=by kernel_rfl) (k:JJ w w N [] [(0,u1),(1,u2),(2,u3)] [] (Code.wp P c (bodyPost P fn R))):Calls P f #[u1,u2,u3] w R:=
 zj (vs:=[u1,u2,u3]) hf hb hn hl rfl fun a Z=>k a Z (Mem.start w)
theorem JN4 (hf:P.funcs[f]?=some fn) (N:Nat) (hn:fn.ntmps=N:=by exact rfl) (hb:fn.body=some c:=by exact rfl) (hl:decide (4≤N)=true:=by kernel_rfl) (k:JJ w w N [] [(0,u1),(1,u2),(2,u3),(3,u4)] [] (Code.wp P c (bodyPost P fn R))):Calls P f #[u1,u2,u3,u4] w R:=
 zj (vs:=[u1,u2,u3,u4]) hf hb hn hl rfl fun a Z=>k a Z (Mem.start w)
end
end
end Go.Proofs.YtcajpeiobkcliaaGreatDoor
