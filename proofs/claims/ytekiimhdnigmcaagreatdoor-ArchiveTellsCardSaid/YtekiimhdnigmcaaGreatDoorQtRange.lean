/- A part of the proof. -/
import Derived.RangeFuncNested
import Derived.RangeFuncCalls
import Derived.WalkKit
import Derived.Deep.Draws
namespace Go.Proofs.YtekiimhdnigmcaaGreatDoor
open Go.RowKit
theorem hide {p:Prop} (h:p):Hid p:=h
def datum:Obj→Bool
 | .cells .. =>true
 | .map .. =>true
 |_=>false
structure gF (S:List Nat) (w w':World):Prop where
 os:w'.os=w.os
 tape:w'.tape=w.tape
 output:w'.output=w.output
 size:w.heap.size≤w'.heap.size
 block:∀k,k<w.heap.size→k∉S→w'.heap[k]?=w.heap[k]?
structure Keep (B:Nat) (S:List Nat) (w w':World):Prop where
 os:w'.os=w.os
 tape:w'.tape=w.tape
 output:w'.output=w.output
 size:w.heap.size≤w'.heap.size
 block:∀k,k<B→k∉S→w'.heap[k]?=w.heap[k]?
 obj:∀k o,w.heap[k]?=some o→datum o=true→k∉S→w'.heap[k]?=some o
theorem qY {w:World} {k:Nat} {o:Obj} (h:w.heap[k]?=some o):k<w.heap.size:=(Array.getElem?_eq_some_iff.1 h).1
theorem gF.refl (S:List Nat) (w:World):gF S w w:=⟨rfl,rfl,rfl,Nat.le_refl _,fun _ _ _=>rfl⟩
theorem gF.trans {S:List Nat} {a b c:World} (h:gF S a b) (k:gF S b c):gF S a c:=
 ⟨k.os.trans h.os,k.tape.trans h.tape,k.output.trans h.output,Nat.le_trans h.size k.size,fun i hi hs=>(k.block i (Nat.lt_of_lt_of_le hi h.size) hs).trans (h.block i hi hs)⟩
theorem gF.mono {S S':List Nat} {a b:World} (h:gF S a b) (hs:∀k∈S,k∈S'∨a.heap.size≤k):gF S' a b:=
 ⟨h.os,h.tape,h.output,h.size,fun k hk hn=>h.block k hk (fun hm=>by rcases hs k hm with h1|h1;exact hn h1;omega)⟩
theorem gF.of_below {a b:World} (h:Below a.heap.size a b):gF [] a b:=⟨h.os,h.tape,h.output,h.size,fun k hk _=>h.block k hk⟩
theorem gF.below {a b:World} (h:gF [] a b):Below a.heap.size a b:=⟨h.os,h.tape,h.output,h.size,fun k hk=>h.block k hk (by simp)⟩
theorem gF.keep {B:Nat} {S:List Nat} {a b:World} (h:gF S a b) (hB:B≤a.heap.size):Keep B S a b:=
 ⟨h.os,h.tape,h.output,h.size,fun k hk hs=>h.block k (by omega) hs,fun k o ho _ hs=>(h.block k (qY ho) hs).trans ho⟩
theorem gF.alloc {S:List Nat} {a b:World} (h:gF S a b) (o:Obj):gF S a (b.alloc o):=
 h.trans ⟨rfl,rfl,rfl,by simp,fun k hk _=>Below.heap_alloc _ _ _ hk⟩
theorem gF.setCell {S:List Nat} {a b:World} (h:gF S a b) {p:Addr} (hp:p.block∈S∨a.heap.size≤p.block) (u:Value):gF S a (b.setCell p u):=
 ⟨h.os,h.tape,h.output,by simpa [World.setCell] using h.size,fun k hk hs=>(Below.heap_setCell b p u k (fun e=>by subst e;rcases hp with h1|h1;exact hs h1;omega)).trans (h.block k hk hs)⟩
theorem gF.drew {S:List Nat} {a b:World} (h:gF S a b):gF S a b.drew:=⟨h.os,h.tape,h.output,h.size,h.block⟩
theorem gF.drewN {S:List Nat} {a b:World} (h:gF S a b) (n:Nat):gF S a (b.drewN n):=⟨h.os,h.tape,h.output,h.size,h.block⟩
theorem gF.same {S:List Nat} {a b:World} (h:gF S a b) {k:Nat} {o:Obj} (ho:a.heap[k]?=some o) (hs:k∉S):b.heap[k]?=some o:=(h.block k (qY ho) hs).trans ho
theorem gF.putObj {S:List Nat} {a b:World} (h:gF S a b) {r:Nat} (hr:r∈S∨a.heap.size≤r) (o:Obj):gF S a (b.putObj r o):=
 ⟨h.os,h.tape,h.output,by simpa using h.size,fun k hk hs=>(World.putObj_heap_other (fun e=>by subst e;rcases hr with h1|h1;exact hs h1;omega)).trans (h.block k hk hs)⟩
theorem Keep.refl (B:Nat) (S:List Nat) (w:World):Keep B S w w:=⟨rfl,rfl,rfl,Nat.le_refl _,fun _ _ _=>rfl,fun _ _ h _ _=>h⟩
theorem Keep.trans {B:Nat} {S:List Nat} {a b c:World} (h:Keep B S a b) (k:Keep B S b c):Keep B S a c:=
  ⟨k.os.trans h.os,k.tape.trans h.tape,k.output.trans h.output,Nat.le_trans h.size k.size,fun i hi hs=>(k.block i hi hs).trans (h.block i hi hs),
   fun i o ho hd hs=>k.obj i o (h.obj i o ho hd hs) hd hs⟩
theorem Keep.mono {B B':Nat} {S S':List Nat} {a b:World} (h:Keep B S a b) (hB:B'≤B) (hs:∀k∈S,k∈S'):Keep B' S' a b:=
 ⟨h.os,h.tape,h.output,h.size,fun k hk hn=>h.block k (by omega) (fun hm=>hn (hs k hm)),fun k o ho hd hn=>h.obj k o ho hd (fun hm=>hn (hs k hm))⟩
theorem Keep.putObj {B:Nat} {S:List Nat} (W:World) {r:Nat} {o:Obj} (o':Obj) (h:W.heap[r]?=some o) (hd:datum o=false) (hB:B≤r):Keep B S W (W.putObj r o'):=
 ⟨rfl,rfl,rfl,by simp,fun k hk _=>World.putObj_heap_other (by omega),fun k x hx RZ _=>by
  by_cases e:k=r
  ·subst e;rw [h] at hx;cases hx;rw [hd] at RZ;cases RZ
  ·exact (World.putObj_heap_other e).trans hx⟩
theorem Keep.below {B B':Nat} {S:List Nat} {a b:World} (h:Keep B S a b) (hB:B'≤B) (hs:∀k∈S,B'≤k):Below B' a b:=
 ⟨h.os,h.tape,h.output,h.size,fun k hk=>h.block k (by omega) (fun hm=>by have:=hs k hm;omega)⟩
theorem Keep.cell {B:Nat} {S:List Nat} {a b:World} (h:Keep B S a b) {p:Addr} {v:Value} (hc:a.cell? p=some v) (hs:p.block∉S):b.cell? p=some v:=by
 unfold World.cell? at hc⊢
 split at hc
 ·rename_i c e f hb
  rw [h.obj _ _ hb rfl hs];exact hc
 ·cases hc
theorem Keep.frozen {B:Nat} {S:List Nat} {a b:World} (h:Keep B S a b) {p:Addr} {v:Value} (hc:a.cell? p=some v) (hf:a.frozen? p=false) (hs:p.block∉S):b.frozen? p=false:=by
 unfold World.cell? at hc
 unfold World.frozen? at hf⊢
 split at hc
 ·rename_i c e f hb
  rw [h.obj _ _ hb rfl hs];rw [hb] at hf;exact hf
 ·cases hc
theorem Keep.ownsRow {B:Nat} {S:List Nat} {a b:World} (h:Keep B S a b) {base:Nat} {e:TypeId} {size:Nat} {v:Value} {n:Nat} {xs:List Value}
  (ho:a.ownsRow base e size v n xs) (hs:∀g,v.ownBlock=some g→g∉S):b.ownsRow base e size v n xs:=by
 refine ⟨ho.1,?_⟩
 rcases ho.2 with h1|⟨g,cap,cur,rfl,hb,hg,r⟩
 ·exact .inl h1
 ·exact .inr ⟨g,cap,cur,rfl,hb,h.obj g _ hg rfl (hs g rfl),r⟩
structure pF (T:World→Nat→Prop) (w w':World):Prop where
 os:w'.os=w.os
 tape:w'.tape=w.tape
 output:w'.output=w.output
 size:w.heap.size≤w'.heap.size
 block:∀k,k<w.heap.size→¬T w k→w'.heap[k]?=w.heap[k]?
 own:∀k,T w' k→T w k∨w.heap.size≤k
structure iM (T:World→Nat→Prop) (w w':World):Prop where
 size:w.heap.size≤w'.heap.size
 obj:∀k o,w.heap[k]?=some o→datum o=true→¬T w k→w'.heap[k]?=some o
 own:∀k,T w' k→T w k∨w.heap.size≤k
theorem iM.cell {T:World→Nat→Prop} {a b:World} (h:iM T a b) {p:Addr} {v:Value} (hc:a.cell? p=some v) (hs:¬T a p.block):b.cell? p=some v:=by
 unfold World.cell? at hc⊢
 split at hc
 ·rename_i c e f hb
  rw [h.obj _ _ hb rfl hs];exact hc
 ·cases hc
theorem iM.frozen {T:World→Nat→Prop} {a b:World} (h:iM T a b) {p:Addr} {v:Value} (hc:a.cell? p=some v) (hf:a.frozen? p=false) (hs:¬T a p.block):b.frozen? p=false:=by
 unfold World.cell? at hc
 unfold World.frozen? at hf⊢
 split at hc
 ·rename_i c e f hb
  rw [h.obj _ _ hb rfl hs];rw [hb] at hf;exact hf
 ·cases hc
theorem iM.not {T:World→Nat→Prop} {a b:World} (h:iM T a b) {k:Nat} (hk:k<a.heap.size) (hs:¬T a k):¬T b k:=fun ht=>by
 rcases h.own k ht with h1|h1
 ·exact hs h1
 ·omega
def Iter (P:Program) (gf:Nat) (lb:Array Value) (xs:List (Array Value)) (S:List Nat) (N:Nat→Prop) (w0:World):Prop:=
 ∀ (l : Nat) (J Jx : Nat → World → Prop) (T : World → Nat → Prop) (w1 : World), gF [] w0 w1 →
  (∀k W W',J k W→gF S W W'→J k W'∧∀b,T W' b→T W b)→(∀k W W',Jx k W→gF S W W'→Jx k W')→
  (∀k W b,J k W→T W b→b<W.heap.size)→(∀b,N b→¬T w1 b)→
  (∀ k (hk : k < xs.length) W, J k W → YieldAt Fence.wide 0 P l xs[k] W fun e W' => iM T W W' ∧
   ((e= .returned (.bool true)∧J (k+1) W')∨(e= .returned (.bool false)∧Jx (k+1) W')))→
  J 0 w1→CallsIn Fence.wide 0 P gf (#[.func (.yield l) #[] #[]]++lb) w1 fun e W'=>(∃v,e= .returned v)∧(J xs.length W'∨∃k,0<k∧k≤xs.length∧Jx k W')
def q8d (B:Nat) (S:List Nat) (T:World→Nat→Prop) (J:Nat→World→Prop) (Jx:Code→Nat→World→Prop) (k:Nat) (W0:World):Exit→Act→World→Prop
 | .normal,_,W=>pF T W0 W∧J k W
 | .ret,_,W=>pF T W0 W∧Jx .ret k W∧∀W4,Keep B S W W4→∀b,T W4 b→T W b
 | .exit id,_,W=>pF T W0 W∧Jx (.exit id) k W∧∀W4,Keep B S W W4→∀b,T W4 b→T W b
 | .goto t,_,W=>pF T W0 W∧Jx (.goto t) k W∧∀W4,Keep B S W W4→∀b,T W4 b→T W b
 | .panic _,_,_=>False
 | .outgrown,_,_=>False
section
variable {P:Program} {g:Operand} {ps:Array Tmp} {assign body:Code} {Q:Exit→Act→World→Prop} {a:Act} {w:World} {gf:Nat} {lb:Array Value} {xs:List (Array Value)} {S:List Nat} {N:Nat→Prop}
theorem qye {fn:FuncId} {l D:Nat} {W1:World} (hlD:l≠D) (hwl:w.heap.size≤l) (rec:LoopState→Option Code→Loop) (DO:Obj) (hD1:W1.heap[D]?=some DO) (hDd:datum DO=false)
  (hrec:rec=fun st pe=>{state:=st,pending:=pe,fn,tmps:=a.tmps,params:=ps,assign,body,defers:=D})
  (hL1:W1.heap[l]?=some (.loop (rec .ready none))) (hb1:gF [] w W1)
  (hit:Iter P gf lb xs S N w) (hps:∀x∈xs,x.size=ps.size) (hDS:D∉S)
  (hS:∀b∈S,b<w.heap.size)
  (T:World→Nat→Prop) (J:Nat→World→Prop) (Jx:Code→Nat→World→Prop)
  (hJ:∀k W W',J k W→Keep w.heap.size S W W'→J k W'∧∀b,T W' b→T W b)
  (hJx:∀c k W W',Jx c k W→Keep w.heap.size S W W'→Jx c k W')
  (hJ0:∀k W,J k W→w.heap.size≤W.heap.size) (hJx0:∀c k W,Jx c k W→w.heap.size≤W.heap.size)
  (hTd:∀k W b,J k W→T W b→∃o,W.heap[b]?=some o∧datum o=true) (hN:∀b,N b→¬T w b)
  (h0:J 0 w) (A:Nat→Act→World→Prop)
  (hA:∀k a' W W',A k a' W→Keep w.heap.size [] W W'→A k a' W')
  (hassign : ∀ (l k : Nat) (hk : k < xs.length) (W : World), J k W →
   assign.wpIn (Fence.wide.inRound l) 0 P (Exit.then (fun a' W'=>gF [] W W'∧A k a' W') (fun _ _ _=>False)) {tmps:=(ps.zip xs[k]).foldl (fun t (p,v)=>t.setIfInBounds p v) a.tmps,defers:=[]} W)
  (hbody:∀(l k:Nat) (a':Act) (W:World),k<xs.length→w.heap.size≤l→(∃r,W.heap[l]?=some (.loop r))→A k a' W→J k W→body.wpIn (Fence.wide.inRound l) 0 P (q8d w.heap.size S T J Jx (k+1) W) a' W)
  (R:Ending→World→Prop)
  (hdone:∀v W,J xs.length W→W.heap[l]?=some (.loop (rec .ready none))→W.heap[D]?=some DO→R (.returned v) W)
  (hstop:∀v c k W,0<k→k≤xs.length→Jx c k W→W.heap[l]?=some (.loop (rec .done (some c)))→W.heap[D]?=some DO→R (.returned v) W):
  CallsIn Fence.wide 0 P gf (#[.func (.yield l) #[] #[]]++lb) W1 R:=by
 have hlS:l∉S:=fun h=>by have:=hS _ h;omega
 have EL:∀k W r o,J k W→W.heap[r]?=some o→datum o=false→¬T W r:=fun k W r o hj ho hd ht=>by
  obtain ⟨o',h1,h2⟩:=hTd k W r hj ht
  rw [ho] at h1;cases h1;rw [hd] at h2;cases h2
 have hj1:=hJ 0 w W1 h0 ((hb1.mono (by simp)).keep (Nat.le_refl _))
 refine (hit l
  (fun k W=>J k W∧W.heap[l]?=some (.loop (rec .ready none))∧W.heap[D]?=some DO)
  (fun k W=>∃c,Jx c k W∧W.heap[l]?=some (.loop (rec .done (some c)))∧W.heap[D]?=some DO)
  T W1 hb1
  (fun k W W' hs hc => by
   have hj:=hJ k W W' hs.1 (hc.keep (hJ0 k W hs.1))
   exact ⟨⟨hj.1,hc.same hs.2.1 hlS,hc.same hs.2.2 hDS⟩,hj.2⟩)
  (fun k W W' hs hc => by
   obtain ⟨c,h1,h2,h3⟩:=hs
   exact ⟨c,hJx c k W W' h1 (hc.keep (hJx0 c k W h1)),hc.same h2 hlS,hc.same h3 hDS⟩)
  (fun k W b hs ht=>by obtain ⟨o,ho,_⟩:=hTd k W b hs.1 ht;exact qY ho)
  (fun b hb ht=>hN b hb (hj1.2 b ht))
  ?_ ⟨hj1.1,hL1,hD1⟩).mono ?_
 ·rintro k hk W ⟨hj,hl,hd⟩
  have hy:=run_yield (P:=P) (args:=xs[k]) hl (by rw [hrec];exact hps _ (List.getElem_mem hk))
  rw [hrec] at hy
  refine ⟨fn,_,assign,body,hy,roundIn_of_wpIn trivial (wpIn_mono (hassign l k hk W hj) ?_)⟩
  clear hy
  rintro e a' Wa hq
  cases e with
  | normal =>
   obtain ⟨hca,ha⟩:=hq
   replace hl:=hca.same hl (by simp)
   replace hd:=hca.same hd (by simp)
   have hlt:=qY hl
   refine ⟨_,run_beginRound hl (by rw [hrec]),?_⟩
   obtain ⟨W2,hW2⟩:∃W2,Wa.putObj l (.loop {rec .ready none with state:= .busy})=W2:=⟨_,rfl⟩
   rw [hW2]
   have hl2:W2.heap[l]?=some (.loop {rec .ready none with state:= .busy}):=by rw [←hW2];exact World.putObj_heap_same hlt
   have hd2:W2.heap[D]?=some DO:=by rw [←hW2];exact (World.putObj_heap_other (Ne.symm hlD)).trans hd
   have hk2:∀S',Keep w.heap.size S' Wa W2:=fun S'=>by rw [←hW2];exact Keep.putObj Wa _ hl rfl hwl
   have hja:=hJ k W Wa hj ((hca.mono (by simp)).keep (hJ0 k W hj))
   have hj2:=hJ k Wa W2 hja.1 (hk2 S)
   refine wpIn_mono (hbody l k a' W2 hk hwl ⟨_,hl2⟩ (hA _ _ _ _ ha (hk2 [])) hj2.1) ?_
   have fin:∀(jump:Option Code) (W3:World),pF T W2 W3→(∀W4,Keep w.heap.size S W3 W4→∀b,T W4 b→T W3 b)→
     (Instr.endRound l jump).run P W3= .ok (.bool jump.isNone) (W3.putObj l (.loop (rec (if jump.isNone then .ready else .done) jump)))∧
     (W3.putObj l (.loop (rec (if jump.isNone then .ready else .done) jump))).heap[l]?=some (.loop (rec (if jump.isNone then .ready else .done) jump))∧
     (W3.putObj l (.loop (rec (if jump.isNone then .ready else .done) jump))).heap[D]?=some DO∧
     (∀S',Keep w.heap.size S' W3 (W3.putObj l (.loop (rec (if jump.isNone then .ready else .done) jump))))∧
     iM T W (W3.putObj l (.loop (rec (if jump.isNone then .ready else .done) jump))):=fun jump W3 hk3 hst=>by
    have hl3:=(hk3.block l (qY hl2) (EL _ _ _ _ hj2.1 hl2 rfl)).trans hl2
    have hd3:=(hk3.block D (qY hd2) (EL _ _ _ _ hj2.1 hd2 hDd)).trans hd2
    have:=run_endRound (P:=P) jump hl3
    have hkp:∀S',Keep w.heap.size S' W3 (W3.putObj l (.loop (rec (if jump.isNone then .ready else .done) jump))):=fun S'=>Keep.putObj W3 _ hl3 rfl hwl
    refine ⟨?_,World.putObj_heap_same (qY hl3),(World.putObj_heap_other (Ne.symm hlD)).trans hd3,hkp,?_,?_,?_⟩
    ·rw [hrec] at this⊢;exact this
    ·have h1:=hca.size
     have h2:=(hk2 []).size
     have h3:=hk3.size
     simp;omega
    ·intro r o ho hdo hnt
     have h1:=hca.same ho (by simp)
     have h2:=(hk2 []).obj r o h1 hdo (by simp)
     have h3:=(hk3.block r (qY h2) (fun ht=>hnt (hja.2 _ (hj2.2 _ ht)))).trans h2
     exact (hkp []).obj r o h3 hdo (by simp)
    ·intro r hr
     rcases hk3.own r (hst _ (hkp S) r hr) with h1|h1
     ·exact .inl (hja.2 _ (hj2.2 _ h1))
     ·exact .inr (by have h1:=hca.size;have h2:=(hk2 []).size;omega)
   rintro e a3 W3 hp
   cases e with
   |normal=>
    obtain ⟨hk3,hi3⟩:=hp
    obtain ⟨hr,hl4,hd4,hkp,hkk⟩:=fin none W3 hk3 (fun W4 h4=>(hJ _ _ _ hi3 h4).2)
    exact ⟨_,_,hr,hkk,.inl ⟨rfl,(hJ _ _ _ hi3 (hkp S)).1,hl4,hd4⟩⟩
   |ret=>
    obtain ⟨hk3,hi3,hst⟩:=hp
    obtain ⟨hr,hl4,hd4,hkp,hkk⟩:=fin (some .ret) W3 hk3 hst
    exact ⟨_,_,hr,hkk,.inr ⟨rfl,.ret,hJx _ _ _ _ hi3 (hkp S),hl4,hd4⟩⟩
   |exit id=>
    obtain ⟨hk3,hi3,hst⟩:=hp
    obtain ⟨hr,hl4,hd4,hkp,hkk⟩:=fin (some (.exit id)) W3 hk3 hst
    exact ⟨_,_,hr,hkk,.inr ⟨rfl,.exit id,hJx _ _ _ _ hi3 (hkp S),hl4,hd4⟩⟩
   |goto t=>
    obtain ⟨hk3,hi3,hst⟩:=hp
    obtain ⟨hr,hl4,hd4,hkp,hkk⟩:=fin (some (.goto t)) W3 hk3 hst
    exact ⟨_,_,hr,hkk,.inr ⟨rfl,.goto t,hJx _ _ _ _ hi3 (hkp S),hl4,hd4⟩⟩
   |panic ch=>exact hp.elim
   |outgrown=>exact hp.elim
  |exit id=>exact hq.elim
  |goto t=>exact hq.elim
  |ret=>exact hq.elim
  |panic ch=>exact hq.elim
  |outgrown=>exact hq.elim
 ·rintro e W2 ⟨⟨v,rfl⟩,(⟨hj,hl,hd⟩|⟨k,hk0,hk,c,hj,hl,hd⟩)⟩
  ·exact hdone v W2 hj hl hd
  ·exact hstop v c k W2 hk0 hk hj hl hd
theorem q4v (hg:a.eval g= .func (.func gf) #[] lb) (eg:∀args w,(callFunc gf args).run P w= .ok (.enter gf args) w)
  (hit:Iter P gf lb xs S N w) (hps:∀x∈xs,x.size=ps.size)
  (hS:∀b∈S,b<w.heap.size)
  (T:World→Nat→Prop) (J:Nat→World→Prop) (Jx:Code→Nat→World→Prop)
  (hJ:∀k W W',J k W→Keep w.heap.size S W W'→J k W'∧∀b,T W' b→T W b)
  (hJx:∀c k W W',Jx c k W→Keep w.heap.size S W W'→Jx c k W')
  (hJ0:∀k W,J k W→w.heap.size≤W.heap.size) (hJx0:∀c k W,Jx c k W→w.heap.size≤W.heap.size)
  (hTd:∀k W b,J k W→T W b→∃o,W.heap[b]?=some o∧datum o=true) (hN:∀b,N b→¬T w b)
  (h0:J 0 w) (A:Nat→Act→World→Prop)
  (hA:∀k a' W W',A k a' W→Keep w.heap.size [] W W'→A k a' W')
  (hassign : ∀ (l k : Nat) (hk : k < xs.length) (W : World), J k W →
   assign.wpIn (Fence.wide.inRound l) 0 P (Exit.then (fun a' W'=>gF [] W W'∧A k a' W') (fun _ _ _=>False)) {tmps:=(ps.zip xs[k]).foldl (fun t (p,v)=>t.setIfInBounds p v) a.tmps,defers:=[]} W)
  (hbody:∀(l k:Nat) (a':Act) (W:World),k<xs.length→w.heap.size≤l→(∃r,W.heap[l]?=some (.loop r))→A k a' W→J k W→body.wpIn (Fence.wide.inRound l) 0 P (q8d w.heap.size S T J Jx (k+1) W) a' W)
  (hdone:∀D W,w.heap.size≤D→J xs.length W→W.heap[D]?=some (.deferred (some []))→Q .normal {a with defers:={target:= .collected D,args:= #[]}::a.defers} W)
  (hstop:∀D c k W,w.heap.size≤D→0<k→k≤xs.length→Jx c k W→W.heap[D]?=some (.deferred (some []))→c.wpIn Fence.wide 0 P Q {a with defers:={target:= .collected D,args:= #[]}::a.defers} W):
  (Code.rangeFunc g ps assign body).wpIn Fence.wide 0 P Q a w:=by
 refine wpIn_rangeFunc ?_
 intro fn _
 show ∃l mark w₁ d w₁' f args w₂,(Instr.enterLoop fn a.tmps ps assign body none).run P w= .ok (l,mark) w₁∧_
 obtain ⟨rec,hrec⟩:∃rec:LoopState→Option Code→Loop,rec=fun st pe=>{state:=st,pending:=pe,fn,tmps:=a.tmps,params:=ps,assign,body,defers:=w.heap.size}:=⟨_,rfl⟩
 obtain ⟨W1,hW1⟩:∃W1,(w.alloc (.deferred (some []))).alloc (.loop (rec .ready none))=W1:=⟨_,rfl⟩
 have hL1:W1.heap[w.heap.size+1]?=some (.loop (rec .ready none)):=by
  rw [←hW1];have:=World.alloc_heap_new (w.alloc (.deferred (some []))) (.loop (rec .ready none));rwa [World.size_alloc] at this
 have hK1:W1.heap[w.heap.size]?=some (.deferred (some [])):=by
  rw [←hW1];exact (Below.heap_alloc _ _ _ (by simp)).trans (World.alloc_heap_new w _)
 have hb1:gF [] w W1:=by rw [←hW1];exact ((gF.refl [] w).alloc _).alloc _
 refine ⟨w.heap.size+1,[{target:= .collected w.heap.size,args:= #[]}],W1,{target:= .fn (.func gf) lb,args:= #[.func (.yield (w.heap.size+1)) #[] #[]]},W1,gf,
  #[.func (.yield (w.heap.size+1)) #[] #[]]++lb,W1,?_,?_,fun _ _=>trivial,?_,fun h=>by simp [Fence.wide] at h,?_⟩
 ·rw [←hW1,hrec];exact run_enterLoop_outer _ _ _ _ _
 ·simp only [resolve,hg]
  simp [go_sem]
 ·simp [invoke,go_sem,eg]
 ·refine qye (w:=w) (a:=a) (S:=S) (fn:=fn) (l:=w.heap.size+1) (D:=w.heap.size) (by omega) (by omega) rec _ hK1 rfl hrec hL1 hb1 hit hps (fun h=>by have:=hS _ h;omega) hS T J Jx hJ hJx hJ0 hJx0 hTd hN h0 A hA hassign hbody _ ?_ ?_
  ·intro v W hj hl hd
   exact ⟨none,_,by have:=run_endLoop (P:=P) hl (by rw [hrec];simp);rw [hrec] at this;exact this,hdone _ _ (Nat.le_refl _) (hJ _ _ _ hj (Keep.putObj W _ hl rfl (by omega))).1 ((World.putObj_heap_other (by omega)).trans hd)⟩
  ·intro v c k W hk0 hk hj hl hd
   exact ⟨some c,_,by have:=run_endLoop (P:=P) hl (by rw [hrec];simp);rw [hrec] at this;exact this,hstop _ c k _ (Nat.le_refl _) hk0 hk (hJx _ _ _ _ hj (Keep.putObj W _ hl rfl (by omega))) ((World.putObj_heap_other (by omega)).trans hd)⟩
end
end Go.Proofs.YtekiimhdnigmcaaGreatDoor
