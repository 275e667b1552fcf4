/- A part of the proof. -/
import Derived.Test.YtekiimhdnigmcaaGreatDoorQtRange
import Derived.Maps.AppendAt
import Derived.OwnWalkIn
import Derived.Deep.AppendLies
namespace Go.Proofs.YtekiimhdnigmcaaGreatDoor
open Go.RowKit
theorem add_block (a:Addr) (n:Nat):(a.add n).block=a.block:=by unfold Addr.add;split<;>rfl
theorem UQ (a:Addr) (i j:Nat):(a.add i).add j=a.add (i+j):=by
 unfold Addr.add
 by_cases hi:i=0<;>by_cases hj:j=0<;>simp [hi,hj,Nat.add_assoc]
structure Rd (w:World) (B size:Nat) (A:Option Addr) (n:Nat) (xs:List Value):Prop where
 len:xs.length=n*size
 row:0<n→∃ad,A=some ad∧ad.block<B∧∀j u,xs[j]?=some u→w.cell? (ad.add j)=some u
section
variable {w w':World} {B B' size n:Nat} {A:Option Addr} {xs:List Value}
theorem Rd.nil:Rd w B size A 0 []:=⟨by simp,fun h=>by omega⟩
theorem Rd.uH (h:Rd w B size A n xs) (hk:∀p:Addr,p.block<B→w'.cell? p=w.cell? p):Rd w' B size A n xs:=
 ⟨h.len,fun hn=>by
  obtain ⟨ad,e,hb,hc⟩:=h.row hn
  exact ⟨ad,e,hb,fun j u hu=>(hk _ (by rw [add_block];exact hb)).trans (hc j u hu)⟩⟩
theorem Rd.more (h:Rd w B size A n xs) (hB:B≤B'):Rd w B' size A n xs:=
 ⟨h.len,fun hn=>by
  obtain ⟨ad,e,hb,hc⟩:=h.row hn
  exact ⟨ad,e,by omega,hc⟩⟩
theorem Rd.below (h:Rd w B size A n xs) (hb:Below B w w'):Rd w' B size A n xs:=h.uH fun _ hp=>hb.cell hp
theorem Rd.drew (h:Rd w B size A n xs):Rd w.drew B size A n xs:=⟨h.len,h.row⟩
theorem Rd.drewN (h:Rd w B size A n xs) (k:Nat):Rd (w.drewN k) B size A n xs:=⟨h.len,h.row⟩
theorem Rd.alloc (h:Rd w B size A n xs) (hB:B≤w.heap.size) (o:Obj):Rd (w.alloc o) B size A n xs:=h.uH fun p hp=>World.cell?_alloc_lt w o p (by omega)
theorem Rd.setCell (h:Rd w B size A n xs) {p:Addr} (hB:B≤p.block) (u:Value):Rd (w.setCell p u) B size A n xs:=
 h.uH fun q hq=>World.cell?_setCell_other w p q u (fun e=>by subst e;omega)
theorem Rd.grown (h:Rd w B size A n xs) {row:Option Nat} (hg:w.grownBy w' row) (hB:B≤w.heap.size) (hr:∀g,row=some g→B≤g):Rd w' B size A n xs:=
 h.uH fun p hp=>World.cell?_of_block (hg.block p.block (by omega) (fun e=>by have:=hr _ e.symm;omega))
theorem Rd.keep {B0:Nat} {S:List Nat} (h:Rd w B size A n xs) (hk:Keep B0 S w w') (hS:∀g∈S,B≤g):Rd w' B size A n xs:=
 ⟨h.len,fun hn=>by
  obtain ⟨ad,e,hb,hc⟩:=h.row hn
  exact ⟨ad,e,hb,fun j u hu=>hk.cell (hc j u hu) (fun hm=>by have:=hS _ hm;rw [add_block] at this;omega)⟩⟩
theorem Rd.from (h:Rd w B size A n xs) {k cap:Nat} (hk:k≤n) (hc:n≤cap):
  Rd w B size (if cap=k then A else A.map (·.add (k*size))) (n-k) (xs.drop (k*size)):=by
 refine ⟨by rw [List.length_drop,h.len,Nat.sub_mul],fun hn=>?_⟩
 obtain ⟨ad,rfl,hb,hcell⟩:=h.row (by omega)
 rw [if_neg (by omega)]
 refine ⟨ad.add (k*size),rfl,by rw [add_block];exact hb,fun j u hu=>?_⟩
 rw [UQ]
 exact hcell _ u (by rw [←hu,List.getElem?_drop])
theorem Rd.upto (h:Rd w B size A n xs) {k:Nat} (hk:k≤n):Rd w B size A k (xs.take (k*size)):=by
 refine ⟨by rw [List.length_take,h.len];exact Nat.min_eq_left (Nat.mul_le_mul_right _ hk),fun hn=>?_⟩
 obtain ⟨ad,rfl,hb,hcell⟩:=h.row (by omega)
 refine ⟨ad,rfl,hb,fun j u hu=>hcell j u ?_⟩
 rw [List.getElem?_take] at hu
 split at hu
 ·exact hu
 ·cases hu
theorem Rd.zfa {base:Nat} {e:TypeId} {v:Value} {c:Nat} (h:w.ownsRow base e size v n xs) (hv:v= .slice A n c):Rd w w.heap.size size A n xs:=by
 subst hv
 refine ⟨h.1,fun hn=>?_⟩
 rcases h.2 with ⟨he,h0⟩|⟨g,cap,cur,he,hb,hg,_,_,_,ht⟩
 ·omega
 ·injection he with h1 h2 h3
  subst h1
  refine ⟨_,rfl,qY hg,fun j u hu=>?_⟩
  exact h.cells (g:=g) rfl j u hu
theorem Rd.at {k:Nat} (h:Rd w B 1 A n xs) (hk:k<n):∃ad,A=some ad∧ad.block<B∧∃hl:k<xs.length,w.cell? (ad.add k)=some xs[k]:=by
 obtain ⟨ad,e,hb,hc⟩:=h.row (by omega)
 have hl:k<xs.length:=by have:=h.len;omega
 exact ⟨ad,e,hb,hl,hc k _ (List.getElem?_eq_getElem hl)⟩
end
def B8 (b:Nat):Value:= .int .u8 (b:Int)
def aR (x:Nat):Value:= .int .u64 (x:Int)
theorem R3 {w:World} {base base':Nat} {e:TypeId} {size:Nat} {v:Value} {n:Nat} {xs:List Value} (h:w.ownsRow base e size v n xs) (hb:base'≤base):w.ownsRow base' e size v n xs:=by
 refine ⟨h.1,?_⟩
 rcases h.2 with h1|⟨g,cap,cur,h1,h2,h3⟩
 ·exact .inl h1
 ·exact .inr ⟨g,cap,cur,h1,by omega,h3⟩
structure EI (P:Program) (t e:TypeId) (z:Value) (size bytes:Nat):Prop where
 ht:P.underlying t=some (.slice e)
 hi:(P.info? e).map (fun i=>(i.zero,i.size,i.bytes))=some (some z,size,bytes)
 hz:z.cells.size=size
 hs:0<size
section
variable {P:Program} {w:World} {base:Nat} {t e:TypeId} {z:Value} {size bytes:Nat}
theorem qkn (ei:EI P t e z size bytes) (ty:TypeId) {v:Value} {n:Nat} {xs:List Value} (hown:w.ownsRow base e size v n xs) (c:Nat):(Builtin.append_ #[t,t] ty #[v,.slice none 0 c]).run P w= .ok v w:=by
 obtain ⟨i,hi,_⟩:=info_parts ei.hi
 rcases hown.2 with ⟨rfl,rfl⟩|⟨g,cap,cur,rfl,_,_,hnc,_⟩
 ·simp [Builtin.append_,run_underlying ei.ht,sizeOf,typeInfo,hi,Builtin.lenOf,Builtin.firstCells]
 ·simp [Builtin.append_,run_underlying ei.ht,sizeOf,typeInfo,hi,Builtin.lenOf,Builtin.firstCells,hnc,storeCells]
theorem qky (ei:EI P t e z size bytes) (ty:TypeId) {v:Value} {n:Nat} {xs:List Value} (hown:w.ownsRow base e size v n xs)
  {B:Nat} {A:Option Addr} {m c:Nat} {news:List Value} (hr:Rd w B size A m news) (h1:∀u∈news,u.oneCell'=true)
  (hbytes:(n+m)*bytes≤140737488355328) (h63:n+m≤9223372036854775807) (hbase:base≤w.heap.size):
  ∃A' c' w',(Builtin.append_ #[t,t] ty #[v,.slice A m c]).run P w= .ok (.slice A' (n+m) c') w'∧w'.ownsRow base e size (.slice A' (n+m) c') (n+m) (xs++news)∧w.grownBy w' v.ownBlock∧
   ((Value.slice A' (n+m) c').ownBlock=v.ownBlock∨(Value.slice A' (n+m) c').ownBlock=some w.heap.size):=by
 obtain ⟨i,hi,hz,hsz,hby⟩:=info_parts ei.hi
 rcases A with _|ad
 ·have hm:m=0:=by
   rcases Nat.eq_zero_or_pos m with h0|h0
   ·exact h0
   ·obtain ⟨ad,h,_⟩:=hr.row h0
    cases h
  subst hm
  have hn:news=[]:=List.eq_nil_of_length_eq_zero (by simpa using hr.len)
  subst hn
  obtain ⟨A',c',rfl⟩:∃A c,v= .slice A n c:=by
   rcases hown.2 with ⟨rfl,rfl⟩|⟨g,cap,cur,rfl,_⟩<;>exact ⟨_,_,rfl⟩
  exact ⟨A',c',w,qkn ei ty hown c,by simpa using hown,World.grownBy.refl w _,.inl rfl⟩
 ·have hcells:∀j u,news[j]?=some u→w.cell? (ad.add j)=some u:=by
   intro j u hu
   rcases Nat.eq_zero_or_pos m with h0|h0
   ·subst h0
    have hn:news=[]:=List.eq_nil_of_length_eq_zero (by simpa using hr.len)
    subst hn
    simp at hu
   ·obtain ⟨ad',h,_,hc⟩:=hr.row h0
    injection h with h
    subst h
    exact hc j u hu
  obtain ⟨v',w',hrun,h2,h3,_,h5⟩:=run_append_own_at (P:=P) w base t ty e i z size bytes ei.ht hi hz hsz hby ei.hz ei.hs v n xs hown ad m c news hr.len hcells h1 (by unfold maxLen;exact h63) hbytes hbase
  obtain ⟨A',c',rfl⟩:∃A c,v'= .slice A (n+m) c:=by
   rcases h2.2 with ⟨rfl,h0⟩|⟨g,cap,cur,rfl,_⟩
   ·rw [h0];exact ⟨_,_,rfl⟩
   ·exact ⟨_,_,rfl⟩
  exact ⟨A',c',w',hrun,h2,h3,h5⟩
theorem qof {o:Oper} {a:Act} {K:Act→World→Prop} {Q:Exit→Act→World→Prop} {s x:Operand}
  (ho:o.op= .call {callee:= .builtin .append,args:= #[s,x],argTypes:= #[t,t]}) (ei:EI P t e z size bytes)
  {v:Value} {n:Nat} {xs:List Value} (hown:w.ownsRow base e size v n xs) (hs:a.eval s=v)
  {B:Nat} {A:Option Addr} {m c:Nat} {news:List Value} (hr:Rd w B size A m news) (hx:a.eval x= .slice A m c) (h1:∀u∈news,u.oneCell'=true)
  (hbytes:(n+m)*bytes≤140737488355328) (h63:n+m≤9223372036854775807) (hbase:base≤w.heap.size)
  (h:∀A' c' w',w'.ownsRow base e size (.slice A' (n+m) c') (n+m) (xs++news)→w.grownBy w' v.ownBlock→((Value.slice A' (n+m) c').ownBlock=v.ownBlock∨(Value.slice A' (n+m) c').ownBlock=some w.heap.size)→K (a.put o.dst (.slice A' (n+m) c')) w'):o.wp P a w K Q:=by
 obtain ⟨A',c',w',hrun,h2,h3,h4⟩:=qky (P:=P) ei o.type hown hr h1 (c:=c) hbytes h63 hbase
 unfold Oper.wp execOp
 simp only [ho,resolve,invoke,builtin,Sem.run_bind,Sem.run_pure,Result.andThen_ok,List.map_toArray,List.map_cons,List.map_nil,hs,hx,hrun]
 exact h A' c' w' h2 h3 h4
theorem R4 {ops:Array Oper} {rest:List Oper} {o:Oper} {a:Act} {Q:Exit→Act→World→Prop} {s x:Operand} (hgd:o.guard=none)
  (ho:o.op= .call {callee:= .builtin .append,args:= #[s,x],argTypes:= #[t,t]}) (ei:EI P t e z size bytes)
  {v:Value} {n:Nat} {xs:List Value} (hown:w.ownsRow base e size v n xs) (hs:a.eval s=v)
  {B:Nat} {A:Option Addr} {m c:Nat} {news:List Value} (hr:Rd w B size A m news) (hx:a.eval x= .slice A m c) (h1:∀u∈news,u.oneCell'=true)
  (hbytes:(n+m)*bytes≤140737488355328) (h63:n+m≤9223372036854775807) (hbase:base≤w.heap.size)
  (h:∀A' c' w',w'.ownsRow base e size (.slice A' (n+m) c') (n+m) (xs++news)→w.grownBy w' v.ownBlock→((Value.slice A' (n+m) c').ownBlock=v.ownBlock∨(Value.slice A' (n+m) c').ownBlock=some w.heap.size)→wpList P ops Q rest (a.put o.dst (.slice A' (n+m) c')) w'):
  wpList P ops Q (o::rest) a w:=
 wpList_plain hgd fun _ hK=>qof ho ei hown hs hr hx h1 hbytes h63 hbase fun A' c' w' h2 h3 h4=>hK _ _ (h A' c' w' h2 h3 h4)
theorem qyf {F:Fence} {fn:Nat} {ops:Array Oper} {rest:List Oper} {o:Oper} {a:Act} {Q:Exit→Act→World→Prop} {s x:Operand} (hgd:o.guard=none)
  (ho:o.op= .call {callee:= .builtin .append,args:= #[s,x],argTypes:= #[t,t]}) (ei:EI P t e z size bytes)
  {v:Value} {n:Nat} {xs:List Value} (hown:w.ownsRow base e size v n xs) (hs:a.eval s=v)
  {B:Nat} {A:Option Addr} {m c:Nat} {news:List Value} (hr:Rd w B size A m news) (hx:a.eval x= .slice A m c) (h1:∀u∈news,u.oneCell'=true)
  (hbytes:(n+m)*bytes≤140737488355328) (h63:n+m≤9223372036854775807) (hbase:base≤w.heap.size)
  (h:∀A' c' w',w'.ownsRow base e size (.slice A' (n+m) c') (n+m) (xs++news)→w.grownBy w' v.ownBlock→((Value.slice A' (n+m) c').ownBlock=v.ownBlock∨(Value.slice A' (n+m) c').ownBlock=some w.heap.size)→wpListIn F fn P ops Q rest (a.put o.dst (.slice A' (n+m) c')) w'):
  wpListIn F fn P ops Q (o::rest) a w:=by
 refine wpListIn_plain hgd fun K hK'=>?_
 obtain ⟨A',c',w',hrun,r1,r2,r3⟩:=qky (P:=P) ei o.type hown hr h1 (c:=c) hbytes h63 hbase
 unfold Oper.wpIn
 refine ⟨?_,?_⟩
 ·simp [Oper.about,ho,resolve,Target.leads,Sem.run_pure]
 ·rw [Oper.semAt_plain F _ _ (by rw [ho];intro c hc';cases hc')]
  simp [execOp,ho,resolve,invoke,builtin,hs,hx,hrun,Result.andThen]
  exact hK' _ _ (h A' c' w' r1 r2 r3)
end
theorem Rd.one (w:World) (x:Value) (e:TypeId):Rd (w.alloc (.cells #[x] e)) (w.heap.size+1) 1 (some ⟨w.heap.size,0,none⟩) 1 [x]:=
 ⟨rfl,fun _=>⟨_,rfl,by simp,fun j u hu=>cell_one_new w x e j u hu⟩⟩
structure bY (bx:Nat) (t:TypeId) (base:Nat) (e:TypeId) (size:Nat) (G:Nat→Prop) (n:Nat) (xs:List Value) (W:World) (v:Value):Prop where
 box:W.heap[bx]?=some (.cells #[v] t (0,0))
 row:W.ownsRow base e size v n xs
 good:∀g,v.ownBlock=some g→G g
def xK (bx:Nat) (t:TypeId) (W:World) (b:Nat):Prop:=b=bx∨∃v,W.heap[bx]?=some (.cells #[v] t (0,0))∧v.ownBlock=some b
section
variable {bx:Nat} {t:TypeId} {base:Nat} {e:TypeId} {size:Nat} {G:Nat→Prop} {n:Nat} {xs:List Value} {W W':World} {v:Value}
theorem bY.cell (h:bY bx t base e size G n xs W v):W.cell? ⟨bx,0,none⟩=some v:=by simp [World.cell?,h.box]
theorem bY.frozen (h:bY bx t base e size G n xs W v):W.frozen? ⟨bx,0,none⟩=false:=by simp [World.frozen?,h.box]
theorem bY.lt (h:bY bx t base e size G n xs W v):bx<W.heap.size:=qY h.box
theorem bY.keep {B:Nat} {S:List Nat} (h:bY bx t base e size G n xs W v) (hk:Keep B S W W') (hbx:bx∉S) (hG:∀g,G g→g∉S):bY bx t base e size G n xs W' v:=
 ⟨hk.obj _ _ h.box rfl hbx,hk.ownsRow h.row (fun g hg=>hG g (h.good g hg)),h.good⟩
theorem bY.Mq {B:Nat} {S:List Nat} (h:bY bx t base e size G n xs W v) (hk:Keep B S W W') (hbx:bx∉S):∀b,xK bx t W' b→xK bx t W b:=fun b hb=>by
 rcases hb with hb|⟨u,hu,hub⟩
 ·exact .inl hb
 ·rw [hk.obj _ _ h.box rfl hbx] at hu;exact .inr ⟨u,by rw [h.box];exact hu,hub⟩
theorem bY.GQ (h:bY bx t base e size G n xs W v):∀b,xK bx t W b→∃o,W.heap[b]?=some o∧datum o=true:=fun b hb=>by
 rcases hb with rfl|⟨u,hu,hub⟩
 ·exact ⟨_,h.box,rfl⟩
 ·rw [h.box] at hu;cases hu
  rcases h.row.2 with ⟨rfl,_⟩|⟨g,cap,cur,rfl,_,hg,_⟩
  ·cases hub
  ·cases hub;exact ⟨_,hg,rfl⟩
theorem bY.EM (h:bY bx t base e size G n xs W v):∀b,xK bx t W b↔b=bx∨v.ownBlock=some b:=fun b=>by
 constructor
 ·rintro (rfl|⟨u,hu,hub⟩)
  ·exact .inl rfl
  ·rw [h.box] at hu;cases hu;exact .inr hub
 ·rintro (rfl|hv)
  ·exact .inl rfl
  ·exact .inr ⟨v,h.box,hv⟩
theorem bY.later {w0 w1:World} (h:bY bx t base e size G n xs W v) (h0:gF [] W w0) (hg:w0.grownBy w1 v.ownBlock) (hbx:v.ownBlock≠some bx):w1.cell? ⟨bx,0,none⟩=some v∧w1.frozen? ⟨bx,0,none⟩=false:=by
 have hb0:w0.heap[bx]?=some (.cells #[v] t (0,0)):=h0.same h.box (by simp)
 have hb1:w1.heap[bx]?=some (.cells #[v] t (0,0)):=(hg.block bx (qY hb0) (fun e=>hbx e.symm)).trans hb0
 exact ⟨by simp [World.cell?,hb1],by simp [World.frozen?,hb1]⟩
theorem bY.store {A':Option Addr} {m c':Nat} {ys:List Value} {w0 w1:World} (h:bY bx t base e size G n xs W v) (h0:gF [] W w0) (hg:w0.grownBy w1 v.ownBlock) (hbx:v.ownBlock≠some bx)
  (hown:w1.ownsRow base e size (.slice A' m c') m ys) (hb:(Value.slice A' m c').ownBlock=v.ownBlock∨(Value.slice A' m c').ownBlock=some w0.heap.size)
  (hGn:∀g,W.heap.size≤g→G g):
  bY bx t base e size G m ys (w1.setCell ⟨bx,0,none⟩ (.slice A' m c')) (.slice A' m c')∧pF (xK bx t) W (w1.setCell ⟨bx,0,none⟩ (.slice A' m c')):=by
 have hlt:=h.lt
 have h0s:=h0.size
 have hb0:w0.heap[bx]?=some (.cells #[v] t (0,0)):=h0.same h.box (by simp)
 have hb1:w1.heap[bx]?=some (.cells #[v] t (0,0)):=(hg.block bx (qY hb0) (fun e=>hbx e.symm)).trans hb0
 have hne:(Value.slice A' m c').ownBlock≠some bx:=by
  rcases hb with h1|h1<;>rw [h1]
  ·exact hbx
  ·intro he;injection he with he;omega
 have Da:(w1.setCell ⟨bx,0,none⟩ (.slice A' m c')).heap[bx]?=some (.cells #[.slice A' m c'] t (0,0)):=by
  simp [World.setCell,Array.getElem?_modify,hb1]
 refine ⟨⟨Da,?_,?_⟩,⟨hg.os.trans h0.os,hg.tape.trans h0.tape,hg.output.trans h0.output,?_,?_,?_⟩⟩
 ·refine ⟨hown.1,?_⟩
  rcases hown.2 with h1|⟨g,cap,cur,hv,hb',hgg,r⟩
  ·exact .inl h1
  ·refine .inr ⟨g,cap,cur,hv,hb',?_,r⟩
   rw [Below.heap_setCell _ _ _ _ (fun e=>hne (by rw [hv,e];rfl))];exact hgg
 ·intro g hgb
  rcases hb with h1|h1
  ·rw [h1] at hgb;exact h.good g hgb
  ·rw [h1] at hgb;injection hgb with hgb;exact hGn g (by omega)
 ·have:=hg.size;simp [World.setCell];omega
 ·intro k hk hT
  have hk1:k≠bx:=fun e=>hT (.inl e)
  have hk2:some k≠v.ownBlock:=fun e=>hT (.inr ⟨v,h.box,e.symm⟩)
  rw [Below.heap_setCell _ _ _ _ hk1,hg.block k (by omega) hk2,h0.block k hk (by simp)]
 ·rintro k (rfl|⟨u,hu,Mr⟩)
  ·exact .inl (.inl rfl)
  ·rw [Da] at hu
   cases hu
   rcases hb with h1|h1
   ·rw [h1] at Mr;exact .inl (.inr ⟨v,h.box,Mr⟩)
   ·rw [h1] at Mr;injection Mr with Mr;exact .inr (by omega)
end
theorem pF.grown {T:World→Nat→Prop} {w a b:World} {row:Option Nat} (h:pF T a b) (hg:w.grownBy a row) (hT:∀k,T a k→k<w.heap.size→row=some k∨False):w.grownBy b row:=
 ⟨h.os.trans hg.os,h.tape.trans hg.tape,h.output.trans hg.output,Nat.le_trans hg.size h.size,fun k hk hn=>(h.block k (Nat.lt_of_lt_of_le hk hg.size) (fun ht=>by rcases hT k ht hk with h1|h1;exact hn h1.symm;exact h1)).trans (hg.block k hk hn)⟩
theorem pF.refl (T:World→Nat→Prop) (w:World):pF T w w:=⟨rfl,rfl,rfl,Nat.le_refl _,fun _ _ _=>rfl,fun _ h=> .inl h⟩
theorem Keep.grown {w a b:World} {B:Nat} {S:List Nat} {row:Option Nat} (hg:w.grownBy a row) (hk:Keep B S a b) (hB:w.heap.size≤B) (hS:∀g∈S,w.heap.size≤g):w.grownBy b row:=
 ⟨hk.os.trans hg.os,hk.tape.trans hg.tape,hk.output.trans hg.output,Nat.le_trans hg.size hk.size,fun k hk' hn=>(hk.block k (by omega) (fun hm=>by have:=hS k hm;omega)).trans (hg.block k hk' hn)⟩
theorem R5 {α:Type} {l:List α} {k:Nat} {u:α} (f:α→Value) (h:l[k]?=some u):(l.take k).map f++[f u]=(l.take (k+1)).map f:=by
 rw [List.take_add_one,h];simp
theorem R6 {α:Type} {l:List α} {k:Nat} {x:α} {r:List α} (h:l.drop k=x::r):∃hk:k<l.length,l[k]=x∧l.drop (k+1)=r:=by
 have hk:k<l.length:=by
  rcases Nat.lt_or_ge k l.length with h1|h1
  ·exact h1
  ·rw [List.drop_eq_nil_of_le h1] at h;cases h
 rw [List.drop_eq_getElem_cons hk] at h
 injection h with h1 h2
 exact ⟨hk,h1,h2⟩
theorem qko {α β:Type} {l:List α} {k:Nat} (f:α→List β) (h:k<l.length):(l.take k).flatMap f++f l[k]=(l.take (k+1)).flatMap f:=by
 rw [List.take_succ_eq_append_getElem h,List.flatMap_append,List.flatMap_cons,List.flatMap_nil,List.append_nil]
theorem qtr {w:World} {base:Nat} {e:TypeId} {size:Nat} {v:Value} {n:Nat} {xs:List Value} (h:w.ownsRow base e size v n xs):∃A c,v= .slice A n c:=by
 rcases h.2 with ⟨rfl,rfl⟩|⟨g,cap,cur,rfl,_⟩
 ·exact ⟨_,_,rfl⟩
 ·exact ⟨_,_,rfl⟩
theorem below_drewN {B:Nat} {a w:World} (h:Below B a w) (n:Nat):Below B a (w.drewN n):=⟨h.os,h.tape,h.output,h.size,h.block⟩
theorem own_drewN {w:World} {base:Nat} {e:TypeId} {size:Nat} {v:Value} {n:Nat} {xs:List Value} (h:w.ownsRow base e size v n xs) (m:Nat):(w.drewN m).ownsRow base e size v n xs:=h
end Go.Proofs.YtekiimhdnigmcaaGreatDoor
