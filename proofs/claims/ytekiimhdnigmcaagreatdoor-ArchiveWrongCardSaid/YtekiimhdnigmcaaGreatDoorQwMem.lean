/- A part of the proof. -/
import Derived.Test.YtekiimhdnigmcaaGreatDoorQwRange
import Derived.Maps.AppendAt
import Derived.OwnWalkIn
import Derived.Deep.AppendLies
set_option linter.all false
namespace Go.Proofs.YtekiimhdnigmcaaGreatDoor
open Go.RowKit
open Nat renaming eq_zero_or_pos→acn,le_trans→acS
open _root_.List renaming eq_nil_of_length_eq_zero→ac6
open Builtin renaming append_→ac7,lenOf→afb,firstCells→afE
open Value renaming slice→aed
open World renaming cell?→aeo,setCell→afC
open Below renaming heap_setCell→afW
variable {c B:Nat} {S:List Nat} {e:TypeId} {w a b:World}
theorem add_block (a:Addr) (n:Nat):(a.add n).block=a.block:=by unfold Addr.add;split<;>rfl
theorem Uv (a:Addr) (i j:Nat):(a.add i).add j=a.add (i+j):=by
 unfold Addr.add
 by_cases hi:i=0<;>by_cases b:j=0<;>simp [hi,b,Nat.add_assoc]
structure Rd (w:World) (B size:Nat) (A:Option Addr) (n:Nat) (xs:List Value):Prop where
 len:xs.length=n*size
 row:0<n→∃ad,A=some ad∧ad.block<B∧∀j u,xs[j]?=some u→w.cell? (ad.add j)=some u
section
variable {w w':World} {B B' size n:Nat} {A:Option Addr} {xs:List Value}
theorem Rd.nil:Rd w B size A 0 []:=⟨by simp,λh=>by omega⟩
theorem Rd.pW (h:Rd w B size A n xs) (hk:∀p:Addr,p.block<B→w'.cell? p=w.cell? p):Rd w' B size A n xs:=
 ⟨h.len,λb=>by
  obtain ⟨c,e,a,hc⟩:=h.row b
  exact ⟨c,e,a,λj u d=>(hk _ (by rw [add_block];exact a)).trans (hc j u d)⟩⟩
theorem Rd.more (h:Rd w B size A n xs) (c:B≤B'):Rd w B' size A n xs:=
 ⟨h.len,λa=>by
  obtain ⟨b,e,d,hc⟩:=h.row a
  exact ⟨b,e,by omega,hc⟩⟩
theorem Rd.below (h:Rd w B size A n xs) (hb:Below B w w'):Rd w' B size A n xs:=h.pW λ_ a=>hb.cell a
theorem Rd.drew (h:Rd w B size A n xs):Rd w.drew B size A n xs:=⟨h.len,h.row⟩
theorem Rd.drewN (h:Rd w B size A n xs) (k:Nat):Rd (w.drewN k) B size A n xs:=⟨h.len,h.row⟩
theorem Rd.alloc (h:Rd w B size A n xs) (a:B≤w.heap.size) (o:Obj):Rd (w.alloc o) B size A n xs:=h.pW λp b=>World.cell?_alloc_lt w o p (by omega)
theorem Rd.setCell (h:Rd w B size A n xs) {p:Addr} (a:B≤p.block) (u:Value):Rd (w.setCell p u) B size A n xs:=
 h.pW λq b=>World.cell?_setCell_other w p q u (λe=>by subst e;omega)
theorem Rd.grown (h:Rd w B size A n xs) {row:Option Nat} (a:w.grownBy w' row) (b:B≤w.heap.size) (hr:∀g,row=some g→B≤g):Rd w' B size A n xs:=
 h.pW λp c=>World.cell?_of_block (a.block p.block (by omega) (λe=>by have:=hr _ e.symm;omega))
theorem Rd.keep (h:Rd w B size A n xs) (hk:Keep c S w w') (a:∀g∈S,B≤g):Rd w' B size A n xs:=
 ⟨h.len,λb=>by
  obtain ⟨d,e,f,hc⟩:=h.row b
  exact ⟨d,e,f,λj u i=>hk.cell (hc j u i) (λhm=>by have:=a _ hm;rw [add_block] at this;omega)⟩⟩
theorem Rd.from (h:Rd w B size A n xs) {k cap:Nat} (hk:k≤n) (hc:n≤cap):
  Rd w B size (if cap=k then A else A.map (·.add (k*size))) (n-k) (xs.drop (k*size)):=by
 refine ⟨by rw [List.length_drop,h.len,Nat.sub_mul],λf=>?_⟩
 obtain ⟨b,rfl,c,a⟩:=h.row (by omega)
 rw [if_neg (by omega)]
 refine ⟨b.add (k*size),rfl,by rw [add_block];exact c,λj u d=>?_⟩
 rw [Uv]
 exact a _ u (by rw [←d,List.getElem?_drop])
theorem Rd.upto (h:Rd w B size A n xs) {k:Nat} (hk:k≤n):Rd w B size A k (xs.take (k*size)):=by
 refine ⟨by rw [List.length_take,h.len];exact Nat.min_eq_left (Nat.mul_le_mul_right _ hk),λf=>?_⟩
 obtain ⟨c,rfl,d,a⟩:=h.row (by omega)
 refine ⟨c,rfl,d,λj u b=>a j u ?_⟩
 rw [List.getElem?_take] at b
 split at b
 ·exact b
 ·cases b
def aaZ {base:Nat} {v:Value} (h:w.ownsRow base e size v n xs) (b:v= .slice A n c):Rd w w.heap.size size A n xs:=by
 subst b
 refine ⟨h.1,λi=>?_⟩
 rcases h.2 with ⟨a,h0⟩|⟨g,cap,cur,a,k,d,_,_,_,ht⟩
 ·omega
 ·injection a with h1 h2 h3
  subst h1
  refine ⟨_,rfl,rW d,λj u f=>?_⟩
  exact h.cells (g:=g) rfl j u f
theorem Rd.at {k:Nat} (h:Rd w B 1 A n xs) (hk:k<n):∃a,A=some a∧a.block<B∧∃b:k<xs.length,w.cell? (a.add k)=some xs[k]:=by
 obtain ⟨a,e,c,hc⟩:=h.row (by omega)
 have b:k<xs.length:=by have:=h.len;omega
 exact ⟨a,e,c,b,hc k _ (List.getElem?_eq_getElem b)⟩
end
def B8 (b:Nat):Value:= .int .u8 (b:Int)
def bq (x:Nat):Value:= .int .u64 (x:Int)
def M9 {base:Nat} {size:Nat} {v:Value} {n:Nat} {xs:List Value} (h:w.ownsRow base e size v n xs) (hb:c≤base):w.ownsRow c e size v n xs:=by
 refine ⟨h.1,?_⟩
 rcases h.2 with h1|⟨g,cap,cur,h1,h2,h3⟩
 ·exact .inl h1
 ·exact .inr ⟨g,cap,cur,h1,by omega,h3⟩
structure EI (P:Program) (t e:TypeId) (z:Value) (size bytes:Nat):Prop where
 ht:P.underlying t=some (.slice e)
 hi:(P.info? e).map (λi=>(i.zero,i.size,i.bytes))=some (some z,size,bytes)
 hz:z.cells.size=size
 hs:0<size
section
variable {P:Program} {w:World} {base:Nat} {t e:TypeId} {z:Value} {size bytes:Nat}
def qlv (b:EI P t e z size bytes) (f:TypeId) {v:Value} {n:Nat} {xs:List Value} (a:w.ownsRow base e size v n xs) (c:Nat):(ac7 #[t,t] f #[v,.slice none 0 c]).run P w= .ok v w:=by
 obtain ⟨i,hi,_⟩:=info_parts b.hi
 rcases a.2 with ⟨rfl,rfl⟩|⟨g,cap,cur,rfl,_,_,d,_⟩
 ·simp [ac7,run_underlying b.ht,sizeOf,typeInfo,hi,afb,afE]
 ·simp [ac7,run_underlying b.ht,sizeOf,typeInfo,hi,afb,afE,d,storeCells]
def qx1 (o:EI P t e z size bytes) (q:TypeId) {v:Value} {n:Nat} {xs:List Value} (a:w.ownsRow base e size v n xs)
  {B:Nat} {A:Option Addr} {m c:Nat} {news:List Value} (hr:Rd w B size A m news) (h1:∀u∈news,u.oneCell'=true)
  (b:(n+m)*bytes≤140737488355328) (h63:n+m≤9223372036854775807) (l:base≤w.heap.size):
  ∃f k w',(ac7 #[t,t] q #[v,.slice A m c]).run P w= .ok (.slice f (n+m) k) w'∧w'.ownsRow base e size (.slice f (n+m) k) (n+m) (xs++news)∧w.grownBy w' v.ownBlock∧
   ((aed f (n+m) k).ownBlock=v.ownBlock∨(aed f (n+m) k).ownBlock=some w.heap.size):=by
 obtain ⟨i,hi,hz,r,s⟩:=info_parts o.hi
 rcases A with _|x
 ·have hm:m=0:=by
   rcases acn m with h0|h0
   ·exact h0
   ·obtain ⟨x,h,_⟩:=hr.row h0
    cases h
  subst hm
  have y:news=[]:=ac6 (by simpa using hr.len)
  subst y
  obtain ⟨f,k,rfl⟩:∃A c,v= .slice A n c:=by
   rcases a.2 with ⟨rfl,rfl⟩|⟨g,cap,cur,rfl,_⟩<;>exact ⟨_,_,rfl⟩
  exact ⟨f,k,w,qlv o q a c,by simpa using a,World.grownBy.refl w _,.inl rfl⟩
 ·have d:∀j u,news[j]?=some u→w.cell? (x.add j)=some u:=by
   intro j u C
   rcases acn m with h0|h0
   ·subst h0
    have y:news=[]:=ac6 (by simpa using hr.len)
    subst y
    simp at C
   ·obtain ⟨D,h,_,hc⟩:=hr.row h0
    injection h with h
    subst h
    exact hc j u C
  obtain ⟨E,w',p,h2,h3,_,h5⟩:=run_append_own_at (P:=P) w base t q e i z size bytes o.ht hi hz r s o.hz o.hs v n xs a x m c news hr.len d h1 (by unfold maxLen;exact h63) b l
  obtain ⟨f,k,rfl⟩:∃A c,E= .slice A (n+m) c:=by
   rcases h2.2 with ⟨rfl,h0⟩|⟨g,cap,cur,rfl,_⟩
   ·rw [h0];exact ⟨_,_,rfl⟩
   ·exact ⟨_,_,rfl⟩
  exact ⟨f,k,w',p,h2,h3,h5⟩
def Uw {o:Oper} {a:Act} {K:Act→World→Prop} {Q:Exit→Act→World→Prop} {s x:Operand}
  (k:o.op= .call {callee:= .builtin .append,args:= #[s,x],argTypes:= #[t,t]}) (l:EI P t e z size bytes)
  {v:Value} {n:Nat} {xs:List Value} (i:w.ownsRow base e size v n xs) (hs:a.eval s=v)
  {B:Nat} {A:Option Addr} {m c:Nat} {news:List Value} (hr:Rd w B size A m news) (p:a.eval x= .slice A m c) (h1:∀u∈news,u.oneCell'=true)
  (b:(n+m)*bytes≤140737488355328) (h63:n+m≤9223372036854775807) (d:base≤w.heap.size)
  (h:∀f g w',w'.ownsRow base e size (.slice f (n+m) g) (n+m) (xs++news)→w.grownBy w' v.ownBlock→((Value.slice f (n+m) g).ownBlock=v.ownBlock∨(Value.slice f (n+m) g).ownBlock=some w.heap.size)→K (a.put o.dst (.slice f (n+m) g)) w'):o.wp P a w K Q:=by
 obtain ⟨f,g,w',j,h2,h3,h4⟩:=qx1 (P:=P) l o.type i hr h1 (c:=c) b h63 d
 unfold Oper.wp execOp
 simp only [k,resolve,invoke,builtin,Sem.run_bind,Sem.run_pure,Result.andThen_ok,List.map_toArray,List.map_cons,List.map_nil,hs,p,j]
 exact h f g w' h2 h3 h4
def q02 {ops:Array Oper} {d:List Oper} {o:Oper} {a:Act} {Q:Exit→Act→World→Prop} {s x:Operand} (k:o.guard=none)
  (l:o.op= .call {callee:= .builtin .append,args:= #[s,x],argTypes:= #[t,t]}) (p:EI P t e z size bytes)
  {v:Value} {n:Nat} {xs:List Value} (j:w.ownsRow base e size v n xs) (hs:a.eval s=v)
  {B:Nat} {A:Option Addr} {m c:Nat} {news:List Value} (hr:Rd w B size A m news) (q:a.eval x= .slice A m c) (h1:∀u∈news,u.oneCell'=true)
  (b:(n+m)*bytes≤140737488355328) (h63:n+m≤9223372036854775807) (f:base≤w.heap.size)
  (h:∀g i w',w'.ownsRow base e size (.slice g (n+m) i) (n+m) (xs++news)→w.grownBy w' v.ownBlock→((Value.slice g (n+m) i).ownBlock=v.ownBlock∨(Value.slice g (n+m) i).ownBlock=some w.heap.size)→wpList P ops Q d (a.put o.dst (.slice g (n+m) i)) w'):
  wpList P ops Q (o::d) a w:=
 wpList_plain k λ_ r=>Uw l p j hs hr q h1 b h63 f λg i w' h2 h3 h4=>r _ _ (h g i w' h2 h3 h4)
end
theorem Rd.one (w:World) (x:Value) (e:TypeId):Rd (w.alloc (.cells #[x] e)) (w.heap.size+1) 1 (some ⟨w.heap.size,0,none⟩) 1 [x]:=
 ⟨rfl,λ_=>⟨_,rfl,by simp,λj u a=>cell_one_new w x e j u a⟩⟩
structure gH (bx:Nat) (t:TypeId) (base:Nat) (e:TypeId) (size:Nat) (G:Nat→Prop) (n:Nat) (xs:List Value) (W:World) (v:Value):Prop where
 box:W.heap[bx]?=some (.cells #[v] t (0,0))
 row:W.ownsRow base e size v n xs
 good:∀g,v.ownBlock=some g→G g
def Na (bx:Nat) (t:TypeId) (W:World) (b:Nat):Prop:=b=bx∨∃v,W.heap[bx]?=some (.cells #[v] t (0,0))∧v.ownBlock=some b
section
variable {bx:Nat} {t:TypeId} {base:Nat} {e:TypeId} {size:Nat} {G:Nat→Prop} {n:Nat} {xs:List Value} {W W':World} {v:Value}
theorem gH.cell (h:gH bx t base e size G n xs W v):W.cell? ⟨bx,0,none⟩=some v:=by simp [aeo,h.box]
theorem gH.lt (h:gH bx t base e size G n xs W v):bx<W.heap.size:=rW h.box
def gH.keep (h:gH bx t base e size G n xs W v) (hk:Keep B S W W') (a:bx∉S) (b:∀g,G g→g∉S):gH bx t base e size G n xs W' v:=
 ⟨hk.obj _ _ h.box rfl a,hk.ownsRow h.row (λg c=>b g (h.good g c)),h.good⟩
def gH.later (h:gH bx t base e size G n xs W v) (h0:jN [] W a) (g:a.grownBy b v.ownBlock) (f:v.ownBlock≠some bx):b.cell? ⟨bx,0,none⟩=some v∧b.frozen? ⟨bx,0,none⟩=false:=by
 have c:a.heap[bx]?=some (.cells #[v] t (0,0)):=h0.same h.box (by simp)
 have d:b.heap[bx]?=some (.cells #[v] t (0,0)):=(g.block bx (rW c) (λe=>f e.symm)).trans c
 exact ⟨by simp [aeo,d],by simp [World.frozen?,d]⟩
def gH.store {E:Option Addr} {m:Nat} {ys:List Value} (h:gH bx t base e size G n xs W v) (h0:jN [] W a) (l:a.grownBy b v.ownBlock) (o:v.ownBlock≠some bx)
  (i:b.ownsRow base e size (.slice E m c) m ys) (hb:(aed E m c).ownBlock=v.ownBlock∨(aed E m c).ownBlock=some a.heap.size)
  (q:∀g,W.heap.size≤g→G g):
  gH bx t base e size G m ys (b.setCell ⟨bx,0,none⟩ (.slice E m c)) (.slice E m c)∧tX (Na bx t) W (b.setCell ⟨bx,0,none⟩ (.slice E m c)):=by
 have L:=h.lt
 have M:=h0.size
 have p:a.heap[bx]?=some (.cells #[v] t (0,0)):=h0.same h.box (by simp)
 have s:b.heap[bx]?=some (.cells #[v] t (0,0)):=(l.block bx (rW p) (λe=>o e.symm)).trans p
 have x:(aed E m c).ownBlock≠some bx:=by
  rcases hb with h1|h1<;>rw [h1]
  ·exact o
  ·intro H;injection H with H;omega
 have j:(b.setCell ⟨bx,0,none⟩ (.slice E m c)).heap[bx]?=some (.cells #[.slice E m c] t (0,0)):=by
  simp [afC,Array.getElem?_modify,s]
 refine ⟨⟨j,?_,?_⟩,⟨l.os.trans h0.os,l.tape.trans h0.tape,l.output.trans h0.output,?_,?_,?_⟩⟩
 ·refine ⟨i.1,?_⟩
  rcases i.2 with h1|⟨g,cap,cur,I,y,C,r⟩
  ·exact .inl h1
  ·refine .inr ⟨g,cap,cur,I,y,?_,r⟩
   rw [afW _ _ _ _ (λe=>x (by rw [I,e];rfl))];exact C
 ·intro g d
  rcases hb with h1|h1
  ·rw [h1] at d;exact h.good g d
  ·rw [h1] at d;injection d with d;exact q g (by omega)
 ·have:=l.size;simp [afC];omega
 ·intro k N J
  have D:k≠bx:=λe=>J (.inl e)
  have F:some k≠v.ownBlock:=λe=>J (.inr ⟨v,h.box,e.symm⟩)
  rw [afW _ _ _ _ D,l.block k (by omega) F,h0.block k N (by simp)]
 ·rintro k (rfl|⟨u,K,f⟩)
  ·exact .inl (.inl rfl)
  ·rw [j] at K
   cases K
   rcases hb with h1|h1
   ·rw [h1] at f;exact .inl (.inr ⟨v,h.box,f⟩)
   ·rw [h1] at f;injection f with f;exact .inr (by omega)
end
theorem tX.grown {T:World→Nat→Prop} {row:Option Nat} (h:tX T a b) (c:w.grownBy a row) (g:∀k,T a k→k<w.heap.size→row=some k∨False):w.grownBy b row:=
 ⟨h.os.trans c.os,h.tape.trans c.tape,h.output.trans c.output,acS c.size h.size,λk d f=>(h.block k (Nat.lt_of_lt_of_le d c.size) (λht=>by rcases g k ht d with h1|h1;exact f h1.symm;exact h1)).trans (c.block k d f)⟩
theorem tX.refl (T:World→Nat→Prop) (w:World):tX T w w:=⟨rfl,rfl,rfl,Nat.le_refl _,λ_ _ _=>rfl,λ_ h=> .inl h⟩
theorem Keep.grown {row:Option Nat} (c:w.grownBy a row) (hk:Keep B S a b) (i:w.heap.size≤B) (f:∀g∈S,w.heap.size≤g):w.grownBy b row:=
 ⟨hk.os.trans c.os,hk.tape.trans c.tape,hk.output.trans c.output,acS c.size hk.size,λk d h=>(hk.block k (by omega) (λhm=>by have:=f k hm;omega)).trans (c.block k d h)⟩
def qnr {α:Type} {l:List α} {k:Nat} {u:α} (f:α→Value) (h:l[k]?=some u):(l.take k).map f++[f u]=(l.take (k+1)).map f:=by
 rw [List.take_add_one,h];simp
theorem below_drewN (h:Below B a w) (n:Nat):Below B a (w.drewN n):=⟨h.os,h.tape,h.output,h.size,h.block⟩
def own_drewN {base:Nat} {size:Nat} {v:Value} {n:Nat} {xs:List Value} (h:w.ownsRow base e size v n xs) (m:Nat):(w.drewN m).ownsRow base e size v n xs:=h
end Go.Proofs.YtekiimhdnigmcaaGreatDoor
