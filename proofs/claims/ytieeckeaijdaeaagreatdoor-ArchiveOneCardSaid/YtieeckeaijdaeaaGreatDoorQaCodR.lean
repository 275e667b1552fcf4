/- A part of the proof. -/
import Derived.Test.YtieeckeaijdaeaaGreatDoorQaCod7
import Derived.Test.YtieeckeaijdaeaaGreatDoorQaRnd
namespace Go.Proofs.YtieeckeaijdaeaaGreatDoor
open Go.RowKit
theorem qN:EI Tryz.prog 57 32 (.agg Ev.zero.cells) 11 80:=⟨by kernel_rfl,by kernel_rfl,rfl,by omega⟩
def dX (es:List Ev) (a:Nat) (q:List Ev×Nat×Nat):List Ev×Nat×Nat:=if q.2.2≠0 then ([],0,q.2.2) else (es++q.1,a+q.2.1,0)
theorem VW {cpu j:Nat} {bk:Bs} {p:Option Ev} {lk:List Nat} {e:Ev} {mm er:Nat} (hq:aC bk cpu lk=(e,mm,er)) (h:er≠0) (es:List Ev) (a:Nat):dX es a (qq cpu (j+1) bk p lk)=([],0,er):=by
 have e1:qq cpu (j+1) bk p lk=([],0,er):=by rw [qq,hq,if_pos h]
 rw [e1];unfold dX;rw [if_pos h]
theorem VX {cpu j:Nat} {bk:Bs} {p:Option Ev} {lk:List Nat} {e:Ev} {mm:Nat} (hq:aC bk cpu lk=(e,mm,0)) (hp:p.any (fun q=>decide (e.seq=q.seq))=true) (es:List Ev) (a:Nat):dX es a (qq cpu (j+1) bk p lk)=([],0,71):=by
 have e1:qq cpu (j+1) bk p lk=([],0,71):=by rw [qq,hq,if_neg (by simp),if_pos hp]
 rw [e1];rfl
theorem PD {cpu j:Nat} {bk:Bs} {p:Option Ev} {lk:List Nat} {e:Ev} {mm:Nat} (hq:aC bk cpu lk=(e,mm,0)) (hp:p.any (fun q=>decide (e.seq=q.seq))=false) (es:List Ev) (a:Nat):dX es a (qq cpu (j+1) bk p lk)=dX (es++[e]) (a+mm) (qq cpu j e.at (some e) (lk.drop mm)):=by
 rw [qq,hq,if_neg (by simp),if_neg (by simp [hp])]
 simp only
 by_cases h:(qq cpu j e.at (some e) (lk.drop mm)).2.2=0
 ·rw [if_neg (by omega)];unfold dX;rw [if_neg (by simp),if_neg (by omega)];simp;omega
 ·rw [if_pos h];unfold dX;rw [if_pos h,if_pos h]
theorem qsq (cpu:Nat):∀(j:Nat) (b:Bs) (p:Option Ev) (l:List Nat),(qq cpu j b p l).2.2≠0→qq cpu j b p l=([],0,(qq cpu j b p l).2.2)
 |0,_,_,_,h=>absurd rfl h
 | j + 1, b, p, l, h => by
  rw [qq] at h⊢
  split
  ·rfl
  ·split
   ·rfl
   ·split
    ·rfl
    ·rename_i h1 h2 h3
     rw [if_neg h1,if_neg h2,if_neg h3] at h
     exact absurd rfl h
theorem VY (cpu j:Nat) (b:Bs) (p:Option Ev) (l:List Nat):dX [] 0 (qq cpu j b p l)=qq cpu j b p l:=by
 unfold dX
 by_cases h:(qq cpu j b p l).2.2=0
 ·rw [if_neg (by omega)]
  generalize qq cpu j b p l=q at*
  obtain ⟨x,y,z⟩:=q
  simp only at h
  simp [h]
 ·rw [if_pos h];exact (qsq cpu j b p l h).symm
structure bE (w:World) (o m:Nat) (es:List Ev) (a:Nat) (W:World) (v:Value):Prop where
 out:aY o 57 (o+5) 32 11 (fun g=>o+5≤g) es.length (es.flatMap cZ) W v
 at':W.heap[o+1]?=some (.cells #[.int .i64 (a:Int)] 3 (0,0))
 num:W.heap[w.heap.size+1]?=some (.cells #[.int .i64 (m:Int)] 3 (0,0))
 r8:W.heap[w.heap.size+1+1]?=some (.cells #[.slice none 0 0] 57 (0,0))
 r9:W.heap[w.heap.size+1+1+1]?=some (.cells #[.int .i64 0] 3 (0,0))
 oK:W.heap[w.heap.size+1+1+1+1]?=some (.cells #[.int .i64 0] 61 (0,0))
 below:Below w.heap.size w W
 size:o+5≤W.heap.size
 wo:w.heap.size+5≤o
def gU (w:World) (o:Nat) (W:World) (b:Nat):Prop:=oQ o 57 W b∨b=o+1∨b=w.heap.size+1+1∨b=w.heap.size+1+1+1∨b=w.heap.size+1+1+1+1
def Gt (w:World) (o m cpu:Nat) (b:Bs) (l:List Nat) (k:Nat) (W:World):Prop:=
 ∃(es:List Ev) (a f:Nat) (bk:Bs) (lk:List Nat) (v:Value),es.length=k∧bE w o m es a W v∧(oW (l.length+1) b cpu l).drop k=oW (f+1) bk cpu lk∧lk.length<f+1∧k+lk.length≤l.length∧k<m∧a+lk.length≤l.length∧
  qq cpu m b none l=dX es a (qq cpu (m-k) bk es.getLast? lk)
structure iL (w:World) (o m cpu:Nat) (b:Bs) (l:List Nat) (er:Nat) (W:World):Prop where
 r8:W.heap[w.heap.size+1+1]?=some (.cells #[.slice none 0 0] 57 (0,0))
 r9:W.heap[w.heap.size+1+1+1]?=some (.cells #[.int .i64 0] 3 (0,0))
 oK:W.heap[w.heap.size+1+1+1+1]?=some (.cells #[.int .i64 (er:Int)] 61 (0,0))
 below:Below w.heap.size w W
 size:o+5≤W.heap.size
 said:qq cpu m b none l=([],0,er)
def LV (w:World) (o m cpu:Nat) (b:Bs) (l:List Nat):Code→Nat→World→Prop
 | .exit 0,_,W=>∃es a v,bE w o m es a W v∧a≤l.length∧qq cpu m b none l=(es,a,0)
 | .ret,_,W=>∃er,iL w o m cpu b l er W
 |_,_,_=>False
theorem qt {B:Nat} {a w:World} (h:Below B a w) {b o:Nat} (hb:B≤b) (v:Value):Below B a (w.setCell ⟨b,o,none⟩ v):=h.setCell (p:=⟨b,o,none⟩) hb v
theorem qe {w:World} {b o k:Nat} (h:k≠b) (v:Value):(w.setCell ⟨b,o,none⟩ v).heap[k]?=w.heap[k]?:=Below.heap_setCell w ⟨b,o,none⟩ v k h
section
variable {w:World} {o m cpu:Nat} {es:List Ev} {a:Nat} {W W':World} {v:Value} {B:Nat} {S:List Nat}
theorem bE.keep (h:bE w o m es a W v) (hk:aX B S W W') (hB:w.heap.size≤B) (hS:∀g∈S,o+2≤g∧g<o+5):bE w o m es a W' v:=by
 have hwo:=h.wo
 have n1:∀x,x<o+2→x∉S:=fun x hx hm=>by have:=hS x hm;omega
 refine ⟨h.out.keep hk (n1 _ (by omega)) (fun g hg hm=>by have:=hS g hm;omega),hk.obj _ _ h.at' rfl (n1 _ (by omega)),hk.obj _ _ h.num rfl (n1 _ (by omega)),hk.obj _ _ h.r8 rfl (n1 _ (by omega)),hk.obj _ _ h.r9 rfl (n1 _ (by omega)),hk.obj _ _ h.oK rfl (n1 _ (by omega)),h.below.trans (hk.below hB (fun k hk'=>by have:=hS k hk';omega)),by have:=hk.size;have:=h.size;omega,hwo⟩
theorem bE.jR (h:bE w o m es a W v) (hk:aX B S W W') (hS:∀g∈S,o+2≤g∧g<o+5):∀b,gU w o W' b→gU w o W b:=fun b hb=>by
 rcases hb with hb|hb
 ·exact .inl (h.out.jR hk (fun hm=>by have:=hS _ hm;omega) b hb)
 ·exact .inr hb
theorem bE.lZ (h:bE w o m es a W v):∀b,gU w o W b→∃x,W.heap[b]?=some x∧datum x=true:=fun b hb=>by
 rcases hb with hb|rfl|rfl|rfl|rfl
 ·exact h.out.lZ b hb
 ·exact ⟨_,h.at',rfl⟩
 ·exact ⟨_,h.r8,rfl⟩
 ·exact ⟨_,h.r9,rfl⟩
 ·exact ⟨_,h.oK,rfl⟩
theorem iL.keep {b:Bs} {l:List Nat} {er:Nat} (h:iL w o m cpu b l er W) (hk:aX B S W W') (hB:w.heap.size≤B) (hS:∀g∈S,w.heap.size+5≤g):iL w o m cpu b l er W':=by
 have n1:∀x,x<w.heap.size+5→x∉S:=fun x hx hm=>by have:=hS x hm;omega
 exact ⟨hk.obj _ _ h.r8 rfl (n1 _ (by omega)),hk.obj _ _ h.r9 rfl (n1 _ (by omega)),hk.obj _ _ h.oK rfl (n1 _ (by omega)),h.below.trans (hk.below hB (fun k hk'=>by have:=hS k hk';omega)),by have:=hk.size;have:=h.size;omega,h.said⟩
theorem bE.drew (h:bE w o m es a W v):bE w o m es a W.drew v:=
 ⟨⟨h.out.box,h.out.row,h.out.good⟩,h.at',h.num,h.r8,h.r9,h.oK,h.below.drew,h.size,h.wo⟩
theorem bE.zT (h:bE w o m es a W v) (hk:bY [] W W'):bE w o m es a W' v:=by
 have hz:=h.below.size
 exact h.keep (B:=w.heap.size) (S:=[]) (hk.keep hz) (Nat.le_refl _) (by simp)
def jV (w:World) (er:Nat) (W:World):World:=
 ((W.setCell ⟨w.heap.size+1+1,0,none⟩ (.slice none 0 0)).setCell ⟨w.heap.size+1+1+1,0,none⟩ (.int .i64 0)).setCell ⟨w.heap.size+1+1+1+1,0,none⟩ (.int .i64 (er:Int))
theorem bE.ret {b:Bs} {l:List Nat} {er:Nat} (h:bE w o m es a W v) (hs:qq cpu m b none l=([],0,er)):
  iI (gU w o) W (jV w er W)∧iL w o m cpu b l er (jV w er W)∧(∀W4,aX B S (jV w er W) W4→(∀g∈S,o+2≤g∧g<o+5)→∀b,gU w o W4 b→gU w o (jV w er W) b):=by
 have hwo:=h.wo
 have hsz:=h.size
 have hc:bY [w.heap.size+1+1,w.heap.size+1+1+1,w.heap.size+1+1+1+1] W (jV w er W):=by
  unfold jV
  exact (((bY.refl _ W).setCell (.inl (by simp)) _).setCell (.inl (by simp)) _).setCell (.inl (by simp)) _
 have hout:aY o 57 (o+5) 32 11 (fun g=>o+5≤g) es.length (es.flatMap cZ) (jV w er W) v:=h.out.zT hc (by simp;omega) (fun g hg=>by have:=h.out.good g hg;simp;omega)
 refine ⟨⟨hc.os,hc.tape,hc.output,hc.size,fun k hk hT=>hc.block k hk (fun hm=>hT ?_),fun k hT=>?_⟩,⟨?_,?_,?_,?_,?_,hs⟩,fun W4 hk hS b hb=>?_⟩
 ·simp at hm
  rcases hm with rfl|rfl|rfl
  ·exact .inr (.inr (.inl rfl))
  ·exact .inr (.inr (.inr (.inl rfl)))
  ·exact .inr (.inr (.inr (.inr rfl)))
 ·rcases hT with hT|hT
  ·rcases (hout.jS k).1 hT with rfl|hv
   ·exact .inl (.inl (.inl rfl))
   ·exact .inl (.inl ((h.out.jS k).2 (.inr hv)))
  ·exact .inl (.inr hT)
 ·unfold jV
  rw [qe (by omega),qe (by omega)]
  exact qg h.r8 _
 ·unfold jV
  rw [qe (by omega)]
  exact qg (by rw [qe (by omega)];exact h.r9) _
 ·unfold jV
  exact qg (by rw [qe (by omega),qe (by omega)];exact h.oK) _
 ·unfold jV
  exact qt (qt (qt h.below (by omega) _) (by omega) _) (by omega) _
 ·have:=hc.size;omega
 ·rcases hb with hb|hb
  ·exact .inl (hout.jR hk (fun hm=>by have:=hS _ hm;omega) b hb)
  ·exact .inr hb
def fV (o:Nat) (V:Value) (a:Nat) (w1:World):World:=(w1.setCell ⟨o,0,none⟩ V).setCell ⟨o+1,0,none⟩ (.int .i64 (a:Int))
theorem bE.push {e:Ev} {mm:Nat} {A':Option Addr} {c':Nat} {w0 w1:World} (h:bE w o m es a W v) (h0:bY [] W w0) (hg:w0.grownBy w1 v.ownBlock)
  (hown:w1.ownsRow (o+5) 32 11 (.slice A' (es.length+1) c') (es.length+1) (es.flatMap cZ++cZ e)) (hb:(Value.slice A' (es.length+1) c').ownBlock=v.ownBlock∨(Value.slice A' (es.length+1) c').ownBlock=some w0.heap.size):
  bE w o m (es++[e]) (a+mm) (fV o (.slice A' (es.length+1) c') (a+mm) w1) (.slice A' (es.length+1) c')∧iI (gU w o) W (fV o (.slice A' (es.length+1) c') (a+mm) w1):=by
 have hwo:=h.wo
 have hsz:=h.size
 have hsz0:=h0.size
 have hsz1:=hg.size
 have LW:=h.out.good
 have hne:v.ownBlock≠some o:=fun e=>by have:=LW _ e;omega
 have hst:=h.out.store h0 hg hne hown hb (fun g hg=>by omega)
 have hown2:=hown.lt
 have far:∀x y,x<o+5→x≠o→x≠o+1→W.heap[x]?=some y→(fV o (.slice A' (es.length+1) c') (a+mm) w1).heap[x]?=some y:=fun x y h1 h2 h3 hy=>by
  unfold fV
  rw [qe h3,qe h2,hg.block x (by have:=zl hy;omega) (fun e=>by have:=LW x e.symm;omega)]
  exact h0.same hy (by simp)
 have hpw:(w1.setCell ⟨o,0,none⟩ (.slice A' (es.length+1) c')).heap.size=w1.heap.size:=by simp [World.setCell]
 have hch:bY [o+1] (w1.setCell ⟨o,0,none⟩ (.slice A' (es.length+1) c')) (fV o (.slice A' (es.length+1) c') (a+mm) w1):=by
  unfold fV;exact (bY.refl _ _).setCell (.inl (by simp)) _
 have hout:=hst.1.zT hch (by simp) (fun g hg'=>by have:=(hown2 g hg').1;simp;omega)
 have hv2:∀g,(Value.slice A' (es.length+1) c').ownBlock=some g→o+5≤g:=fun g hg'=>(hown2 g hg').1
 refine ⟨⟨⟨hout.box,?_,hout.good⟩,?_,far _ _ (by omega) (by omega) (by omega) h.num,far _ _ (by omega) (by omega) (by omega) h.r8,far _ _ (by omega) (by omega) (by omega) h.r9,far _ _ (by omega) (by omega) (by omega) h.oK,?_,?_,hwo⟩,?_⟩
 ·have:=hout.row
  rw [List.length_append,List.flatMap_append]
  simpa using this
 ·unfold fV
  refine qg (x:= .int .i64 (a:Int)) ?_ _
  rw [qe (by omega),hg.block (o+1) (by omega) (fun e=>by have:=LW _ e.symm;omega)]
  exact h0.same h.at' (by simp)
 ·have hb1:Below w.heap.size w w0:=h.below.trans ((bY.below h0).mono h.below.size)
  have hb2:=hb1.grown hg (by have:=h.below.size;omega) (fun g hg'=>by have:=LW g hg';omega)
  unfold fV
  exact qt (qt hb2 (by omega) _) (by omega) _
 ·unfold fV;simp [World.setCell];omega
 ·have hc:=hst.2
  refine ⟨hch.os.trans hc.os,hch.tape.trans hc.tape,hch.output.trans hc.output,Nat.le_trans hc.size hch.size,fun k hk hT=>?_,fun k hT=>?_⟩
  ·rw [hch.block k (by have:=hc.size;omega) (fun hm=>hT (.inr (.inl (by simpa using hm))))]
   exact hc.block k hk (fun h'=>hT (.inl h'))
  ·rcases hT with hT|hT
   ·rcases (hout.jS k).1 hT with rfl|hv
    ·exact .inl (.inl (.inl rfl))
    ·rcases hc.own k ((hst.1.jS k).2 (.inr hv)) with h1|h1
     ·exact .inl (.inl h1)
     ·exact .inr h1
   ·exact .inl (.inr hT)
end
theorem sO {W w1:World} {X:Obj} {row:Option Nat} (hg:(W.alloc X).drew.grownBy w1 row) {y:Nat} {obj:Obj} (hy:W.heap[y]?=some obj) (hne:row≠some y):w1.heap[y]?=some obj:=
 (hg.block y (by have:=zl hy;show y<(W.alloc X).heap.size;simp;omega) (fun e=>hne e.symm)).trans ((Below.heap_alloc W X y (zl hy)).trans hy)
theorem VZ {W:World} {base size n:Nat} {e t:TypeId} {v:Value} {xs:List Value} {x:Nat} {C:Array Value} {fr:Nat×Nat} (h:W.ownsRow base e size v n xs) (hx:W.heap[x]?=some (.cells C t fr)) (ht:t≠e):v.ownBlock≠some x:=by
 intro he
 rcases h.2 with ⟨rfl,_⟩|⟨g,cap,cur,rfl,_,hg,_⟩
 ·cases he
 ·injection he with he
  have he':g=x:=he
  subst he'
  rw [hg] at hx
  injection hx with hx
  injection hx with _ h2 _
  exact ht h2.symm
theorem Rd.block (w:World) (cs:List Value) (t:TypeId) (sz:Nat) (hs:cs.length=sz):Rd (w.alloc (.cells cs.toArray t)).drew (w.heap.size+1) sz (some ⟨w.heap.size,0,none⟩) 1 cs:=
 ⟨by omega,fun _=>⟨_,rfl,by show w.heap.size<w.heap.size+1;omega,fun j u hu=>by
  rw [Addr.add_mid,Nat.zero_add,World.cell?_drew,World.cell?_alloc_new]
  simpa using hu⟩⟩
end Go.Proofs.YtieeckeaijdaeaaGreatDoor
