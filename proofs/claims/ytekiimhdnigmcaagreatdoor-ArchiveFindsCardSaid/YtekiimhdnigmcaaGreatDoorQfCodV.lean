/- A part of the proof. -/
import Derived.Test.YtekiimhdnigmcaaGreatDoorQfCodS
import Derived.Test.YtekiimhdnigmcaaGreatDoorQfStr
import Derived.Test.YtekiimhdnigmcaaGreatDoorQfSep2
set_option linter.all false
namespace Go.Proofs.YtekiimhdnigmcaaGreatDoor
open Go.RowKit
variable {e:Ev} {b:Bs} {l:List Nat} {cpu j c:Nat} {p:Option Ev}
theorem q7m (e:Ev):e.vals.length≤4:=by unfold Ev.vals;rw [List.length_map];exact D9 _
theorem jM:SI Tryz.prog 110 2:=⟨by kernel_rfl,by kernel_rfl⟩
theorem Jz (e:Ev):∀v∈e.cells.toList,v.oneCell'=true:=by intro v a;simp [Ev.cells] at a;rcases a with rfl|rfl|rfl|rfl|rfl|rfl|rfl|rfl|rfl|rfl|rfl<;>rfl
def MP (b:Bs):∀v∈b.cells.toList,v.oneCell'=true:=by intro v a;simp [Bs.cells] at a;rcases a with rfl|rfl<;>rfl
def gZ (e:Ev):List Value:=e.cells.toList
theorem wo (e:Ev):(gZ e).length=11:=rfl
def Aq (b:Bs) (l:List Ev):Nat→Bs
 |0=>b
 |k+1=>match l[k]? with|some e=>e.at|none=>b
def MQ:∀(l:List Ev) (p:Option Ev) (i:Nat),(gL p i l).2=0→(∀e∈l,e.check=0)∧(∀e,l.head?=some e→p.all (λq=>e.after q)=true)∧(∀k (h:k+1<l.length),l[k+1].after l[k]=true)
 |[],_,_,_=>⟨by simp,by simp,by simp⟩
 | e :: r, p, i, h => by
  rw [gL] at h
  split at h
  ·rename_i h1;exact absurd h h1
  ·rename_i h1
   split at h
   ·simp at h
   ·rename_i h2
    obtain ⟨c,d,f⟩:=MQ r (some e) (i+1) h
    refine ⟨?_,?_,?_⟩
    ·intro x a
     rcases List.mem_cons.1 a with rfl|a
     ·simpa using h1
     ·exact c x a
    ·intro x a
     simp at a;subst a;simpa using h2
    ·intro k b
     cases k with
     |zero=>
      cases r with
      |nil=>simp at b
      |cons y r=>exact by simpa using d y rfl
     |succ k=>exact f k (by simpa using b)
def qsh (h:e.check=0):e.at.right=true:=by simp_all [Bs.right,Ev.at,Am]
def qpr {q:Ev} (h:e.after q=true):q.at.behind e=true:=by grind [Bs.behind,Ev.after,Ev.at]
def Ua {l:List Ev} (hr:(gD l).2=0) (hb:b.right=true) (c:l.head?.all b.behind=true) (k:Nat) (hk:k<l.length):mP (Aq b l k) l[k]=0:=by
 obtain ⟨a,_,d⟩:=MQ l none 0 hr
 unfold mP
 rw [if_neg (by simp [a l[k] (List.getElem_mem _)]),if_pos]
 cases k with
 |zero=>
  refine ⟨hb,?_⟩
  cases l with
  |nil=>simp at hk
  |cons y r=>show b.behind y=true;simpa using c
 |succ k=>
  have e:Aq b l (k+1)=l[k].at:=by show (match l[k]? with|some e=>e.at|none=>b)=_;rw [List.getElem?_eq_getElem om]
  rw [e]
  exact ⟨qsh (a l[k] (List.getElem_mem _)),qpr (d k hk)⟩
theorem zdy (b:Bs) (e:Ev):(zy b e).length≤61:=by grind [zk,zy,yN,q7m]
theorem q01:∀(j:Nat) (l:List Nat),(bD j l).2.1≤l.length:=by intro x;induction x<;>grind [bD,aB,yO]
def q02 (b:Bs) (cpu:Nat) (l:List Nat):(dn b cpu l).2.1≤l.length∧((dn b cpu l).2.2=0→0<(dn b cpu l).2.1):=by grind [q01,TS,dn,aQ]
theorem yP:EI Tryz.prog 83 73 (.agg Ev.zero.cells) 11 80:=⟨by kernel_rfl,by kernel_rfl,rfl,by omega⟩
def jN (es:List Ev) (a:Nat) (q:List Ev×Nat×Nat):List Ev×Nat×Nat:=if q.2.2≠0 then ([],0,q.2.2) else (es++q.1,a+q.2.1,0)
def q03 {er:Nat} (d:dn b cpu l=(e,c,er)) (h:er≠0) (es:List Ev) (a:Nat):jN es a (kW cpu (j+1) b p l)=([],0,er):=by grind [jN,kW]
def qxu (d:dn b cpu l=(e,c,0)) (f:p.any (λq=>decide (e.seq=q.seq))=true) (es:List Ev) (a:Nat):jN es a (kW cpu (j+1) b p l)=([],0,71):=by
 have e1:kW cpu (j+1) b p l=([],0,71):=by rw [kW,d,if_neg (by simp),if_pos f]
 rw [e1];rfl
theorem qxv (d:dn b cpu l=(e,c,0)) (f:p.any (λq=>decide (e.seq=q.seq))=false) (es:List Ev) (a:Nat):jN es a (kW cpu (j+1) b p l)=jN (es++[e]) (a+c) (kW cpu j e.at (some e) (l.drop c)):=by grind [jN,kW]
theorem qxw (cpu:Nat):∀(j:Nat) (b:Bs) (p:Option Ev) (l:List Nat),(kW cpu j b p l).2.2≠0→kW cpu j b p l=([],0,(kW cpu j b p l).2.2):=by intro x;cases x<;>grind [kW]
theorem q04 (cpu j:Nat) (b:Bs) (p:Option Ev) (l:List Nat):jN [] 0 (kW cpu j b p l)=kW cpu j b p l:=by grind [jN,kW,qxw]
def Ub {w:World} {B n:Nat} {A:Option Addr} {l:List Ev} (h:Rd w B 11 A n (l.flatMap gZ)):l.length=n:=by
 have h1:=h.len
 have h2:(l.flatMap gZ).length=l.length*11:=by
  clear h h1
  induction l with
  |nil=>rfl
  |cons e l a=>rw [List.flatMap_cons,List.length_append,a,wo,List.length_cons];omega
 omega
theorem Laid.mem {B:Nat} {W w:World} {fs:List Fact} (h:Laid B W) (a:Mem W w fs) (b:B≤W.heap.size):Laid B w:=h.below a.below b
end Go.Proofs.YtekiimhdnigmcaaGreatDoor
