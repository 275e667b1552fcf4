/- A part of the proof. -/
import Derived.Test.YtekiimhdnigmcaaGreatDoorQwCodS
import Derived.Test.YtekiimhdnigmcaaGreatDoorQwStr
import Derived.Test.YtekiimhdnigmcaaGreatDoorQwSep2
set_option linter.all false
namespace Go.Proofs.YtekiimhdnigmcaaGreatDoor
open Go.RowKit
variable {e:Ev} {b:Bs} {l:List Nat} {cpu j c:Nat} {p:Option Ev}
theorem q7z (e:Ev):e.vals.length≤4:=by unfold Ev.vals;rw [List.length_map];exact Es _
theorem jO:SI Tryz.prog 110 2:=⟨by kernel_rfl,by kernel_rfl⟩
theorem Kh (e:Ev):∀v∈e.cells.toList,v.oneCell'=true:=by intro v a;simp [Ev.cells] at a;rcases a with rfl|rfl|rfl|rfl|rfl|rfl|rfl|rfl|rfl|rfl|rfl<;>rfl
def Np (b:Bs):∀v∈b.cells.toList,v.oneCell'=true:=by intro v a;simp [Bs.cells] at a;rcases a with rfl|rfl<;>rfl
def iw (e:Ev):List Value:=e.cells.toList
theorem wI (e:Ev):(iw e).length=11:=rfl
def AU (b:Bs) (l:List Ev):Nat→Bs
 |0=>b
 |k+1=>match l[k]? with|some e=>e.at|none=>b
def Nq:∀(l:List Ev) (p:Option Ev) (i:Nat),(gP p i l).2=0→(∀e∈l,e.check=0)∧(∀e,l.head?=some e→p.all (λq=>e.after q)=true)∧(∀k (h:k+1<l.length),l[k+1].after l[k]=true)
 |[],_,_,_=>⟨by simp,by simp,by simp⟩
 | e :: r, p, i, h => by
  rw [gP] at h
  split at h
  ·rename_i h1;exact absurd h h1
  ·rename_i h1
   split at h
   ·simp at h
   ·rename_i h2
    obtain ⟨c,d,f⟩:=Nq r (some e) (i+1) h
    refine ⟨?_,?_,?_⟩
    ·intro x a
     rcases List.mem_cons.1 a with rfl|a
     ·simpa using h1
     ·exact c x a
    ·intro x a
     simp at a;subst a;simpa using h2
    ·intro k b
     cases k with
     |zero=>
      cases r with
      |nil=>simp at b
      |cons y r=>exact by simpa using d y rfl
     |succ k=>exact f k (by simpa using b)
def qso (h:e.check=0):e.at.right=true:=by simp_all [Bs.right,Ev.at,AP]
def qp1 {q:Ev} (h:e.after q=true):q.at.behind e=true:=by grind [Bs.behind,Ev.after,Ev.at]
def UR {l:List Ev} (hr:(gI l).2=0) (hb:b.right=true) (c:l.head?.all b.behind=true) (k:Nat) (hk:k<l.length):mV (AU b l k) l[k]=0:=by
 obtain ⟨a,_,d⟩:=Nq l none 0 hr
 unfold mV
 rw [if_neg (by simp [a l[k] (List.getElem_mem _)]),if_pos]
 cases k with
 |zero=>
  refine ⟨hb,?_⟩
  cases l with
  |nil=>simp at hk
  |cons y r=>show b.behind y=true;simpa using c
 |succ k=>
  have e:AU b l (k+1)=l[k].at:=by show (match l[k]? with|some e=>e.at|none=>b)=_;rw [List.getElem?_eq_getElem om]
  rw [e]
  exact ⟨qso (a l[k] (List.getElem_mem _)),qp1 (d k hk)⟩
theorem zed (b:Bs) (e:Ev):(oF b e).length≤61:=by grind [zm,oF,y7,q7z]
theorem q1g:∀(j:Nat) (l:List Nat),(bD j l).2.1≤l.length:=by intro x;induction x<;>grind [bD,aB,y8]
def q1h (b:Bs) (cpu:Nat) (l:List Nat):(dx b cpu l).2.1≤l.length∧((dx b cpu l).2.2=0→0<(dx b cpu l).2.1):=by grind [q1g,UJ,dx,aR]
theorem y9:EI Tryz.prog 83 73 (.agg Ev.zero.cells) 11 80:=⟨by kernel_rfl,by kernel_rfl,rfl,by omega⟩
def jP (es:List Ev) (a:Nat) (q:List Ev×Nat×Nat):List Ev×Nat×Nat:=if q.2.2≠0 then ([],0,q.2.2) else (es++q.1,a+q.2.1,0)
def q1i {er:Nat} (d:dx b cpu l=(e,c,er)) (h:er≠0) (es:List Ev) (a:Nat):jP es a (kY cpu (j+1) b p l)=([],0,er):=by grind [jP,kY]
def qx7 (d:dx b cpu l=(e,c,0)) (f:p.any (λq=>decide (e.seq=q.seq))=true) (es:List Ev) (a:Nat):jP es a (kY cpu (j+1) b p l)=([],0,71):=by
 have e1:kY cpu (j+1) b p l=([],0,71):=by rw [kY,d,if_neg (by simp),if_pos f]
 rw [e1];rfl
theorem qx8 (d:dx b cpu l=(e,c,0)) (f:p.any (λq=>decide (e.seq=q.seq))=false) (es:List Ev) (a:Nat):jP es a (kY cpu (j+1) b p l)=jP (es++[e]) (a+c) (kY cpu j e.at (some e) (l.drop c)):=by grind [jP,kY]
theorem qx9 (cpu:Nat):∀(j:Nat) (b:Bs) (p:Option Ev) (l:List Nat),(kY cpu j b p l).2.2≠0→kY cpu j b p l=([],0,(kY cpu j b p l).2.2):=by intro x;cases x<;>grind [kY]
theorem q1j (cpu j:Nat) (b:Bs) (p:Option Ev) (l:List Nat):jP [] 0 (kY cpu j b p l)=kY cpu j b p l:=by grind [jP,kY,qx9]
def UU {w:World} {B n:Nat} {A:Option Addr} {l:List Ev} (h:Rd w B 11 A n (l.flatMap iw)):l.length=n:=by
 have h1:=h.len
 have h2:(l.flatMap iw).length=l.length*11:=by
  clear h h1
  induction l with
  |nil=>rfl
  |cons e l a=>rw [List.flatMap_cons,List.length_append,a,wI,List.length_cons];omega
 omega
theorem Laid.mem {B:Nat} {W w:World} {fs:List Fact} (h:Laid B W) (a:Mem W w fs) (b:B≤W.heap.size):Laid B w:=h.below a.below b
end Go.Proofs.YtekiimhdnigmcaaGreatDoor
