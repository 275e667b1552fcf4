/- A part of the proof. -/
import Derived.Test.YtekiimhdnigmcaaGreatDoorQtCodS
import Derived.Test.YtekiimhdnigmcaaGreatDoorQtStr
import Derived.Test.YtekiimhdnigmcaaGreatDoorQtSep2
set_option linter.all false
namespace Go.Proofs.YtekiimhdnigmcaaGreatDoor
open Go.RowKit
theorem Vh (e:Ev):e.vals.length≤4:=by unfold Ev.vals;rw [List.length_map];exact Mw _
theorem nk:SI Tryz.prog 110 2:=⟨by kernel_rfl,by kernel_rfl⟩
theorem MF (e:Ev):∀v∈e.cells.toList,v.oneCell'=true:=by intro v hv;simp [Ev.cells] at hv;rcases hv with rfl|rfl|rfl|rfl|rfl|rfl|rfl|rfl|rfl|rfl|rfl<;>rfl
theorem Vi (b:Bs):∀v∈b.cells.toList,v.oneCell'=true:=by intro v hv;simp [Bs.cells] at hv;rcases hv with rfl|rfl<;>rfl
def eF (e:Ev):List Value:=e.cells.toList
theorem zf (e:Ev):(eF e).length=11:=rfl
def GY (b:Bs) (l:List Ev):Nat→Bs
 |0=>b
 |k+1=>match l[k]? with|some e=>e.at|none=>b
theorem Vj:∀(l:List Ev) (p:Option Ev) (i:Nat),(fI p i l).2=0→(∀e∈l,e.check=0)∧(∀e,l.head?=some e→p.all (fun q=>e.after q)=true)∧(∀k (h:k+1<l.length),l[k+1].after l[k]=true)
 |[],_,_,_=>⟨by simp,by simp,by simp⟩
 | e :: r, p, i, h => by
  rw [fI] at h
  split at h
  ·rename_i h1;exact absurd h h1
  ·rename_i h1
   split at h
   ·simp at h
   ·rename_i h2
    obtain ⟨g1,g2,g3⟩:=Vj r (some e) (i+1) h
    refine ⟨?_,?_,?_⟩
    ·intro x hx
     rcases List.mem_cons.1 hx with rfl|hx
     ·simpa using h1
     ·exact g1 x hx
    ·intro x hx
     simp at hx;subst hx;simpa using h2
    ·intro k hk
     cases k with
     |zero=>
      cases r with
      |nil=>simp at hk
      |cons y r=>exact by simpa using g2 y rfl
     |succ k=>exact g3 k (by simpa using hk)
theorem qrj {e:Ev} (h:e.check=0):e.at.right=true:=by simp_all [Bs.right,Ev.at,EP]
theorem qos {e q:Ev} (h:e.after q=true):q.at.behind e=true:=by grind [Bs.behind,Ev.after,Ev.at]
theorem qtw {b:Bs} {l:List Ev} (hr:(eu l).2=0) (hb:b.right=true) (hh:l.head?.all b.behind=true) (k:Nat) (hk:k<l.length):q9 (GY b l k) l[k]=0:=by
 obtain ⟨g1,_,g3⟩:=Vj l none 0 hr
 unfold q9
 rw [if_neg (by simp [g1 l[k] (List.getElem_mem _)]),if_pos]
 cases k with
 |zero=>
  refine ⟨hb,?_⟩
  cases l with
  |nil=>simp at hk
  |cons y r=>show b.behind y=true;simpa using hh
 |succ k=>
  have e:GY b l (k+1)=l[k].at:=by show (match l[k]? with|some e=>e.at|none=>b)=_;rw [List.getElem?_eq_getElem om]
  rw [e]
  exact ⟨qrj (g1 l[k] (List.getElem_mem _)),qos (g3 k hk)⟩
theorem Vk (b:Bs) (e:Ev):(zi b e).length≤61:=by grind [q6,zi,Df,Vh]
theorem qyt:∀(j:Nat) (l:List Nat),(aY j l).2.1≤l.length:=by intro x;induction x<;>grind [aY,aA,ER]
theorem qyu (b:Bs) (cpu:Nat) (l:List Nat):(dz b cpu l).2.1≤l.length∧((dz b cpu l).2.2=0→0<(dz b cpu l).2.1):=by grind [qyt,q8e,dz,aJ]
def kg (es:List Ev) (a:Nat) (q:List Ev×Nat×Nat):List Ev×Nat×Nat:=if q.2.2≠0 then ([],0,q.2.2) else (es++q.1,a+q.2.1,0)
theorem qyv {cpu j:Nat} {bk:Bs} {p:Option Ev} {lk:List Nat} {e:Ev} {mm er:Nat} (hq:dz bk cpu lk=(e,mm,er)) (h:er≠0) (es:List Ev) (a:Nat):kg es a (ni cpu (j+1) bk p lk)=([],0,er):=by grind [kg,ni]
theorem qwk {cpu j:Nat} {bk:Bs} {p:Option Ev} {lk:List Nat} {e:Ev} {mm:Nat} (hq:dz bk cpu lk=(e,mm,0)) (hp:p.any (fun q=>decide (e.seq=q.seq))=true) (es:List Ev) (a:Nat):kg es a (ni cpu (j+1) bk p lk)=([],0,71):=by
 have e1:ni cpu (j+1) bk p lk=([],0,71):=by rw [ni,hq,if_neg (by simp),if_pos hp]
 rw [e1];rfl
theorem qwl {cpu j:Nat} {bk:Bs} {p:Option Ev} {lk:List Nat} {e:Ev} {mm:Nat} (hq:dz bk cpu lk=(e,mm,0)) (hp:p.any (fun q=>decide (e.seq=q.seq))=false) (es:List Ev) (a:Nat):kg es a (ni cpu (j+1) bk p lk)=kg (es++[e]) (a+mm) (ni cpu j e.at (some e) (lk.drop mm)):=by grind [kg,ni]
theorem qwm (cpu:Nat):∀(j:Nat) (b:Bs) (p:Option Ev) (l:List Nat),(ni cpu j b p l).2.2≠0→ni cpu j b p l=([],0,(ni cpu j b p l).2.2):=by intro x;cases x<;>grind [ni]
theorem qyw (cpu j:Nat) (b:Bs) (p:Option Ev) (l:List Nat):kg [] 0 (ni cpu j b p l)=ni cpu j b p l:=by grind [kg,ni,qwm]
theorem q8f {w:World} {B n:Nat} {A:Option Addr} {l:List Ev} (h:Rd w B 11 A n (l.flatMap eF)):l.length=n:=by
 have h1:=h.len
 have h2:(l.flatMap eF).length=l.length*11:=by
  clear h h1
  induction l with
  |nil=>rfl
  |cons e l ih=>rw [List.flatMap_cons,List.length_append,ih,zf,List.length_cons];omega
 omega
theorem Laid.mem {B:Nat} {W w:World} {fs:List Fact} (h:Laid B W) (hM:Mem W w fs) (hB:B≤W.heap.size):Laid B w:=h.below hM.below hB
end Go.Proofs.YtekiimhdnigmcaaGreatDoor
