/- A part of the proof. -/
import Derived.Test.YtekiimhdnigmcaaGreatDoorQsCodS
import Derived.Test.YtekiimhdnigmcaaGreatDoorQsStr
import Derived.Test.YtekiimhdnigmcaaGreatDoorQsSep2
set_option linter.all false
namespace Go.Proofs.YtekiimhdnigmcaaGreatDoor
open Go.RowKit
theorem Mq (e:Ev):e.vals.length≤4:=by unfold Ev.vals;rw [List.length_map];exact qO _
theorem eZ:SI Tryz.prog 110 2:=⟨by kernel_rfl,by kernel_rfl⟩
theorem zf (e:Ev):∀v∈e.cells.toList,v.oneCell'=true:=by intro v hv;simp [Ev.cells] at hv;rcases hv with rfl|rfl|rfl|rfl|rfl|rfl|rfl|rfl|rfl|rfl|rfl<;>rfl
theorem Ct (b:Bs):∀v∈b.cells.toList,v.oneCell'=true:=by intro v hv;simp [Bs.cells] at hv;rcases hv with rfl|rfl<;>rfl
def aN (e:Ev):List Value:=e.cells.toList
theorem qv (e:Ev):(aN e).length=11:=rfl
def yU (b:Bs) (l:List Ev):Nat→Bs
 |0=>b
 |k+1=>match l[k]? with|some e=>e.at|none=>b
theorem Mr:∀(l:List Ev) (p:Option Ev) (i:Nat),(bW p i l).2=0→(∀e∈l,e.check=0)∧(∀e,l.head?=some e→p.all (fun q=>e.after q)=true)∧(∀k (h:k+1<l.length),l[k+1].after l[k]=true)
 |[],_,_,_=>⟨by simp,by simp,by simp⟩
 | e :: r, p, i, h => by
  rw [bW] at h
  split at h
  ·rename_i h1;exact absurd h h1
  ·rename_i h1
   split at h
   ·simp at h
   ·rename_i h2
    obtain ⟨g1,g2,g3⟩:=Mr r (some e) (i+1) h
    refine ⟨?_,?_,?_⟩
    ·intro x hx
     rcases List.mem_cons.1 hx with rfl|hx
     ·simpa using h1
     ·exact g1 x hx
    ·intro x hx
     simp at hx;subst hx;simpa using h2
    ·intro k hk
     cases k with
     |zero=>
      cases r with
      |nil=>simp at hk
      |cons y r=>exact by simpa using g2 y rfl
     |succ k=>exact g3 k (by simpa using hk)
theorem qqn {e:Ev} (h:e.check=0):e.at.right=true:=by
 have ⟨_,_,_,h1,h2,h3,h4⟩:=nu h
 unfold Ev.at Bs.right
 simp only [decide_eq_true_eq]
 exact ⟨h1,h2,h3,h4⟩
theorem qn9 {e q:Ev} (h:e.after q=true):q.at.behind e=true:=by
 unfold Ev.after at h
 unfold Ev.at Bs.behind
 simp only [decide_eq_true_eq] at h⊢
 omega
theorem Tv {b:Bs} {l:List Ev} (hr:(bL l).2=0) (hb:b.right=true) (hh:l.head?.all b.behind=true) (k:Nat) (hk:k<l.length):qs (yU b l k) l[k]=0:=by
 obtain ⟨g1,_,g3⟩:=Mr l none 0 hr
 unfold qs
 rw [if_neg (by simp [g1 l[k] (List.getElem_mem _)]),if_pos]
 cases k with
 |zero=>
  refine ⟨hb,?_⟩
  cases l with
  |nil=>simp at hk
  |cons y r=>show b.behind y=true;simpa using hh
 |succ k=>
  have e:yU b l (k+1)=l[k].at:=by show (match l[k]? with|some e=>e.at|none=>b)=_;rw [List.getElem?_eq_getElem om]
  rw [e]
  exact ⟨qqn (g1 l[k] (List.getElem_mem _)),qn9 (g3 k hk)⟩
theorem Ms (b:Bs) (e:Ev):(qq b e).length≤61:=by
 unfold qq
 rw [List.length_cons]
 have h1:=uO (pz b e)
 have h2:(pz b e).length≤6:=by have:=Mq e;unfold pz;simp;omega
 omega
theorem Tw:∀(j:Nat) (l:List Nat),(aH j l).2.1≤l.length
 |0,_=>by simp [aH]
 | j + 1, l => by
  have h1:=uw l
  have h2:=Tw j (l.drop (av l).2.1)
  rw [List.length_drop] at h2
  rw [aH]
  split
  ·simp
  ·split
   ·simp
   ·show _+_≤_;omega
theorem IE (b:Bs) (cpu:Nat) (l:List Nat):(aG b cpu l).2.1≤l.length∧((aG b cpu l).2.2=0→0<(aG b cpu l).2.1):=by
 unfold aG
 split
 ·simp
 ·split
  ·simp
  ·split
   ·simp
   ·rename_i h0 _
    unfold j5
    have h1:=Tw (2+(aj (l.getD 0 0)).length) (l.drop 1)
    rw [List.length_drop] at h1
    have h2:0<l.length:=List.length_pos_iff.2 h0
    split
    ·rename_i h;exact ⟨Nat.zero_le _,fun h'=>absurd h' h⟩
    ·split
     ·simp
     ·split
      ·simp
      ·exact ⟨by show 1+_≤_;omega,fun _=>by show 0<1+_;omega⟩
theorem oL:EI Tryz.prog 83 73 (.agg Ev.zero.cells) 11 80:=⟨by kernel_rfl,by kernel_rfl,rfl,by omega⟩
def dL (es:List Ev) (a:Nat) (q:List Ev×Nat×Nat):List Ev×Nat×Nat:=if q.2.2≠0 then ([],0,q.2.2) else (es++q.1,a+q.2.1,0)
theorem Tx {cpu j:Nat} {bk:Bs} {p:Option Ev} {lk:List Nat} {e:Ev} {mm er:Nat} (hq:aG bk cpu lk=(e,mm,er)) (h:er≠0) (es:List Ev) (a:Nat):dL es a (qj cpu (j+1) bk p lk)=([],0,er):=by
 have e1:qj cpu (j+1) bk p lk=([],0,er):=by rw [qj,hq,if_pos h]
 rw [e1];unfold dL;rw [if_pos h]
theorem Tz {cpu j:Nat} {bk:Bs} {p:Option Ev} {lk:List Nat} {e:Ev} {mm:Nat} (hq:aG bk cpu lk=(e,mm,0)) (hp:p.any (fun q=>decide (e.seq=q.seq))=true) (es:List Ev) (a:Nat):dL es a (qj cpu (j+1) bk p lk)=([],0,71):=by
 have e1:qj cpu (j+1) bk p lk=([],0,71):=by rw [qj,hq,if_neg (by simp),if_pos hp]
 rw [e1];rfl
theorem TA {cpu j:Nat} {bk:Bs} {p:Option Ev} {lk:List Nat} {e:Ev} {mm:Nat} (hq:aG bk cpu lk=(e,mm,0)) (hp:p.any (fun q=>decide (e.seq=q.seq))=false) (es:List Ev) (a:Nat):dL es a (qj cpu (j+1) bk p lk)=dL (es++[e]) (a+mm) (qj cpu j e.at (some e) (lk.drop mm)):=by
 rw [qj,hq,if_neg (by simp),if_neg (by simp [hp])]
 simp only
 by_cases h:(qj cpu j e.at (some e) (lk.drop mm)).2.2=0
 ·rw [if_neg om];unfold dL;rw [if_neg (by simp),if_neg om];simp;omega
 ·rw [if_pos h];unfold dL;rw [if_pos h,if_pos h]
theorem qtr (cpu:Nat):∀(j:Nat) (b:Bs) (p:Option Ev) (l:List Nat),(qj cpu j b p l).2.2≠0→qj cpu j b p l=([],0,(qj cpu j b p l).2.2)
 |0,_,_,_,h=>absurd rfl h
 | j + 1, b, p, l, h => by
  rw [qj] at h⊢
  split
  ·rfl
  ·split
   ·rfl
   ·split
    ·rfl
    ·rename_i h1 h2 h3
     rw [if_neg h1,if_neg h2,if_neg h3] at h
     exact absurd rfl h
theorem TB (cpu j:Nat) (b:Bs) (p:Option Ev) (l:List Nat):dL [] 0 (qj cpu j b p l)=qj cpu j b p l:=by
 unfold dL
 by_cases h:(qj cpu j b p l).2.2=0
 ·rw [if_neg om]
  generalize qj cpu j b p l=q at*
  obtain ⟨x,y,z⟩:=q
  simp only at h
  simp [h]
 ·rw [if_pos h];exact (qtr cpu j b p l h).symm
def Mt (m:Int) (l:List Nat):Prop:=m≤1000000000000∨l.length≤1000000000000
theorem TD {w:World} {B n:Nat} {A:Option Addr} {l:List Ev} (h:Rd w B 11 A n (l.flatMap aN)):l.length=n:=by
 have h1:=h.len
 have h2:(l.flatMap aN).length=l.length*11:=by
  clear h h1
  induction l with
  |nil=>rfl
  |cons e l ih=>rw [List.flatMap_cons,List.length_append,ih,qv,List.length_cons];omega
 omega
theorem Laid.mem {B:Nat} {W w:World} {fs:List Fact} (h:Laid B W) (hM:Mem W w fs) (hB:B≤W.heap.size):Laid B w:=h.below hM.below hB
end Go.Proofs.YtekiimhdnigmcaaGreatDoor
