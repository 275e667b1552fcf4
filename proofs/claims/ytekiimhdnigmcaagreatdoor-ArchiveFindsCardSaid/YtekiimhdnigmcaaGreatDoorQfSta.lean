/- A part of the proof. -/
import Derived.Test.YtekiimhdnigmcaaGreatDoorQfNum
set_option linter.all false
namespace Go.Proofs.YtekiimhdnigmcaaGreatDoor
open Go.RowKit
open List renaming length→abl
open Nat renaming le_refl→abq,lt_or_ge→ab7
open _root_.List renaming drop_of_length_le→acp,getElem_of_mem→acB,all_eq_true→acC,range→acW,mem_range→afB
variable {n:Nat} {p:Nat→Bool}
theorem Oq {α β:Type} {f g:α→Option β}:∀{l:List α},(∀x∈l,f x=g x)→l.filterMap f=l.filterMap g:=by intro x;induction x<;>grind
def gJ (n:Nat) (p:Nat→Bool):Bool:=(acW n).all p
theorem uy (h:∀i,i<n→p i=true):gJ n p=true:=acC.2 λi hi=>h i (afB.1 hi)
theorem uz (h:gJ n p=true) {i:Nat} (hi:i<n):p i=true:=acC.1 h i (afB.2 hi)
theorem zD {i:Nat} (hi:i<n) (h:p i=false):gJ n p=false:=by grind [gJ,uz]
def fB (k:Nat) (p:Nat→Bool):Prop:=∀i,i<k→p i=true
theorem fB.zero:fB 0 p:=λi h=>by omega
theorem fB.succ {k:Nat} (h:fB k p) (hk:p k=true):fB (k+1) p:=λi hi=>by
 rcases ab7 i k with h1|h1
 ·exact h i h1
 ·obtain rfl:i=k:=by omega
  exact hk
theorem fB.all (h:fB n p):gJ n p=true:=uy h
structure Gr where
 parent:Int
 weight:Int
structure Tk where
 id:Int
 group:Int
 weight:Int
 cpu:Int
 mask:Nat
 ready:Bool
 v:Nat
 r:Nat
structure Sp where
 v:Nat
 r:Nat
 floor:Nat
def Gr.zero:Gr:=⟨0,0⟩
def Tk.zero:Tk:=⟨0,0,0,0,0,false,0,0⟩
def Sp.zero:Sp:=⟨0,0,0⟩
instance WZ:DecidableEq Gr:=λ⟨a,b⟩ ⟨c,d⟩=>decidable_of_iff (a=c∧b=d) (by rw [Gr.mk.injEq])
instance W9:DecidableEq Tk:=λ⟨a,b,c,d,e,f,g,h⟩ ⟨i,j,k,l,m,n,o,p⟩=>decidable_of_iff (a=i∧b=j∧c=k∧d=l∧e=m∧f=n∧g=o∧h=p) (by rw [Tk.mk.injEq])
instance Xa:DecidableEq Sp:=λ⟨a,b,c⟩ ⟨d,e,f⟩=>decidable_of_iff (a=d∧b=e∧c=f) (by rw [Sp.mk.injEq])
structure Gr.Ok (x:Gr):Prop where
 parent:aR x.parent
 weight:aR x.weight
structure Tk.Ok (x:Tk):Prop where
 id:aR x.id
 group:aR x.group
 weight:aR x.weight
 cpu:aR x.cpu
 mask:x.mask<18446744073709551616
 v:x.v<18446744073709551616
 r:x.r<4294967296
structure Sp.Ok (x:Sp):Prop where
 v:x.v<18446744073709551616
 r:x.r<4294967296
 floor:x.floor<18446744073709551616
structure aW where
 ak:Int
 aj:Nat
 gs:List Gr
 cl:List Int
 cu:List Int
 ts:List Tk
 sp:List (List Sp)
structure aW.Ok (s:aW):Prop where
 ak:aR s.ak
 aj:s.aj<18446744073709551616
 gs:∀x∈s.gs,x.Ok
 cl:∀x∈s.cl,aR x
 cu:∀x∈s.cu,aR x
 ts:∀x∈s.ts,x.Ok
 sp:∀l∈s.sp,∀x∈l,x.Ok
def aW.spot (s:aW) (g c:Nat):Sp:=(s.sp.getD g []).getD c Sp.zero
def aW.par (s:aW) (g:Nat):Int:=(s.gs.getD g Gr.zero).parent
def ji (l:List Gr):Nat→Nat→Nat
 |0,_=>0
 |f+1,g=>if g=0 then 0 else ji l f (l.getD g Gr.zero).parent.toNat+1
def iG (l:List Gr) (g:Nat):Nat:=ji l g g
def dP (l:List Gr) (g:Nat):Prop:=0≤(l.getD g Gr.zero).parent∧(l.getD g Gr.zero).parent<g
def lN (w:Int):Bool:=decide (1≤w∧w≤65536)
def oQ (l:List Gr) (g:Nat):Bool:=g==0||decide (0≤(l.getD g Gr.zero).parent∧(l.getD g Gr.zero).parent<g∧(lN (l.getD g Gr.zero).weight=true)∧iG l g≤4)
def bU (l:List Gr):Bool:=decide (1≤abl l∧abl l≤256∧l.getD 0 Gr.zero=⟨0,1⟩)&&gJ (abl l) (oQ l)
variable {l:List Gr}
theorem q2x:∀(f g:Nat),(∀i,0<i→i≤g→dP l i)→g≤f→ji l f g=ji l g g:=by
 have key:∀(g f a:Nat),(∀i,0<i→i≤g→dP l i)→g≤f→g≤a→ji l f g=ji l a g:=by
  intro g
  induction g using Nat.strongRecOn with
  | _ g c =>
   intro f a b h1 h2
   by_cases h0:g=0
   ·subst h0
    cases f<;>cases a<;>simp [ji]
   ·obtain ⟨f,rfl⟩:∃k,f=k+1:=⟨f-1,by omega⟩
    obtain ⟨a,rfl⟩:∃k,a=k+1:=⟨a-1,by omega⟩
    have d:=b g (by omega) (abq _)
    grind [Gr.zero,dP,ji]
 grind
def q2y (l:List Gr):iG l 0=0:=rfl
theorem Ot {g:Nat} (h:∀i,0<i→i≤g→dP l i) (h0:0<g):iG l g=iG l (l.getD g Gr.zero).parent.toNat+1:=by
 obtain ⟨k,rfl⟩:∃k,g=k+1:=⟨g-1,by omega⟩
 have a:=h (k+1) h0 (abq _)
 unfold dP at a
 show ji l (k+1) (k+1)=_
 rw [ji,if_neg (by omega),q2x k _ (λi hi b=>h i hi (by omega)) (by omega)]
 rfl
def KF {g:Nat} (h:oQ l g=true) (h0:0<g):dP l g:=by
 unfold oQ at h
 rw [Bool.or_eq_true,beq_iff_eq,decide_eq_true_eq] at h
 rcases h with h|h
 ·omega
 ·exact ⟨h.1,h.2.1⟩
theorem qp (h:bU l=true):1≤abl l∧abl l≤256∧l.getD 0 Gr.zero=⟨0,1⟩∧∀g,g<abl l→oQ l g=true:=by grind [uz,bU]
def bK (v r:Nat) (w:Int):Bool:=decide (1≤w∧w≤65536∧(r:Int)<w∧(v<18446744073709551615∨r=0))
def wM (mask:Nat) (ak:Int):Bool:=decide (2^ak.toNat≤mask)
def dH (s:aW) (t:Tk):Bool:=
 decide (1≤t.id∧t.id≤65535∧0≤t.group∧t.group<abl s.sp∧0≤t.cpu∧t.cpu<s.ak)&& (lN t.weight&& (!wM t.mask s.ak&& (decide (t.mask/2^t.cpu.toNat%2=1)&&bK t.v t.r t.weight)))
def fC (s:aW):Bool:=decide (1≤s.ak∧s.ak≤64∧s.aj≤1099511627776)&&bU s.gs
def gP (t:Int):Bool:=decide (0≤t∧t≤281474976710656)
def dI (s:aW) (g:Nat) (x:Sp):Bool:=bK x.v x.r (s.gs.getD g Gr.zero).weight&& (g !=0||decide (x.v=0∧x.r=0))
def rowOk (s:aW) (g:Nat):Bool:=decide (abl (s.sp.getD g [])=s.ak)&&gJ (abl (s.sp.getD g [])) λc=>dI s g (s.spot g c)
def iN (s:aW) (i:Nat):Bool:=(i==0||decide ((s.ts.getD (i-1) Tk.zero).id<(s.ts.getD i Tk.zero).id))&&dH s (s.ts.getD i Tk.zero)
def KG (s:aW):Bool:=decide ((abl s.cl:Int)=s.ak∧(abl s.cu:Int)=s.ak∧abl s.sp=abl s.gs)
def mY (s:aW):Bool:=(fC s&&KG s)&& (gJ (abl s.cl) (λc=>gP (s.cl.getD c 0))&& (gJ (abl s.sp) (rowOk s)&&gJ (abl s.ts) (iN s)))
structure Mb where
 v:Nat
 k:Nat
 id:Nat
def Mb.lt (a b:Mb):Bool:=decide (a.v<b.v∨a.v=b.v∧(a.k<b.k∨a.k=b.k∧a.id<b.id))
def aJ (b:Mb) (l:List Mb):Mb:=l.foldl (λb x=>if x.lt b then x else b) b
def bB:Mb:=⟨18446744073709551615,18446744073709551615,18446744073709551615⟩
def Tk.here (t:Tk) (g c:Nat):Bool:=t.ready&& (decide (t.group=g)&&decide (t.cpu=c))
def uD (t:Tk) (g c:Nat):Option Mb:=if t.here g c then some ⟨t.v,0,t.id.toNat⟩ else none
def kN (s:aW) (c:Nat) (m:Nat→List Mb) (g h:Nat):Option Mb:=if s.par h=g∧m h≠[] then some ⟨(s.spot h c).v,1,h⟩ else none
def kP (s:aW) (c:Nat):Nat→Nat→List Mb
 |0,g=>s.ts.filterMap (uD · g c)
 |f+1,g=>s.ts.filterMap (uD · g c)++((acW (abl s.sp)).drop (g+1)).filterMap (kN s c (kP s c f) g)
def aO (s:aW) (g c:Nat):List Mb:=kP s c (abl s.sp-g) g
def ko (s:aW) (g c:Nat):Bool:=decide (aO s g c=[]∨(aJ bB (aO s g c)).v≤(s.spot g c).floor)
def fJ (l:List Tk) (id:Int):Option Nat:=l.findIdx? λt=>t.id==id
def dR (s:aW) (c:Nat):Bool:=decide (s.cu.getD c 0=0)||match fJ s.ts (s.cu.getD c 0) with
 |some i=>(s.ts.getD i Tk.zero).ready&&decide ((s.ts.getD i Tk.zero).cpu=c)
 |none=>false
def kG (s:aW):Bool:=mY s&&gJ (abl s.cu) λc=>dR s c&&gJ (abl s.sp) λg=>ko s g c
theorem q2z {s:aW} {c:Nat}:∀(n f a g:Nat),abl s.sp-g≤n→n≤f→n≤a→kP s c f g=kP s c a g:=by
 intro n
 induction n with
 | zero =>
  intro f a g b _ _
  have e:∀f,kP s c f g=s.ts.filterMap (uD · g c):=by
   intro f
   cases f with
   |zero=>rfl
   |succ f=>
    rw [kP,acp (by simp;omega)]
    simp
  rw [e f,e a]
 | succ n j =>
  intro f a g b h1 h2
  obtain ⟨f,rfl⟩:∃k,f=k+1:=⟨f-1,by omega⟩
  obtain ⟨a,rfl⟩:∃k,a=k+1:=⟨a-1,by omega⟩
  rw [kP,kP]
  congr 1
  refine Oq λh d=>?_
  have l:g<h:=by
   obtain ⟨i,hi,rfl⟩:=acB d
   grind
  grind [kN]
theorem KH (s:aW) (g c:Nat):aO s g c=s.ts.filterMap (uD · g c)++((acW (abl s.sp)).drop (g+1)).filterMap (kN s c (λh=>aO s h c) g):=by
 unfold aO
 rcases ab7 g (abl s.sp) with a|a
 ·obtain ⟨k,b⟩:∃k,abl s.sp-g=k+1:=⟨abl s.sp-g-1,by omega⟩
  rw [b,kP]
  congr 1
  refine Oq λh d=>?_
  have e:g<h:=by
   obtain ⟨i,hi,rfl⟩:=acB d
   grind
  unfold kN
  rw [q2z (abl s.sp-h) k (abl s.sp-h) h (abq _) (by omega) (abq _)]
 ·rw [show abl s.sp-g=0 by omega,kP,acp (by simp;omega)]
  simp
end Go.Proofs.YtekiimhdnigmcaaGreatDoor
