/- A part of the proof. -/
import Derived.Test.YtekiimhdnigmcaaGreatDoorQwNum
set_option linter.all false
namespace Go.Proofs.YtekiimhdnigmcaaGreatDoor
open Go.RowKit
open List renaming length→abk
open Nat renaming le_refl→abo,lt_or_ge→acj
open _root_.List renaming drop_of_length_le→acw,getElem_of_mem→acz,all_eq_true→acH,range→ac4,mem_range→afF
variable {n:Nat} {p:Nat→Bool}
theorem O9 {α β:Type} {f g:α→Option β}:∀{l:List α},(∀x∈l,f x=g x)→l.filterMap f=l.filterMap g:=by intro x;induction x<;>grind
def gN (n:Nat) (p:Nat→Bool):Bool:=(ac4 n).all p
theorem uL (h:∀i,i<n→p i=true):gN n p=true:=acH.2 λi hi=>h i (afF.1 hi)
theorem uM (h:gN n p=true) {i:Nat} (hi:i<n):p i=true:=acH.1 h i (afF.2 hi)
theorem zR {i:Nat} (hi:i<n) (h:p i=false):gN n p=false:=by grind [gN,uM]
def fE (k:Nat) (p:Nat→Bool):Prop:=∀i,i<k→p i=true
theorem fE.zero:fE 0 p:=λi h=>by omega
theorem fE.succ {k:Nat} (h:fE k p) (hk:p k=true):fE (k+1) p:=λi hi=>by
 rcases acj i k with h1|h1
 ·exact h i h1
 ·obtain rfl:i=k:=by omega
  exact hk
theorem fE.all (h:fE n p):gN n p=true:=uL h
structure Gr where
 parent:Int
 weight:Int
structure Tk where
 id:Int
 group:Int
 weight:Int
 cpu:Int
 mask:Nat
 ready:Bool
 v:Nat
 r:Nat
structure Sp where
 v:Nat
 r:Nat
 floor:Nat
def Gr.zero:Gr:=⟨0,0⟩
def Tk.zero:Tk:=⟨0,0,0,0,0,false,0,0⟩
def Sp.zero:Sp:=⟨0,0,0⟩
instance XH:DecidableEq Gr:=λ⟨a,b⟩ ⟨c,d⟩=>decidable_of_iff (a=c∧b=d) (by rw [Gr.mk.injEq])
instance XI:DecidableEq Tk:=λ⟨a,b,c,d,e,f,g,h⟩ ⟨i,j,k,l,m,n,o,p⟩=>decidable_of_iff (a=i∧b=j∧c=k∧d=l∧e=m∧f=n∧g=o∧h=p) (by rw [Tk.mk.injEq])
instance XJ:DecidableEq Sp:=λ⟨a,b,c⟩ ⟨d,e,f⟩=>decidable_of_iff (a=d∧b=e∧c=f) (by rw [Sp.mk.injEq])
structure Gr.Ok (x:Gr):Prop where
 parent:aQ x.parent
 weight:aQ x.weight
structure Tk.Ok (x:Tk):Prop where
 id:aQ x.id
 group:aQ x.group
 weight:aQ x.weight
 cpu:aQ x.cpu
 mask:x.mask<18446744073709551616
 v:x.v<18446744073709551616
 r:x.r<4294967296
structure Sp.Ok (x:Sp):Prop where
 v:x.v<18446744073709551616
 r:x.r<4294967296
 floor:x.floor<18446744073709551616
structure aY where
 ak:Int
 aj:Nat
 gs:List Gr
 cl:List Int
 cu:List Int
 ts:List Tk
 sp:List (List Sp)
structure aY.Ok (s:aY):Prop where
 ak:aQ s.ak
 aj:s.aj<18446744073709551616
 gs:∀x∈s.gs,x.Ok
 cl:∀x∈s.cl,aQ x
 cu:∀x∈s.cu,aQ x
 ts:∀x∈s.ts,x.Ok
 sp:∀l∈s.sp,∀x∈l,x.Ok
def aY.spot (s:aY) (g c:Nat):Sp:=(s.sp.getD g []).getD c Sp.zero
def aY.par (s:aY) (g:Nat):Int:=(s.gs.getD g Gr.zero).parent
def jl (l:List Gr):Nat→Nat→Nat
 |0,_=>0
 |f+1,g=>if g=0 then 0 else jl l f (l.getD g Gr.zero).parent.toNat+1
def iJ (l:List Gr) (g:Nat):Nat:=jl l g g
def dS (l:List Gr) (g:Nat):Prop:=0≤(l.getD g Gr.zero).parent∧(l.getD g Gr.zero).parent<g
def lV (w:Int):Bool:=decide (1≤w∧w≤65536)
def o7 (l:List Gr) (g:Nat):Bool:=g==0||decide (0≤(l.getD g Gr.zero).parent∧(l.getD g Gr.zero).parent<g∧(lV (l.getD g Gr.zero).weight=true)∧iJ l g≤4)
def bV (l:List Gr):Bool:=decide (1≤abk l∧abk l≤256∧l.getD 0 Gr.zero=⟨0,1⟩)&&gN (abk l) (o7 l)
variable {l:List Gr}
theorem q3c:∀(f g:Nat),(∀i,0<i→i≤g→dS l i)→g≤f→jl l f g=jl l g g:=by
 have key:∀(g f a:Nat),(∀i,0<i→i≤g→dS l i)→g≤f→g≤a→jl l f g=jl l a g:=by
  intro g
  induction g using Nat.strongRecOn with
  | _ g c =>
   intro f a b h1 h2
   by_cases h0:g=0
   ·subst h0
    cases f<;>cases a<;>simp [jl]
   ·obtain ⟨f,rfl⟩:∃k,f=k+1:=⟨f-1,by omega⟩
    obtain ⟨a,rfl⟩:∃k,a=k+1:=⟨a-1,by omega⟩
    have d:=b g (by omega) (abo _)
    grind [Gr.zero,dS,jl]
 grind
def q3d (l:List Gr):iJ l 0=0:=rfl
theorem Pb {g:Nat} (h:∀i,0<i→i≤g→dS l i) (h0:0<g):iJ l g=iJ l (l.getD g Gr.zero).parent.toNat+1:=by
 obtain ⟨k,rfl⟩:∃k,g=k+1:=⟨g-1,by omega⟩
 have a:=h (k+1) h0 (abo _)
 unfold dS at a
 show jl l (k+1) (k+1)=_
 rw [jl,if_neg (by omega),q3c k _ (λi hi b=>h i hi (by omega)) (by omega)]
 rfl
def KY {g:Nat} (h:o7 l g=true) (h0:0<g):dS l g:=by
 unfold o7 at h
 rw [Bool.or_eq_true,beq_iff_eq,decide_eq_true_eq] at h
 rcases h with h|h
 ·omega
 ·exact ⟨h.1,h.2.1⟩
theorem qp (h:bV l=true):1≤abk l∧abk l≤256∧l.getD 0 Gr.zero=⟨0,1⟩∧∀g,g<abk l→o7 l g=true:=by grind [uM,bV]
def bL (v r:Nat) (w:Int):Bool:=decide (1≤w∧w≤65536∧(r:Int)<w∧(v<18446744073709551615∨r=0))
def wX (mask:Nat) (ak:Int):Bool:=decide (2^ak.toNat≤mask)
def dJ (s:aY) (t:Tk):Bool:=
 decide (1≤t.id∧t.id≤65535∧0≤t.group∧t.group<abk s.sp∧0≤t.cpu∧t.cpu<s.ak)&& (lV t.weight&& (!wX t.mask s.ak&& (decide (t.mask/2^t.cpu.toNat%2=1)&&bL t.v t.r t.weight)))
def fF (s:aY):Bool:=decide (1≤s.ak∧s.ak≤64∧s.aj≤1099511627776)&&bV s.gs
def gU (t:Int):Bool:=decide (0≤t∧t≤281474976710656)
def dK (s:aY) (g:Nat) (x:Sp):Bool:=bL x.v x.r (s.gs.getD g Gr.zero).weight&& (g !=0||decide (x.v=0∧x.r=0))
def rowOk (s:aY) (g:Nat):Bool:=decide (abk (s.sp.getD g [])=s.ak)&&gN (abk (s.sp.getD g [])) λc=>dK s g (s.spot g c)
def iP (s:aY) (i:Nat):Bool:=(i==0||decide ((s.ts.getD (i-1) Tk.zero).id<(s.ts.getD i Tk.zero).id))&&dJ s (s.ts.getD i Tk.zero)
def KZ (s:aY):Bool:=decide ((abk s.cl:Int)=s.ak∧(abk s.cu:Int)=s.ak∧abk s.sp=abk s.gs)
def nk (s:aY):Bool:=(fF s&&KZ s)&& (gN (abk s.cl) (λc=>gU (s.cl.getD c 0))&& (gN (abk s.sp) (rowOk s)&&gN (abk s.ts) (iP s)))
structure Mb where
 v:Nat
 k:Nat
 id:Nat
def Mb.lt (a b:Mb):Bool:=decide (a.v<b.v∨a.v=b.v∧(a.k<b.k∨a.k=b.k∧a.id<b.id))
def aJ (b:Mb) (l:List Mb):Mb:=l.foldl (λb x=>if x.lt b then x else b) b
def bB:Mb:=⟨18446744073709551615,18446744073709551615,18446744073709551615⟩
def Tk.here (t:Tk) (g c:Nat):Bool:=t.ready&& (decide (t.group=g)&&decide (t.cpu=c))
def uN (t:Tk) (g c:Nat):Option Mb:=if t.here g c then some ⟨t.v,0,t.id.toNat⟩ else none
def kS (s:aY) (c:Nat) (m:Nat→List Mb) (g h:Nat):Option Mb:=if s.par h=g∧m h≠[] then some ⟨(s.spot h c).v,1,h⟩ else none
def kT (s:aY) (c:Nat):Nat→Nat→List Mb
 |0,g=>s.ts.filterMap (uN · g c)
 |f+1,g=>s.ts.filterMap (uN · g c)++((ac4 (abk s.sp)).drop (g+1)).filterMap (kS s c (kT s c f) g)
def aO (s:aY) (g c:Nat):List Mb:=kT s c (abk s.sp-g) g
def kF (s:aY) (g c:Nat):Bool:=decide (aO s g c=[]∨(aJ bB (aO s g c)).v≤(s.spot g c).floor)
def fQ (l:List Tk) (id:Int):Option Nat:=l.findIdx? λt=>t.id==id
def dV (s:aY) (c:Nat):Bool:=decide (s.cu.getD c 0=0)||match fQ s.ts (s.cu.getD c 0) with
 |some i=>(s.ts.getD i Tk.zero).ready&&decide ((s.ts.getD i Tk.zero).cpu=c)
 |none=>false
def kD (s:aY):Bool:=nk s&&gN (abk s.cu) λc=>dV s c&&gN (abk s.sp) λg=>kF s g c
theorem q3e {s:aY} {c:Nat}:∀(n f a g:Nat),abk s.sp-g≤n→n≤f→n≤a→kT s c f g=kT s c a g:=by
 intro n
 induction n with
 | zero =>
  intro f a g b _ _
  have e:∀f,kT s c f g=s.ts.filterMap (uN · g c):=by
   intro f
   cases f with
   |zero=>rfl
   |succ f=>
    rw [kT,acw (by simp;omega)]
    simp
  rw [e f,e a]
 | succ n j =>
  intro f a g b h1 h2
  obtain ⟨f,rfl⟩:∃k,f=k+1:=⟨f-1,by omega⟩
  obtain ⟨a,rfl⟩:∃k,a=k+1:=⟨a-1,by omega⟩
  rw [kT,kT]
  congr 1
  refine O9 λh d=>?_
  have l:g<h:=by
   obtain ⟨i,hi,rfl⟩:=acz d
   grind
  grind [kS]
theorem K3 (s:aY) (g c:Nat):aO s g c=s.ts.filterMap (uN · g c)++((ac4 (abk s.sp)).drop (g+1)).filterMap (kS s c (λh=>aO s h c) g):=by
 unfold aO
 rcases acj g (abk s.sp) with a|a
 ·obtain ⟨k,b⟩:∃k,abk s.sp-g=k+1:=⟨abk s.sp-g-1,by omega⟩
  rw [b,kT]
  congr 1
  refine O9 λh d=>?_
  have e:g<h:=by
   obtain ⟨i,hi,rfl⟩:=acz d
   grind
  unfold kS
  rw [q3e (abk s.sp-h) k (abk s.sp-h) h (abo _) (by omega) (abo _)]
 ·rw [show abk s.sp-g=0 by omega,kT,acw (by simp;omega)]
  simp
end Go.Proofs.YtekiimhdnigmcaaGreatDoor
