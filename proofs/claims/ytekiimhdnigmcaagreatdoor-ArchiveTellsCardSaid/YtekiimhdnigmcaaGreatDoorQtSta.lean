/- A part of the proof. -/
import Derived.Test.YtekiimhdnigmcaaGreatDoorQtNum
namespace Go.Proofs.YtekiimhdnigmcaaGreatDoor
open Go.RowKit
theorem qfc {α β:Type} {f g:α→Option β}:∀{l:List α},(∀x∈l,f x=g x)→l.filterMap f=l.filterMap g:=by intro x;induction x<;>grind
def eB (n:Nat) (p:Nat→Bool):Bool:=(List.range n).all p
theorem q0l {n:Nat} {p:Nat→Bool} (h:∀i,i<n→p i=true):eB n p=true:=List.all_eq_true.2 fun i hi=>h i (List.mem_range.1 hi)
theorem DR {n:Nat} {p:Nat→Bool} (h:eB n p=true) {i:Nat} (hi:i<n):p i=true:=List.all_eq_true.1 h i (List.mem_range.2 hi)
theorem zj {n:Nat} {p:Nat→Bool} {i:Nat} (hi:i<n) (h:p i=false):eB n p=false:=by grind [eB,DR]
def bL (k:Nat) (p:Nat→Bool):Prop:=∀i,i<k→p i=true
theorem bL.zero {p:Nat→Bool}:bL 0 p:=fun i h=>by omega
theorem bL.succ {k:Nat} {p:Nat→Bool} (h:bL k p) (hk:p k=true):bL (k+1) p:=fun i hi=>by
 rcases Nat.lt_or_ge i k with h1|h1
 ·exact h i h1
 ·obtain rfl:i=k:=by omega
  exact hk
theorem bL.all {n:Nat} {p:Nat→Bool} (h:bL n p):eB n p=true:=q0l h
structure Gr where
 parent:Int
 weight:Int
structure Tk where
 id:Int
 group:Int
 weight:Int
 cpu:Int
 mask:Nat
 ready:Bool
 v:Nat
 r:Nat
structure Sp where
 v:Nat
 r:Nat
 floor:Nat
def Gr.zero:Gr:=⟨0,0⟩
def Tk.zero:Tk:=⟨0,0,0,0,0,false,0,0⟩
def Sp.zero:Sp:=⟨0,0,0⟩
instance adp:DecidableEq Gr:=fun ⟨a,b⟩ ⟨c,d⟩=>decidable_of_iff (a=c∧b=d) (by rw [Gr.mk.injEq])
instance adq:DecidableEq Tk:=fun ⟨a,b,c,d,e,f,g,h⟩ ⟨a',b',c',d',e',f',g',h'⟩=>decidable_of_iff (a=a'∧b=b'∧c=c'∧d=d'∧e=e'∧f=f'∧g=g'∧h=h') (by rw [Tk.mk.injEq])
instance adr:DecidableEq Sp:=fun ⟨a,b,c⟩ ⟨d,e,f⟩=>decidable_of_iff (a=d∧b=e∧c=f) (by rw [Sp.mk.injEq])
structure Gr.Ok (x:Gr):Prop where
 parent:bP x.parent
 weight:bP x.weight
structure Tk.Ok (x:Tk):Prop where
 id:bP x.id
 group:bP x.group
 weight:bP x.weight
 cpu:bP x.cpu
 mask:x.mask<18446744073709551616
 v:x.v<18446744073709551616
 r:x.r<4294967296
structure Sp.Ok (x:Sp):Prop where
 v:x.v<18446744073709551616
 r:x.r<4294967296
 floor:x.floor<18446744073709551616
structure mV where
 aB:Int
 ak:Nat
 gs:List Gr
 cl:List Int
 cu:List Int
 ts:List Tk
 sp:List (List Sp)
structure mV.Ok (s:mV):Prop where
 aB:bP s.aB
 ak:s.ak<18446744073709551616
 gs:∀x∈s.gs,x.Ok
 cl:∀x∈s.cl,bP x
 cu:∀x∈s.cu,bP x
 ts:∀x∈s.ts,x.Ok
 sp:∀l∈s.sp,∀x∈l,x.Ok
def mV.spot (s:mV) (g c:Nat):Sp:=(s.sp.getD g []).getD c Sp.zero
def mV.par (s:mV) (g:Nat):Int:=(s.gs.getD g Gr.zero).parent
def pV (l:List Gr):Nat→Nat→Nat
 |0,_=>0
 |f+1,g=>if g=0 then 0 else pV l f (l.getD g Gr.zero).parent.toNat+1
def gY (l:List Gr) (g:Nat):Nat:=pV l g g
def gK (l:List Gr) (g:Nat):Prop:=0≤(l.getD g Gr.zero).parent∧(l.getD g Gr.zero).parent<g
def FB (w:Int):Bool:=decide (1≤w∧w≤65536)
def sj (l:List Gr) (g:Nat):Bool:=g==0||decide (0≤(l.getD g Gr.zero).parent∧(l.getD g Gr.zero).parent<g∧(FB (l.getD g Gr.zero).weight=true)∧gY l g≤4)
def jv (l:List Gr):Bool:=decide (1≤l.length∧l.length≤256∧l.getD 0 Gr.zero=⟨0,1⟩)&&eB l.length (sj l)
theorem q0m {l:List Gr}:∀(f g:Nat),(∀i,0<i→i≤g→gK l i)→g≤f→pV l f g=pV l g g:=by
 have key:∀(g f f':Nat),(∀i,0<i→i≤g→gK l i)→g≤f→g≤f'→pV l f g=pV l f' g:=by
  intro g
  induction g using Nat.strongRecOn with
  | _ g ih =>
   intro f f' hp h1 h2
   by_cases h0:g=0
   ·subst h0
    cases f<;>cases f'<;>simp [pV]
   ·obtain ⟨f,rfl⟩:∃k,f=k+1:=⟨f-1,by omega⟩
    obtain ⟨f',rfl⟩:∃k,f'=k+1:=⟨f'-1,by omega⟩
    have hg:=hp g (by omega) (Nat.le_refl _)
    grind [Gr.zero,gK,pV]
 grind
theorem qpi (l:List Gr):gY l 0=0:=rfl
theorem Xc {l:List Gr} {g:Nat} (h:∀i,0<i→i≤g→gK l i) (h0:0<g):gY l g=gY l (l.getD g Gr.zero).parent.toNat+1:=by
 obtain ⟨k,rfl⟩:∃k,g=k+1:=⟨g-1,by omega⟩
 have hg:=h (k+1) h0 (Nat.le_refl _)
 unfold gK at hg
 show pV l (k+1) (k+1)=_
 rw [pV,if_neg (by omega),q0m k _ (fun i hi hl=>h i hi (by omega)) (by omega)]
 rfl
theorem Tj {l:List Gr} {g:Nat} (h:sj l g=true) (h0:0<g):gK l g:=by
 unfold sj at h
 rw [Bool.or_eq_true,beq_iff_eq,decide_eq_true_eq] at h
 rcases h with h|h
 ·omega
 ·exact ⟨h.1,h.2.1⟩
theorem Ll {l:List Gr} (h:jv l=true):1≤l.length∧l.length≤256∧l.getD 0 Gr.zero=⟨0,1⟩∧∀g,g<l.length→sj l g=true:=by grind [DR,jv]
def iC (v r:Nat) (w:Int):Bool:=decide (1≤w∧w≤65536∧(r:Int)<w∧(v<18446744073709551615∨r=0))
def Xd (mask:Nat) (aB:Int):Bool:=decide (2^aB.toNat≤mask)
def dF (s:mV) (t:Tk):Bool:=
 decide (1≤t.id∧t.id≤65535∧0≤t.group∧t.group<s.sp.length∧0≤t.cpu∧t.cpu<s.aB)&& (FB t.weight&& (!Xd t.mask s.aB&& (decide (t.mask/2^t.cpu.toNat%2=1)&&iC t.v t.r t.weight)))
def eO (s:mV):Bool:=decide (1≤s.aB∧s.aB≤64∧s.ak≤1099511627776)&&jv s.gs
def gL (t:Int):Bool:=decide (0≤t∧t≤281474976710656)
def gu (s:mV) (g:Nat) (x:Sp):Bool:=iC x.v x.r (s.gs.getD g Gr.zero).weight&& (g !=0||decide (x.v=0∧x.r=0))
def rowOk (s:mV) (g:Nat):Bool:=decide ((s.sp.getD g []).length=s.aB)&&eB (s.sp.getD g []).length fun c=>gu s g (s.spot g c)
def fC (s:mV) (i:Nat):Bool:=(i==0||decide ((s.ts.getD (i-1) Tk.zero).id<(s.ts.getD i Tk.zero).id))&&dF s (s.ts.getD i Tk.zero)
def Tn (s:mV):Bool:=decide ((s.cl.length:Int)=s.aB∧(s.cu.length:Int)=s.aB∧s.sp.length=s.gs.length)
def zw (s:mV):Bool:=(eO s&&Tn s)&& (eB s.cl.length (fun c=>gL (s.cl.getD c 0))&& (eB s.sp.length (rowOk s)&&eB s.ts.length (fC s)))
structure Mb where
 v:Nat
 k:Nat
 id:Nat
def Mb.lt (a b:Mb):Bool:=decide (a.v<b.v∨a.v=b.v∧(a.k<b.k∨a.k=b.k∧a.id<b.id))
def dx (b:Mb) (l:List Mb):Mb:=l.foldl (fun b x=>if x.lt b then x else b) b
def iU:Mb:=⟨18446744073709551615,18446744073709551615,18446744073709551615⟩
def Tk.here (t:Tk) (g c:Nat):Bool:=t.ready&& (decide (t.group=g)&&decide (t.cpu=c))
def su (t:Tk) (g c:Nat):Option Mb:=if t.here g c then some ⟨t.v,0,t.id.toNat⟩ else none
def kT (s:mV) (c:Nat) (m:Nat→List Mb) (g h:Nat):Option Mb:=if s.par h=g∧m h≠[] then some ⟨(s.spot h c).v,1,h⟩ else none
def pW (s:mV) (c:Nat):Nat→Nat→List Mb
 |0,g=>s.ts.filterMap (su · g c)
 |f+1,g=>s.ts.filterMap (su · g c)++((List.range s.sp.length).drop (g+1)).filterMap (kT s c (pW s c f) g)
def dB (s:mV) (g c:Nat):List Mb:=pW s c (s.sp.length-g) g
def iV (s:mV) (g c:Nat):Bool:=decide (dB s g c=[]∨(dx iU (dB s g c)).v≤(s.spot g c).floor)
def gy (l:List Tk) (id:Int):Option Nat:=l.findIdx? fun t=>t.id==id
def eP (s:mV) (c:Nat):Bool:=decide (s.cu.getD c 0=0)||match gy s.ts (s.cu.getD c 0) with
 |some i=>(s.ts.getD i Tk.zero).ready&&decide ((s.ts.getD i Tk.zero).cpu=c)
 |none=>false
def sV (s:mV):Bool:=zw s&&eB s.cu.length fun c=>eP s c&&eB s.sp.length fun g=>iV s g c
theorem q0o {s:mV} {c:Nat}:∀(n f f' g:Nat),s.sp.length-g≤n→n≤f→n≤f'→pW s c f g=pW s c f' g:=by
 intro n
 induction n with
 | zero =>
  intro f f' g hn _ _
  have e:∀f,pW s c f g=s.ts.filterMap (su · g c):=by
   intro f
   cases f with
   |zero=>rfl
   |succ f=>
    rw [pW,List.drop_of_length_le (by simp;omega)]
    simp
  rw [e f,e f']
 | succ n ih =>
  intro f f' g hn h1 h2
  obtain ⟨f,rfl⟩:∃k,f=k+1:=⟨f-1,by omega⟩
  obtain ⟨f',rfl⟩:∃k,f'=k+1:=⟨f'-1,by omega⟩
  rw [pW,pW]
  congr 1
  refine qfc fun h hh=>?_
  have hg:g<h:=by
   obtain ⟨i,hi,rfl⟩:=List.getElem_of_mem hh
   grind
  grind [kT]
theorem Tp (s:mV) (g c:Nat):dB s g c=s.ts.filterMap (su · g c)++((List.range s.sp.length).drop (g+1)).filterMap (kT s c (fun h=>dB s h c) g):=by
 unfold dB
 rcases Nat.lt_or_ge g s.sp.length with hg|hg
 ·obtain ⟨k,hk⟩:∃k,s.sp.length-g=k+1:=⟨s.sp.length-g-1,by omega⟩
  rw [hk,pW]
  congr 1
  refine qfc fun h hh=>?_
  have hgh:g<h:=by
   obtain ⟨i,hi,rfl⟩:=List.getElem_of_mem hh
   grind
  unfold kT
  rw [q0o (s.sp.length-h) k (s.sp.length-h) h (Nat.le_refl _) (by omega) (Nat.le_refl _)]
 ·rw [show s.sp.length-g=0 by omega,pW,List.drop_of_length_le (by simp;omega)]
  simp
end Go.Proofs.YtekiimhdnigmcaaGreatDoor
