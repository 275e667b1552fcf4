/- A part of the proof. -/
import Derived.Test.YtcajpeiobkcliaaGreatDoorQiNum
namespace Go.Proofs.YtcajpeiobkcliaaGreatDoor
open Go.RowKit
theorem qa0 {α β:Type} {f g:α→Option β}:∀{l:List α},(∀x∈l,f x=g x)→l.filterMap f=l.filterMap g
 |[],_=>rfl
 |a::r,h=>by
  rw [List.filterMap_cons,List.filterMap_cons,h a (by simp),qa0 (l:=r) fun x hx=>h x (by simp [hx])]
def allN (n:Nat) (p:Nat→Bool):Bool:=(List.range n).all p
theorem qbm {n:Nat} {p:Nat→Bool} (h:∀i,i<n→p i=true):allN n p=true:=List.all_eq_true.2 fun i hi=>h i (List.mem_range.1 hi)
theorem qbn {n:Nat} {p:Nat→Bool} (h:allN n p=true) {i:Nat} (hi:i<n):p i=true:=List.all_eq_true.1 h i (List.mem_range.2 hi)
theorem qbu {n:Nat} {p:Nat→Bool} {i:Nat} (hi:i<n) (h:p i=false):allN n p=false:=by
 cases ha:allN n p with
 |false=>rfl
 |true=>rw [qbn ha hi] at h;cases h
def UpTo (k:Nat) (p:Nat→Bool):Prop:=∀i,i<k→p i=true
theorem UpTo.zero {p:Nat→Bool}:UpTo 0 p:=fun i h=>by omega
theorem UpTo.succ {k:Nat} {p:Nat→Bool} (h:UpTo k p) (hk:p k=true):UpTo (k+1) p:=fun i hi=>by
 rcases Nat.lt_or_ge i k with h1|h1
 ·exact h i h1
 ·obtain rfl:i=k:=by omega
  exact hk
theorem UpTo.all {n:Nat} {p:Nat→Bool} (h:UpTo n p):allN n p=true:=qbm h
structure Gr where
 parent:Int
 weight:Int
structure Tk where
 id:Int
 group:Int
 weight:Int
 cpu:Int
 mask:Nat
 ready:Bool
 v:Nat
 r:Nat
structure Sp where
 v:Nat
 r:Nat
 floor:Nat
def Gr.zero:Gr:=⟨0,0⟩
def Tk.zero:Tk:=⟨0,0,0,0,0,false,0,0⟩
def Sp.zero:Sp:=⟨0,0,0⟩
instance grDec:DecidableEq Gr:=fun ⟨a,b⟩ ⟨c,d⟩=>decidable_of_iff (a=c∧b=d) (by rw [Gr.mk.injEq])
instance tkDec:DecidableEq Tk:=fun ⟨a,b,c,d,e,f,g,h⟩ ⟨a',b',c',d',e',f',g',h'⟩=>decidable_of_iff (a=a'∧b=b'∧c=c'∧d=d'∧e=e'∧f=f'∧g=g'∧h=h') (by rw [Tk.mk.injEq])
instance spDec:DecidableEq Sp:=fun ⟨a,b,c⟩ ⟨d,e,f⟩=>decidable_of_iff (a=d∧b=e∧c=f) (by rw [Sp.mk.injEq])
structure Gr.Ok (x:Gr):Prop where
 parent:I64 x.parent
 weight:I64 x.weight
structure Tk.Ok (x:Tk):Prop where
 id:I64 x.id
 group:I64 x.group
 weight:I64 x.weight
 cpu:I64 x.cpu
 mask:x.mask<18446744073709551616
 v:x.v<18446744073709551616
 r:x.r<4294967296
structure Sp.Ok (x:Sp):Prop where
 v:x.v<18446744073709551616
 r:x.r<4294967296
 floor:x.floor<18446744073709551616
structure Sta where
 cpus:Int
 credit:Nat
 gs:List Gr
 cl:List Int
 cu:List Int
 ts:List Tk
 sp:List (List Sp)
structure Sta.Ok (s:Sta):Prop where
 cpus:I64 s.cpus
 credit:s.credit<18446744073709551616
 gs:∀x∈s.gs,x.Ok
 cl:∀x∈s.cl,I64 x
 cu:∀x∈s.cu,I64 x
 ts:∀x∈s.ts,x.Ok
 sp:∀l∈s.sp,∀x∈l,x.Ok
def Sta.spot (s:Sta) (g c:Nat):Sp:=(s.sp.getD g []).getD c Sp.zero
def Sta.par (s:Sta) (g:Nat):Int:=(s.gs.getD g Gr.zero).parent
def depF (l:List Gr):Nat→Nat→Nat
 |0,_=>0
 |f+1,g=>if g=0 then 0 else depF l f (l.getD g Gr.zero).parent.toNat+1
def depG (l:List Gr) (g:Nat):Nat:=depF l g g
def ParB (l:List Gr) (g:Nat):Prop:=0≤(l.getD g Gr.zero).parent∧(l.getD g Gr.zero).parent<g
def wOk (w:Int):Bool:=decide (1≤w∧w≤65536)
def gOk (l:List Gr) (g:Nat):Bool:=g==0||decide (0≤(l.getD g Gr.zero).parent∧(l.getD g Gr.zero).parent<g∧(wOk (l.getD g Gr.zero).weight=true)∧depG l g≤4)
def gsOk (l:List Gr):Bool:=decide (1≤l.length∧l.length≤256∧l.getD 0 Gr.zero=⟨0,1⟩)&&allN l.length (gOk l)
theorem qsn {l:List Gr}:∀(f g:Nat),(∀i,0<i→i≤g→ParB l i)→g≤f→depF l f g=depF l g g:=by
 have key:∀(g f f':Nat),(∀i,0<i→i≤g→ParB l i)→g≤f→g≤f'→depF l f g=depF l f' g:=by
  intro g
  induction g using Nat.strongRecOn with
  | _ g ih =>
   intro f f' hp h1 h2
   by_cases h0:g=0
   ·subst h0
    cases f<;>cases f'<;>simp [depF]
   ·obtain ⟨f,rfl⟩:∃k,f=k+1:=⟨f-1,by omega⟩
    obtain ⟨f',rfl⟩:∃k,f'=k+1:=⟨f'-1,by omega⟩
    have hg:=hp g (by omega) (Nat.le_refl _)
    unfold ParB at hg
    simp only [depF,if_neg h0]
    rw [ih (l.getD g Gr.zero).parent.toNat (by omega) f f' (fun i hi hl=>hp i hi (by omega)) (by omega) (by omega)]
 intro f g hp h
 exact key g f g hp h (Nat.le_refl _)
theorem qso (l:List Gr):depG l 0=0:=rfl
theorem qgm {l:List Gr} {g:Nat} (h:∀i,0<i→i≤g→ParB l i) (h0:0<g):depG l g=depG l (l.getD g Gr.zero).parent.toNat+1:=by
 obtain ⟨k,rfl⟩:∃k,g=k+1:=⟨g-1,by omega⟩
 have hg:=h (k+1) h0 (Nat.le_refl _)
 unfold ParB at hg
 show depF l (k+1) (k+1)=_
 rw [depF,if_neg (by omega),qsn k _ (fun i hi hl=>h i hi (by omega)) (by omega)]
 rfl
theorem qmq {l:List Gr} {g:Nat} (h:gOk l g=true) (h0:0<g):ParB l g:=by
 unfold gOk at h
 rw [Bool.or_eq_true,beq_iff_eq,decide_eq_true_eq] at h
 rcases h with h|h
 ·omega
 ·exact ⟨h.1,h.2.1⟩
theorem qq {l:List Gr} (h:gsOk l=true):1≤l.length∧l.length≤256∧l.getD 0 Gr.zero=⟨0,1⟩∧∀g,g<l.length→gOk l g=true:=by
 unfold gsOk at h
 rw [Bool.and_eq_true,decide_eq_true_eq] at h
 exact ⟨h.1.1,h.1.2.1,h.1.2.2,fun g hg=>qbn h.2 hg⟩
def entOk (v r:Nat) (w:Int):Bool:=decide (1≤w∧w≤65536∧(r:Int)<w∧(v<18446744073709551615∨r=0))
def qdw (mask:Nat) (cpus:Int):Bool:=decide (2^cpus.toNat≤mask)
def tkOk1 (s:Sta) (t:Tk):Bool:=
 decide (1≤t.id∧t.id≤65535∧0≤t.group∧t.group<s.sp.length∧0≤t.cpu∧t.cpu<s.cpus)&& (wOk t.weight&& (!qdw t.mask s.cpus&& (decide (t.mask/2^t.cpu.toNat%2=1)&&entOk t.v t.r t.weight)))
def cfgOk (s:Sta):Bool:=decide (1≤s.cpus∧s.cpus≤64∧s.credit≤1099511627776)&&gsOk s.gs
def clOk (t:Int):Bool:=decide (0≤t∧t≤281474976710656)
def spOk (s:Sta) (g:Nat) (x:Sp):Bool:=entOk x.v x.r (s.gs.getD g Gr.zero).weight&& (g !=0||decide (x.v=0∧x.r=0))
def rowOk (s:Sta) (g:Nat):Bool:=decide ((s.sp.getD g []).length=s.cpus)&&allN (s.sp.getD g []).length fun c=>spOk s g (s.spot g c)
def tkAt (s:Sta) (i:Nat):Bool:=(i==0||decide ((s.ts.getD (i-1) Tk.zero).id<(s.ts.getD i Tk.zero).id))&&tkOk1 s (s.ts.getD i Tk.zero)
def qoe (s:Sta):Bool:=decide ((s.cl.length:Int)=s.cpus∧(s.cu.length:Int)=s.cpus∧s.sp.length=s.gs.length)
def zd (s:Sta):Bool:=(cfgOk s&&qoe s)&& (allN s.cl.length (fun c=>clOk (s.cl.getD c 0))&& (allN s.sp.length (rowOk s)&&allN s.ts.length (tkAt s)))
structure Mb where
 v:Nat
 k:Nat
 id:Nat
def Mb.lt (a b:Mb):Bool:=decide (a.v<b.v∨a.v=b.v∧(a.k<b.k∨a.k=b.k∧a.id<b.id))
def bestM (b:Mb) (l:List Mb):Mb:=l.foldl (fun b x=>if x.lt b then x else b) b
def topM:Mb:=⟨18446744073709551615,18446744073709551615,18446744073709551615⟩
def Tk.here (t:Tk) (g c:Nat):Bool:=t.ready&& (decide (t.group=g)&&decide (t.cpu=c))
def tkM (t:Tk) (g c:Nat):Option Mb:=if t.here g c then some ⟨t.v,0,t.id.toNat⟩ else none
def grpM (s:Sta) (c:Nat) (m:Nat→List Mb) (g h:Nat):Option Mb:=if s.par h=g∧m h≠[] then some ⟨(s.spot h c).v,1,h⟩ else none
def memF (s:Sta) (c:Nat):Nat→Nat→List Mb
 |0,g=>s.ts.filterMap (tkM · g c)
 |f+1,g=>s.ts.filterMap (tkM · g c)++((List.range s.sp.length).drop (g+1)).filterMap (grpM s c (memF s c f) g)
def memS (s:Sta) (g c:Nat):List Mb:=memF s c (s.sp.length-g) g
def lowS (s:Sta) (g c:Nat):Bool:=decide (memS s g c=[]∨(bestM topM (memS s g c)).v≤(s.spot g c).floor)
def findS (l:List Tk) (id:Int):Option Nat:=l.findIdx? fun t=>t.id==id
def curOk (s:Sta) (c:Nat):Bool:=decide (s.cu.getD c 0=0)||match findS s.ts (s.cu.getD c 0) with
 |some i=>(s.ts.getD i Tk.zero).ready&&decide ((s.ts.getD i Tk.zero).cpu=c)
 |none=>false
def zg (s:Sta):Bool:=zd s&&allN s.cu.length fun c=>curOk s c&&allN s.sp.length fun g=>lowS s g c
theorem qsp {s:Sta} {c:Nat}:∀(n f f' g:Nat),s.sp.length-g≤n→n≤f→n≤f'→memF s c f g=memF s c f' g:=by
 intro n
 induction n with
 | zero =>
  intro f f' g hn _ _
  have e:∀f,memF s c f g=s.ts.filterMap (tkM · g c):=by
   intro f
   cases f with
   |zero=>rfl
   |succ f=>
    rw [memF,List.drop_of_length_le (by simp;omega)]
    simp
  rw [e f,e f']
 | succ n ih =>
  intro f f' g hn h1 h2
  obtain ⟨f,rfl⟩:∃k,f=k+1:=⟨f-1,by omega⟩
  obtain ⟨f',rfl⟩:∃k,f'=k+1:=⟨f'-1,by omega⟩
  rw [memF,memF]
  congr 1
  refine qa0 fun h hh=>?_
  have hg:g<h:=by
   obtain ⟨i,hi,rfl⟩:=List.getElem_of_mem hh
   rw [List.getElem_drop,List.getElem_range]
   omega
  unfold grpM
  rw [ih f f' h (by omega) (by omega) (by omega)]
theorem qjb (s:Sta) (g c:Nat):memS s g c=s.ts.filterMap (tkM · g c)++((List.range s.sp.length).drop (g+1)).filterMap (grpM s c (fun h=>memS s h c) g):=by
 unfold memS
 rcases Nat.lt_or_ge g s.sp.length with hg|hg
 ·obtain ⟨k,hk⟩:∃k,s.sp.length-g=k+1:=⟨s.sp.length-g-1,by omega⟩
  rw [hk,memF]
  congr 1
  refine qa0 fun h hh=>?_
  have hgh:g<h:=by
   obtain ⟨i,hi,rfl⟩:=List.getElem_of_mem hh
   rw [List.getElem_drop,List.getElem_range]
   omega
  unfold grpM
  rw [qsp (s.sp.length-h) k (s.sp.length-h) h (Nat.le_refl _) (by omega) (Nat.le_refl _)]
 ·rw [show s.sp.length-g=0 by omega,memF,List.drop_of_length_le (by simp;omega)]
  simp
end Go.Proofs.YtcajpeiobkcliaaGreatDoor
