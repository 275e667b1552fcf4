/- A part of the proof. -/
import Derived.Test.YtieeckeaijdaeaaGreatDoorQaNum
namespace Go.Proofs.YtieeckeaijdaeaaGreatDoor
open Go.RowKit
theorem Rb {α β:Type} {f g:α→Option β}:∀{l:List α},(∀x∈l,f x=g x)→l.filterMap f=l.filterMap g
 |[],_=>rfl
 |a::r,h=>by
  rw [List.filterMap_cons,List.filterMap_cons,h a (by simp),Rb (l:=r) fun x hx=>h x (by simp [hx])]
def d9 (n:Nat) (p:Nat→Bool):Bool:=(List.range n).all p
theorem q32 {n:Nat} {p:Nat→Bool} (h:∀i,i<n→p i=true):d9 n p=true:=List.all_eq_true.2 fun i hi=>h i (List.mem_range.1 hi)
theorem Db {n:Nat} {p:Nat→Bool} (h:d9 n p=true) {i:Nat} (hi:i<n):p i=true:=List.all_eq_true.1 h i (List.mem_range.2 hi)
theorem AV {n:Nat} {p:Nat→Bool} {i:Nat} (hi:i<n) (h:p i=false):d9 n p=false:=by
 cases ha:d9 n p with
 |false=>rfl
 |true=>rw [Db ha hi] at h;cases h
def dA (k:Nat) (p:Nat→Bool):Prop:=∀i,i<k→p i=true
theorem dA.zero {p:Nat→Bool}:dA 0 p:=fun i h=>by omega
theorem dA.succ {k:Nat} {p:Nat→Bool} (h:dA k p) (hk:p k=true):dA (k+1) p:=fun i hi=>by
 rcases Nat.lt_or_ge i k with h1|h1
 ·exact h i h1
 ·obtain rfl:i=k:=by omega
  exact hk
theorem dA.all {n:Nat} {p:Nat→Bool} (h:dA n p):d9 n p=true:=q32 h
structure Gr where
 parent:Int
 weight:Int
structure Tk where
 id:Int
 group:Int
 weight:Int
 cpu:Int
 mask:Nat
 ready:Bool
 v:Nat
 r:Nat
structure Sp where
 v:Nat
 r:Nat
 floor:Nat
def Gr.zero:Gr:=⟨0,0⟩
def Tk.zero:Tk:=⟨0,0,0,0,0,false,0,0⟩
def Sp.zero:Sp:=⟨0,0,0⟩
instance Yc:DecidableEq Gr:=fun ⟨a,b⟩ ⟨c,d⟩=>decidable_of_iff (a=c∧b=d) (by rw [Gr.mk.injEq])
instance Yd:DecidableEq Tk:=fun ⟨a,b,c,d,e,f,g,h⟩ ⟨a',b',c',d',e',f',g',h'⟩=>decidable_of_iff (a=a'∧b=b'∧c=c'∧d=d'∧e=e'∧f=f'∧g=g'∧h=h') (by rw [Tk.mk.injEq])
instance Ye:DecidableEq Sp:=fun ⟨a,b,c⟩ ⟨d,e,f⟩=>decidable_of_iff (a=d∧b=e∧c=f) (by rw [Sp.mk.injEq])
structure Gr.Ok (x:Gr):Prop where
 parent:bC x.parent
 weight:bC x.weight
structure Tk.Ok (x:Tk):Prop where
 id:bC x.id
 group:bC x.group
 weight:bC x.weight
 cpu:bC x.cpu
 mask:x.mask<18446744073709551616
 v:x.v<18446744073709551616
 r:x.r<4294967296
structure Sp.Ok (x:Sp):Prop where
 v:x.v<18446744073709551616
 r:x.r<4294967296
 floor:x.floor<18446744073709551616
structure jE where
 az:Int
 au:Nat
 gs:List Gr
 cl:List Int
 cu:List Int
 ts:List Tk
 sp:List (List Sp)
structure jE.Ok (s:jE):Prop where
 az:bC s.az
 au:s.au<18446744073709551616
 gs:∀x∈s.gs,x.Ok
 cl:∀x∈s.cl,bC x
 cu:∀x∈s.cu,bC x
 ts:∀x∈s.ts,x.Ok
 sp:∀l∈s.sp,∀x∈l,x.Ok
def jE.spot (s:jE) (g c:Nat):Sp:=(s.sp.getD g []).getD c Sp.zero
def jE.par (s:jE) (g:Nat):Int:=(s.gs.getD g Gr.zero).parent
def kQ (l:List Gr):Nat→Nat→Nat
 |0,_=>0
 |f+1,g=>if g=0 then 0 else kQ l f (l.getD g Gr.zero).parent.toNat+1
def iC (l:List Gr) (g:Nat):Nat:=kQ l g g
def jF (l:List Gr) (g:Nat):Prop:=0≤(l.getD g Gr.zero).parent∧(l.getD g Gr.zero).parent<g
def AX (w:Int):Bool:=decide (1≤w∧w≤65536)
def qW (l:List Gr) (g:Nat):Bool:=g==0||decide (0≤(l.getD g Gr.zero).parent∧(l.getD g Gr.zero).parent<g∧(AX (l.getD g Gr.zero).weight=true)∧iC l g≤4)
def gI (l:List Gr):Bool:=decide (1≤l.length∧l.length≤256∧l.getD 0 Gr.zero=⟨0,1⟩)&&d9 l.length (qW l)
theorem qv6 {l:List Gr}:∀(f g:Nat),(∀i,0<i→i≤g→jF l i)→g≤f→kQ l f g=kQ l g g:=by
 have key:∀(g f f':Nat),(∀i,0<i→i≤g→jF l i)→g≤f→g≤f'→kQ l f g=kQ l f' g:=by
  intro g
  induction g using Nat.strongRecOn with
  | _ g ih =>
   intro f f' hp h1 h2
   by_cases h0:g=0
   ·subst h0
    cases f<;>cases f'<;>simp [kQ]
   ·obtain ⟨f,rfl⟩:∃k,f=k+1:=⟨f-1,by omega⟩
    obtain ⟨f',rfl⟩:∃k,f'=k+1:=⟨f'-1,by omega⟩
    have hg:=hp g (by omega) (Nat.le_refl _)
    unfold jF at hg
    simp only [kQ,if_neg h0]
    rw [ih (l.getD g Gr.zero).parent.toNat (by omega) f f' (fun i hi hl=>hp i hi (by omega)) (by omega) (by omega)]
 intro f g hp h
 exact key g f g hp h (Nat.le_refl _)
theorem qv7 (l:List Gr):iC l 0=0:=rfl
theorem Yf {l:List Gr} {g:Nat} (h:∀i,0<i→i≤g→jF l i) (h0:0<g):iC l g=iC l (l.getD g Gr.zero).parent.toNat+1:=by
 obtain ⟨k,rfl⟩:∃k,g=k+1:=⟨g-1,by omega⟩
 have hg:=h (k+1) h0 (Nat.le_refl _)
 unfold jF at hg
 show kQ l (k+1) (k+1)=_
 rw [kQ,if_neg (by omega),qv6 k _ (fun i hi hl=>h i hi (by omega)) (by omega)]
 rfl
theorem Yg {l:List Gr} {g:Nat} (h:qW l g=true) (h0:0<g):jF l g:=by
 unfold qW at h
 rw [Bool.or_eq_true,beq_iff_eq,decide_eq_true_eq] at h
 rcases h with h|h
 ·omega
 ·exact ⟨h.1,h.2.1⟩
theorem MV {l:List Gr} (h:gI l=true):1≤l.length∧l.length≤256∧l.getD 0 Gr.zero=⟨0,1⟩∧∀g,g<l.length→qW l g=true:=by
 unfold gI at h
 rw [Bool.and_eq_true,decide_eq_true_eq] at h
 exact ⟨h.1.1,h.1.2.1,h.1.2.2,fun g hg=>Db h.2 hg⟩
def gu (v r:Nat) (w:Int):Bool:=decide (1≤w∧w≤65536∧(r:Int)<w∧(v<18446744073709551615∨r=0))
def Rc (mask:Nat) (az:Int):Bool:=decide (2^az.toNat≤mask)
def dm (s:jE) (t:Tk):Bool:=
 decide (1≤t.id∧t.id≤65535∧0≤t.group∧t.group<s.sp.length∧0≤t.cpu∧t.cpu<s.az)&& (AX t.weight&& (!Rc t.mask s.az&& (decide (t.mask/2^t.cpu.toNat%2=1)&&gu t.v t.r t.weight)))
def fK (s:jE):Bool:=decide (1≤s.az∧s.az≤64∧s.au≤1099511627776)&&gI s.gs
def gJ (t:Int):Bool:=decide (0≤t∧t≤281474976710656)
def fF (s:jE) (g:Nat) (x:Sp):Bool:=gu x.v x.r (s.gs.getD g Gr.zero).weight&& (g !=0||decide (x.v=0∧x.r=0))
def rowOk (s:jE) (g:Nat):Bool:=decide ((s.sp.getD g []).length=s.az)&&d9 (s.sp.getD g []).length fun c=>fF s g (s.spot g c)
def gy (s:jE) (i:Nat):Bool:=(i==0||decide ((s.ts.getD (i-1) Tk.zero).id<(s.ts.getD i Tk.zero).id))&&dm s (s.ts.getD i Tk.zero)
def Re (s:jE):Bool:=decide ((s.cl.length:Int)=s.az∧(s.cu.length:Int)=s.az∧s.sp.length=s.gs.length)
def mG (s:jE):Bool:=(fK s&&Re s)&& (d9 s.cl.length (fun c=>gJ (s.cl.getD c 0))&& (d9 s.sp.length (rowOk s)&&d9 s.ts.length (gy s)))
structure Mb where
 v:Nat
 k:Nat
 id:Nat
def Mb.lt (a b:Mb):Bool:=decide (a.v<b.v∨a.v=b.v∧(a.k<b.k∨a.k=b.k∧a.id<b.id))
def dn (b:Mb) (l:List Mb):Mb:=l.foldl (fun b x=>if x.lt b then x else b) b
def gK:Mb:=⟨18446744073709551615,18446744073709551615,18446744073709551615⟩
def Tk.here (t:Tk) (g c:Nat):Bool:=t.ready&& (decide (t.group=g)&&decide (t.cpu=c))
def xI (t:Tk) (g c:Nat):Option Mb:=if t.here g c then some ⟨t.v,0,t.id.toNat⟩ else none
def kR (s:jE) (c:Nat) (m:Nat→List Mb) (g h:Nat):Option Mb:=if s.par h=g∧m h≠[] then some ⟨(s.spot h c).v,1,h⟩ else none
def kS (s:jE) (c:Nat):Nat→Nat→List Mb
 |0,g=>s.ts.filterMap (xI · g c)
 |f+1,g=>s.ts.filterMap (xI · g c)++((List.range s.sp.length).drop (g+1)).filterMap (kR s c (kS s c f) g)
def fG (s:jE) (g c:Nat):List Mb:=kS s c (s.sp.length-g) g
def jG (s:jE) (g c:Nat):Bool:=decide (fG s g c=[]∨(dn gK (fG s g c)).v≤(s.spot g c).floor)
def dU (l:List Tk) (id:Int):Option Nat:=l.findIdx? fun t=>t.id==id
def dV (s:jE) (c:Nat):Bool:=decide (s.cu.getD c 0=0)||match dU s.ts (s.cu.getD c 0) with
 |some i=>(s.ts.getD i Tk.zero).ready&&decide ((s.ts.getD i Tk.zero).cpu=c)
 |none=>false
def oN (s:jE):Bool:=mG s&&d9 s.cu.length fun c=>dV s c&&d9 s.sp.length fun g=>jG s g c
theorem qwb {s:jE} {c:Nat}:∀(n f f' g:Nat),s.sp.length-g≤n→n≤f→n≤f'→kS s c f g=kS s c f' g:=by
 intro n
 induction n with
 | zero =>
  intro f f' g hn _ _
  have e:∀f,kS s c f g=s.ts.filterMap (xI · g c):=by
   intro f
   cases f with
   |zero=>rfl
   |succ f=>
    rw [kS,List.drop_of_length_le (by simp;omega)]
    simp
  rw [e f,e f']
 | succ n ih =>
  intro f f' g hn h1 h2
  obtain ⟨f,rfl⟩:∃k,f=k+1:=⟨f-1,by omega⟩
  obtain ⟨f',rfl⟩:∃k,f'=k+1:=⟨f'-1,by omega⟩
  rw [kS,kS]
  congr 1
  refine Rb fun h hh=>?_
  have hg:g<h:=by
   obtain ⟨i,hi,rfl⟩:=List.getElem_of_mem hh
   rw [List.getElem_drop,List.getElem_range]
   omega
  unfold kR
  rw [ih f f' h (by omega) (by omega) (by omega)]
theorem q33 (s:jE) (g c:Nat):fG s g c=s.ts.filterMap (xI · g c)++((List.range s.sp.length).drop (g+1)).filterMap (kR s c (fun h=>fG s h c) g):=by
 unfold fG
 rcases Nat.lt_or_ge g s.sp.length with hg|hg
 ·obtain ⟨k,hk⟩:∃k,s.sp.length-g=k+1:=⟨s.sp.length-g-1,by omega⟩
  rw [hk,kS]
  congr 1
  refine Rb fun h hh=>?_
  have hgh:g<h:=by
   obtain ⟨i,hi,rfl⟩:=List.getElem_of_mem hh
   rw [List.getElem_drop,List.getElem_range]
   omega
  unfold kR
  rw [qwb (s.sp.length-h) k (s.sp.length-h) h (Nat.le_refl _) (by omega) (Nat.le_refl _)]
 ·rw [show s.sp.length-g=0 by omega,kS,List.drop_of_length_le (by simp;omega)]
  simp
end Go.Proofs.YtieeckeaijdaeaaGreatDoor
