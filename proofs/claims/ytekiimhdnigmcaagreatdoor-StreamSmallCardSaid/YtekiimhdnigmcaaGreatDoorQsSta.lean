/- A part of the proof. -/
import Derived.Test.YtekiimhdnigmcaaGreatDoorQsNum
namespace Go.Proofs.YtekiimhdnigmcaaGreatDoor
open Go.RowKit
def vV (n:Nat) (p:Nat→Bool):Bool:=(List.range n).all p
theorem q5d {n:Nat} {p:Nat→Bool} (h:∀i,i<n→p i=true):vV n p=true:=List.all_eq_true.2 fun i hi=>h i (List.mem_range.1 hi)
def oC (k:Nat) (p:Nat→Bool):Prop:=∀i,i<k→p i=true
theorem oC.zero {p:Nat→Bool}:oC 0 p:=fun i h=>by omega
theorem oC.succ {k:Nat} {p:Nat→Bool} (h:oC k p) (hk:p k=true):oC (k+1) p:=fun i hi=>by
 rcases Nat.lt_or_ge i k with h1|h1
 ·exact h i h1
 ·obtain rfl:i=k:=by omega
  exact hk
theorem oC.all {n:Nat} {p:Nat→Bool} (h:oC n p):vV n p=true:=q5d h
structure Gr where
 parent:Int
 weight:Int
structure Tk where
 id:Int
 group:Int
 weight:Int
 cpu:Int
 mask:Nat
 ready:Bool
 v:Nat
 r:Nat
structure Sp where
 v:Nat
 r:Nat
 floor:Nat
def Gr.zero:Gr:=⟨0,0⟩
def Tk.zero:Tk:=⟨0,0,0,0,0,false,0,0⟩
def Sp.zero:Sp:=⟨0,0,0⟩
instance Y1:DecidableEq Gr:=fun ⟨a,b⟩ ⟨c,d⟩=>decidable_of_iff (a=c∧b=d) (by rw [Gr.mk.injEq])
instance Y2:DecidableEq Tk:=fun ⟨a,b,c,d,e,f,g,h⟩ ⟨a',b',c',d',e',f',g',h'⟩=>decidable_of_iff (a=a'∧b=b'∧c=c'∧d=d'∧e=e'∧f=f'∧g=g'∧h=h') (by rw [Tk.mk.injEq])
instance Y3:DecidableEq Sp:=fun ⟨a,b,c⟩ ⟨d,e,f⟩=>decidable_of_iff (a=d∧b=e∧c=f) (by rw [Sp.mk.injEq])
structure Gr.Ok (x:Gr):Prop where
 parent:aM x.parent
 weight:aM x.weight
structure Tk.Ok (x:Tk):Prop where
 id:aM x.id
 group:aM x.group
 weight:aM x.weight
 cpu:aM x.cpu
 mask:x.mask<18446744073709551616
 v:x.v<18446744073709551616
 r:x.r<4294967296
structure Sp.Ok (x:Sp):Prop where
 v:x.v<18446744073709551616
 r:x.r<4294967296
 floor:x.floor<18446744073709551616
structure uL where
 fQ:Int
 eH:Nat
 gs:List Gr
 cl:List Int
 cu:List Int
 ts:List Tk
 sp:List (List Sp)
structure uL.Ok (s:uL):Prop where
 fQ:aM s.fQ
 eH:s.eH<18446744073709551616
 gs:∀x∈s.gs,x.Ok
 cl:∀x∈s.cl,aM x
 cu:∀x∈s.cu,aM x
 ts:∀x∈s.ts,x.Ok
 sp:∀l∈s.sp,∀x∈l,x.Ok
def uL.spot (s:uL) (g c:Nat):Sp:=(s.sp.getD g []).getD c Sp.zero
def Gv (l:List Gr):Nat→Nat→Nat
 |0,_=>0
 |f+1,g=>if g=0 then 0 else Gv l f (l.getD g Gr.zero).parent.toNat+1
def Qi (l:List Gr) (g:Nat):Nat:=Gv l g g
def Y4 (w:Int):Bool:=decide (1≤w∧w≤65536)
def gOk (l:List Gr) (g:Nat):Bool:=g==0||decide (0≤(l.getD g Gr.zero).parent∧(l.getD g Gr.zero).parent<g∧(Y4 (l.getD g Gr.zero).weight=true)∧Qi l g≤4)
def Qj (l:List Gr):Bool:=decide (1≤l.length∧l.length≤256∧l.getD 0 Gr.zero=⟨0,1⟩)&&vV l.length (gOk l)
def yc (v r:Nat) (w:Int):Bool:=decide (1≤w∧w≤65536∧(r:Int)<w∧(v<18446744073709551615∨r=0))
def q6z (mask:Nat) (fQ:Int):Bool:=decide (2^fQ.toNat≤mask)
def Gw (s:uL) (t:Tk):Bool:=
 decide (1≤t.id∧t.id≤65535∧0≤t.group∧t.group<s.sp.length∧0≤t.cpu∧t.cpu<s.fQ)&& (Y4 t.weight&& (!q6z t.mask s.fQ&& (decide (t.mask/2^t.cpu.toNat%2=1)&&yc t.v t.r t.weight)))
def Gx (s:uL):Bool:=decide (1≤s.fQ∧s.fQ≤64∧s.eH≤1099511627776)&&Qj s.gs
def Qk (t:Int):Bool:=decide (0≤t∧t≤281474976710656)
def Ql (s:uL) (g:Nat) (x:Sp):Bool:=yc x.v x.r (s.gs.getD g Gr.zero).weight&& (g !=0||decide (x.v=0∧x.r=0))
def rowOk (s:uL) (g:Nat):Bool:=decide ((s.sp.getD g []).length=s.fQ)&&vV (s.sp.getD g []).length fun c=>Ql s g (s.spot g c)
def Qm (s:uL) (i:Nat):Bool:=(i==0||decide ((s.ts.getD (i-1) Tk.zero).id<(s.ts.getD i Tk.zero).id))&&Gw s (s.ts.getD i Tk.zero)
structure Mb where
 v:Nat
 k:Nat
 id:Nat
def Mb.lt (a b:Mb):Bool:=decide (a.v<b.v∨a.v=b.v∧(a.k<b.k∨a.k=b.k∧a.id<b.id))
def Tk.here (t:Tk) (g c:Nat):Bool:=t.ready&& (decide (t.group=g)&&decide (t.cpu=c))
end Go.Proofs.YtekiimhdnigmcaaGreatDoor
