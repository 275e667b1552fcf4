/- A part of the proof. -/
import Derived.Test.YtekiimhdnigmcaaGreatDoorQwBack
set_option linter.all false
namespace Go.Proofs.YtekiimhdnigmcaaGreatDoor
open Go.RowKit
structure Sm where
 kind:Nat
 cpu:Nat
 seq:Nat
 time:Nat
 task:Nat
 group:Nat
 to:Nat
 weight:Nat
 ticks:Nat
 got:Nat
 mask:Nat
structure Sm.Ok (x:Sm):Prop where
 kind:x.kind<256
 cpu:x.cpu<256
 seq:x.seq<4294967296
 time:x.time<4294967296
 task:x.task<4294967296
 group:x.group<4294967296
 to:x.to<4294967296
 weight:x.weight<4294967296
 ticks:x.ticks<4294967296
 got:x.got<4294967296
 mask:x.mask<18446744073709551616
def Sm.cells (x:Sm):Array Value:= #[.int .u8 (x.kind:Int),.int .u8 (x.cpu:Int),.int .u32 (x.seq:Int),.int .u32 (x.time:Int),.int .u32 (x.task:Int),.int .u32 (x.group:Int),.int .u32 (x.to:Int),.int .u32 (x.weight:Int),.int .u32 (x.ticks:Int),.int .u32 (x.got:Int),.int .u64 (x.mask:Int)]
def Sm.ev (x:Sm):Ev where
 seq:=((1+x.seq:Nat):Int)
 time:=(x.time:Int)
 cpu:=x.cpu%64
 kind:=1+x.kind%10
 task:=if x.kind%10=0∨x.kind%10=1∨x.kind%10=6∨x.kind%10=8 then ((1+x.task%65535:Nat):Int) else 0
 group:=if x.kind%10=0 then ((x.group%256:Nat):Int) else if x.kind%10=7 then ((1+x.group%255:Nat):Int) else 0
 to:=if x.kind%10=8 then (((x.cpu%64+1+x.to%63)%64:Nat):Int) else 0
 weight:=if x.kind%10=0∨x.kind%10=6∨x.kind%10=7 then ((1+x.weight%65536:Nat):Int) else 0
 ticks:=if x.kind%10=4 then ((max x.ticks 1:Nat):Int) else 0
 mask:=if x.kind%10=0 then x.mask|||2^ (x.cpu%64) else 0
 got:=if x.kind%10=4∨x.kind%10=5 then ((x.got%65535:Nat):Int) else if x.kind%10=2∨x.kind%10=3∨x.kind%10=9 then ((1+x.got%65535:Nat):Int) else 0
def Ev.moved (e:Ev) (s t:Int):Ev:={e with seq:=s,time:=t}
def zeu (m c:Nat):(m|||2^c)/2^c%2=1:=by
 have h:(m|||2^c).testBit c=true:=by rw [Nat.testBit_or,Nat.testBit_two_pow_self,Bool.or_true]
 rw [Nat.testBit_eq_decide_div_mod_eq,decide_eq_true_eq] at h
 exact h
def Fj {m c:Nat} (hm:m<18446744073709551616) (hc:c<64):m|||2^c<18446744073709551616:=by
 have:m|||2^c<2^64:=Nat.or_lt_two_pow (by omega) (Nat.pow_lt_pow_right (by omega) hc)
 omega
theorem Sm.check {x:Sm} (h:x.Ok) {s t:Int} (hs:1≤s∧s≤281474976710656) (ht:0≤t∧t≤281474976710656):(x.ev.moved s t).check=0:=by
 have b:=zeu x.mask (x.cpu%64)
 have hc:x.cpu%64<64:=by omega
 have c:=h.ticks
 have a:x.kind%10=0∨x.kind%10=1∨x.kind%10=2∨x.kind%10=3∨x.kind%10=4∨x.kind%10=5∨x.kind%10=6∨x.kind%10=7∨x.kind%10=8∨x.kind%10=9:=by omega
 unfold Ev.check
 rcases a with a|a|a|a|a|a|a|a|a|a
 all_goals
  rw [if_neg (by simp [Ev.moved,Sm.ev,a]),if_neg (by simp [Ev.moved,Sm.ev];omega),if_neg,if_neg]
  ·simp [Ev.moved,Sm.ev,a,aR,Ev.jF,List.range,List.range.loop]
  ·simp [Ev.moved,Sm.ev,a,aR,Ev.within,b]
   try omega
theorem Sm.ok {x:Sm} (h:x.Ok) {s t:Int} (hs:aQ s) (ht:aQ t):(x.ev.moved s t).Ok:=by
 have:=h.ticks
 have hm:=Fj (c:=x.cpu%64) h.mask (by omega)
 refine ⟨hs,ht,?_,?_,?_,?_,?_,?_,?_,?_,?_⟩
 all_goals (simp only [Ev.moved,Sm.ev,aQ])
 all_goals (repeat' split)
 all_goals first|exact hm|omega
def Bs.based (b:Bs):Bs:=⟨1+b.seq%1099511627776,b.time%1099511627776⟩
def rA (k:Nat):Nat:=if k/16%4=0 then 1 else if k/16%4=1 then 3 else if k/16%4=2 then 200 else 4294967296
def stepT (k:Nat):Nat:=if k/64=0 then 1 else if k/64=1 then 300 else if k/64=2 then 100000 else 4294967296
def Bs.step (a:Bs) (x:Sm):Bs:=⟨a.seq+((1+x.seq%rA x.kind:Nat):Int),a.time+((x.time%stepT x.kind:Nat):Int)⟩
def uH (cpu:Nat):Bs→List Sm→List Ev
 |_,[]=>[]
 |a,x::r=>(({x with cpu:=cpu}:Sm).ev.moved (a.step x).seq (a.step x).time)::uH cpu (a.step x) r
def Bs.start (b:Bs):Bs:=⟨b.based.seq-1,b.based.time⟩
def lu (cpu:Nat) (b:Bs) (l:List Sm):List Ev:=uH cpu b.start (l.take 200)
def OP (b:Bs):b.based.right=true∧1≤b.based.seq∧b.based.seq≤1099511627776∧0≤b.based.time∧b.based.time<1099511627776:=by
 have h1:1≤b.based.seq∧b.based.seq≤1099511627776∧0≤b.based.time∧b.based.time<1099511627776:=by
  show 1≤1+b.seq%1099511627776∧1+b.seq%1099511627776≤1099511627776∧0≤b.time%1099511627776∧b.time%1099511627776<1099511627776
  omega
 refine ⟨?_,h1⟩
 unfold Bs.right
 rw [decide_eq_true_eq]
 omega
def qtd (a:Bs) {x:Sm} (h:x.Ok):a.seq+1≤(a.step x).seq∧(a.step x).seq≤a.seq+4294967296∧a.time≤(a.step x).time∧(a.step x).time≤a.time+4294967296:=by
 have h1:x.seq%rA x.kind≤x.seq:=Nat.mod_le _ _
 have h2:x.time%stepT x.kind≤x.time:=Nat.mod_le _ _
 have:=h.seq
 have:=h.time
 show a.seq+1≤a.seq+((1+x.seq%rA x.kind:Nat):Int)∧a.seq+((1+x.seq%rA x.kind:Nat):Int)≤a.seq+4294967296∧a.time≤a.time+((x.time%stepT x.kind:Nat):Int)∧a.time+((x.time%stepT x.kind:Nat):Int)≤a.time+4294967296
 omega
def Xh {cpu:Nat} (d:cpu<256):∀(l:List Sm) (p:Option Ev) (b a:Bs),(∀x∈l,x.Ok)→b.right=true→b.seq≤a.seq+1→b.time≤a.time→(∀q,p=some q→q.seq≤a.seq)→0≤a.seq→0≤a.time→
  a.seq+4294967296*(l.length:Int)≤281474976710656→a.time+4294967296*(l.length:Int)≤281474976710656→Chain (cpu%64) p b (uH cpu a l)
 |[],_,_,_,_,_,_,_,_,_,_,_,_=>trivial
 | x :: r, p, b, a, g, h, h1, h2, h3, h4, h5, h6, h7 => by
  have c:=g x (by simp)
  have e:({x with cpu:=cpu}:Sm).Ok:=⟨c.kind,d,c.seq,c.time,c.task,c.group,c.to,c.weight,c.ticks,c.got,c.mask⟩
  obtain ⟨s1,j,k,m⟩:=qtd a c
  rw [List.length_cons] at h6 h7
  have hc:=Sm.check e (s:=(a.step x).seq) (t:=(a.step x).time) (by omega) (by omega)
  refine ⟨⟨h,hc,Sm.ok e ⟨by omega,by omega⟩ ⟨by omega,by omega⟩,?_⟩,rfl,?_,?_⟩
  ·unfold Bs.behind
   rw [decide_eq_true_eq]
   show b.seq≤(a.step x).seq∧b.time≤(a.step x).time
   omega
  ·intro q f
   have:=h3 q f
   show q.seq<(a.step x).seq
   omega
  ·refine Xh d r _ _ _ (λy i=>g y (by simp [i])) (E5 hc) ?_ ?_ ?_ (by omega) (by omega) (by omega) (by omega)
   ·show (a.step x).seq≤(a.step x).seq+1;omega
   ·exact Int.le_refl _
   ·intro q f
    injection f with f
    subst f
    exact Int.le_refl _
def qte {cpu:Nat} (a:cpu<256) (b:Bs) {l:List Sm} (d:∀x∈l,x.Ok):Chain (cpu%64) none b.based (lu cpu b l):=by
 obtain ⟨h1,h2,h3,h4,h5⟩:=OP b
 have c:(l.take 200).length≤200:=by rw [List.length_take];omega
 refine Xh a _ none b.based b.start (λx e=>d x (List.mem_of_mem_take e)) h1 ?_ (Int.le_refl _) (λq f=>by cases f) ?_ h4 ?_ ?_
 ·show b.based.seq≤b.based.seq-1+1;omega
 ·show 0≤b.based.seq-1;omega
 ·show b.based.seq-1+4294967296*((l.take 200).length:Int)≤_;omega
 ·show b.based.time+4294967296*((l.take 200).length:Int)≤_;omega
theorem qyo (cpu:Nat):∀(l:List Sm) (a:Bs),(uH cpu a l).length=l.length:=by intro x;induction x<;>grind [uH]
end Go.Proofs.YtekiimhdnigmcaaGreatDoor
