/- A part of the proof. -/
import Derived.Test.YtekiimhdnigmcaaGreatDoorQwBase
import Derived.Test.YtekiimhdnigmcaaGreatDoorQwNum
import Derived.WalkSpells
import Derived.WalkLawsBesides
import Derived.Deep.QuietTactic
import Derived.BigQuiet
set_option linter.all false
namespace Go.Proofs.YtekiimhdnigmcaaGreatDoor
open Go.RowKit
variable {w W:World} {b B:Nat}
structure Ev where
 seq:Int
 time:Int
 cpu:Nat
 kind:Nat
 task:Int
 group:Int
 to:Int
 weight:Int
 ticks:Int
 mask:Nat
 got:Int
structure Ev.Ok (e:Ev):Prop where
 seq:aQ e.seq
 time:aQ e.time
 cpu:e.cpu<256
 kind:e.kind<256
 task:aQ e.task
 group:aQ e.group
 to:aQ e.to
 weight:aQ e.weight
 ticks:aQ e.ticks
 mask:e.mask<18446744073709551616
 got:aQ e.got
def Ev.cells (e:Ev):Array Value:= #[.int .i64 e.seq,.int .i64 e.time,.int .u8 (e.cpu:Int),.int .u8 (e.kind:Int),.int .i64 e.task,.int .i64 e.group,.int .i64 e.to,.int .i64 e.weight,.int .i64 e.ticks,.int .u64 (e.mask:Int),.int .i64 e.got]
structure jh (w:World) (b:Nat) (e:Ev):Prop where
 seq:w.cell? ⟨b,0,none⟩=some (.int .i64 e.seq)
 time:w.cell? ⟨b,1,none⟩=some (.int .i64 e.time)
 cpu:w.cell? ⟨b,2,none⟩=some (.int .u8 (e.cpu:Int))
 kind:w.cell? ⟨b,3,none⟩=some (.int .u8 (e.kind:Int))
 task:w.cell? ⟨b,4,none⟩=some (.int .i64 e.task)
 group:w.cell? ⟨b,5,none⟩=some (.int .i64 e.group)
 to:w.cell? ⟨b,6,none⟩=some (.int .i64 e.to)
 weight:w.cell? ⟨b,7,none⟩=some (.int .i64 e.weight)
 ticks:w.cell? ⟨b,8,none⟩=some (.int .i64 e.ticks)
 mask:w.cell? ⟨b,9,none⟩=some (.int .u64 (e.mask:Int))
 got:w.cell? ⟨b,10,none⟩=some (.int .i64 e.got)
variable {e:Ev}
def jh.keep (h:jh w b e) (hk:∀(o:Nat) (v:Value),w.cell? ⟨b,o,none⟩=some v→W.cell? ⟨b,o,none⟩=some v):jh W b e:=
 ⟨hk _ _ h.seq,hk _ _ h.time,hk _ _ h.cpu,hk _ _ h.kind,hk _ _ h.task,hk _ _ h.group,hk _ _ h.to,hk _ _ h.weight,hk _ _ h.ticks,hk _ _ h.mask,hk _ _ h.got⟩
theorem jh.below (h:jh w b e) (hk:Below B w W) (hb:b<B):jh W b e:=h.keep λo _ a=>(hk.cell (p:=⟨b,o,none⟩) hb).trans a
def jh.new (w:World) (e:Ev) (t:TypeId):jh (w.alloc (.cells e.cells t)) w.heap.size e:=by
 constructor<;>rw [World.cell?_alloc_new]<;>rfl
theorem jh.lt (h:jh w b e):b<w.heap.size:=World.block_lt_of_cell? w _ h.seq
def aR:Nat→List Nat
 |1=>[0,1,3,5]|2=>[0]|3=>[6]|4=>[6]|5=>[4,6]|6=>[6]|7=>[0,3]|8=>[1,3]|9=>[0,2]|10=>[6]|_=>[]
def Ev.jF (e:Ev):Nat→Int
 |0=>e.task|1=>e.group|2=>e.to|3=>e.weight|4=>e.ticks|5=>(e.mask:Int)|_=>e.got
def Ev.within (e:Ev):Nat→Bool
 |0=>decide (1≤e.task∧e.task≤65535)
 |1=>decide ((if e.kind=8 then 1 else 0)≤e.group∧e.group≤255)
 |2=>decide (0≤e.to∧e.to≤63∧e.to≠(e.cpu:Int))
 |3=>decide (1≤e.weight∧e.weight≤65536)
 |4=>decide (1≤e.ticks∧e.ticks≤4294967295)
 |5=>decide (e.mask/2^e.cpu%2=1)
 |_=>decide ((if e.kind=5∨e.kind=6 then 0 else 1)≤e.got∧e.got≤65535)
def Ev.check (e:Ev):Nat:=
 if e.kind=0∨10<e.kind then 60
 else if e.seq<1∨281474976710656<e.seq∨e.time<0∨281474976710656<e.time∨64≤e.cpu then 61
 else if (aR e.kind).all e.within=false then 61
 else if (List.range 7).all (λi=>decide (e.jF i=0)||(aR e.kind).contains i)=false then 62
 else 0
def Ev.vals (e:Ev):List Nat:=(aR e.kind).map λi=>(e.jF i).toNat
structure Laid (B:Nat) (w:World):Prop where
 uses:∀k,k<11→∃A c,w.cell? ⟨2,k,none⟩=some (.slice A (aR k).length c)∧Rd w B 1 A (aR k).length ((aR k).map dG)
 big:2<B
 names:∀i,i<7→∃s:ByteArray,w.cell? ⟨3,i,none⟩=some (.string s)
 Er:3<B
def Laid.pW (h:Laid B w) (hk:∀p:Addr,p.block<B→W.cell? p=w.cell? p):Laid B W:=
 ⟨λk a=>by obtain ⟨A,c,h1,h2⟩:=h.uses k a;exact ⟨A,c,(hk _ h.big).trans h1,h2.pW hk⟩,h.big,λi hi=>by obtain ⟨s,h1⟩:=h.names i hi;exact ⟨s,(hk _ h.Er).trans h1⟩,h.Er⟩
theorem Laid.below {c:Nat} (h:Laid B w) (hb:Below c w W) (a:B≤c):Laid B W:=h.pW λp b=>hb.cell (by omega)
def Laid.drewN (h:Laid B w) (n:Nat):Laid B (w.drewN n):=h.pW λ_ _=>rfl
theorem Laid.alloc (h:Laid B w) (a:B≤w.heap.size) (o:Obj):Laid B (w.alloc o):=h.pW λp b=>World.cell?_alloc_lt w o p (by omega)
theorem Laid.setCell (h:Laid B w) {p:Addr} (a:B≤p.block) (u:Value):Laid B (w.setCell p u):=
 h.pW λq b=>World.cell?_setCell_other w p q u (λe=>by subst e;omega)
theorem Laid.grown {row:Option Nat} (h:Laid B w) (a:w.grownBy W row) (b:B≤w.heap.size) (hr:∀g,row=some g→B≤g):Laid B W:=
 h.pW λp c=>World.cell?_of_block (a.block p.block (by omega) (λe=>by have:=hr _ e.symm;omega))
def Laid.keep {c:Nat} {S:List Nat} (h:Laid B w) (hk:Keep c S w W) (b:B≤c) (a:∀g∈S,B≤g):Laid B W:=
 h.pW λp d=>World.cell?_of_block (hk.block p.block (by omega) (λhm=>by have:=a _ hm;omega))
end Go.Proofs.YtekiimhdnigmcaaGreatDoor
