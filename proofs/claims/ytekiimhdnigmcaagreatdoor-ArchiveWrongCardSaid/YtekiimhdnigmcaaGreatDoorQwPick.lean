/- A part of the proof. -/
import Derived.Test.YtekiimhdnigmcaaGreatDoorQwMade
import Derived.Test.YtekiimhdnigmcaaGreatDoorQwConv
namespace Go.Proofs.YtekiimhdnigmcaaGreatDoor
open Go.RowKit
def dZ (x n:Int):Int:=if n<1 then 0 else x%n
theorem q2z (x n:Int) (a:1≤n):(Int.tmod x n<0→Int.tmod x n+n=x%n)∧(0≤Int.tmod x n→Int.tmod x n=x%n):=by
 have h1:= @Int.tmod_eq_emod x n
 have h2:=Int.emod_nonneg x (show n≠0 by omega)
 have h3:=Int.emod_lt_of_pos x (show 0<n by omega)
 rw [h1]
 have h4:(n.natAbs:Int)=n:=Int.natAbs_of_nonneg (by omega)
 split
 ·simp;omega
 ·rw [h4];omega
set_option maxHeartbeats 400000 in
theorem OQ (x n:Int) (_hx:aQ x) (d:aQ n) (w:World):Calls Tryz.prog 39 #[.int .i64 x,.int .i64 n] w λe f=>e= .returned (.int .i64 (dZ x n))∧f=w:=by
 by_cases h:n<1
 ·have g:decide (n<1)=true:=by simpa using h
  have a:dZ x n=0:=if_pos h
  rw [a]
  clear a
  go_enter Tryz.func39,Tryz.ntmps39
  go_wp2
  go_ret
  exact ⟨rfl,rfl⟩
 ·have g:decide (n<1)=false:=by simpa using h
  have a:dZ x n=x%n:=if_neg h
  rw [a]
  clear a
  have i:=hide (q2z x n (by omega))
  go_enter Tryz.func39,Tryz.ntmps39
  go_wp2
  all_goals
   rename_i b
   have c:=i.out
   have h3:=Int.emod_nonneg x (show n≠0 by omega)
   have h4:=Int.emod_lt_of_pos x (show 0<n by omega)
   have j:=d.2
   go_ret
   refine ⟨?_,rfl⟩
   first
    |(show Ending.returned (.int .i64 (Int.tmod x n))=_;rw [c.2 b])
    |(show Ending.returned (.int .i64 (wrap64 (Int.tmod x n+n)))=_;rw [c.1 b,←IntWalk.i64_left,IntKind.wrap_i64];congr 2;omega)
structure sI (b:Bs) (w:World) (r:Ending) (w':World):Prop where
 ret:r= .returned (.agg b.based.cells)
 below:Below w.heap.size w w'
set_option maxRecDepth 100000 in
set_option maxHeartbeats 400000 in
theorem q20 (b:Bs) (hb:b.Ok) (w:World):Calls Tryz.prog 158 #[.agg b.cells] w (sI b w):=by
 have f:=hide (λx m w=>OQ x 1099511627776 m ⟨by omega,by omega⟩ w)
 have hs:dZ b.seq 1099511627776=b.seq%1099511627776:=if_neg (by omega)
 have ht:dZ b.time 1099511627776=b.time%1099511627776:=if_neg (by omega)
 have j:=hide hb.seq
 have k:=hide hb.time
 have h1:0≤b.seq%1099511627776:=by omega
 have h2:b.seq%1099511627776<1099511627776:=by omega
 obtain ⟨q,g⟩:∃q,b.seq%1099511627776=q:=⟨_,rfl⟩
 obtain ⟨p,h⟩:∃q,b.time%1099511627776=q:=⟨_,rfl⟩
 have l:b.based.cells= #[.int .i64 (1+q),.int .i64 p]:=by rw [←g,←h];rfl
 rw [g] at h1 h2 hs
 rw [h] at ht
 have n:=hide l
 have a:=hide (λW=>(f.out b.seq j.out W))
 rw [hs] at a
 have c:=hide (λW=>(f.out b.time k.out W))
 rw [ht] at c
 simp only [Bs.cells]
 obtain ⟨s,d⟩:∃q,b.seq=q:=⟨_,rfl⟩
 obtain ⟨t,e⟩:∃q,b.time=q:=⟨_,rfl⟩
 rw [d] at a⊢
 rw [e] at c⊢
 clear g h hs ht d e l f j k
 go_enter Tryz.func158,Tryz.ntmps158
 go_wp2
 go_region_with (first
  |(go_at_call 39;with_reducible refine (a.out _).mono ?_;rintro r o ⟨rfl,rfl⟩)
  |(go_at_call 39;with_reducible refine (c.out _).mono ?_;rintro r o ⟨rfl,rfl⟩))
 all_goals
  go_wp2
  refine bodyPost_ret (v:= .agg #[.int .i64 (1+q),.int .i64 p]) ?g1 rfl ?g2
  case g2=>exact ⟨by rw [n.out],(((Below.refl _ _).alloc (Nat.le_refl _) _).alloc (by simp) _).drew⟩
  case g1=>
   have i:IntKind.i64.wrap (1+q)=1+q:=by rw [IntKind.wrap_i64];omega
   rw [i]
   simp [results,Tryz.results158,go_sem]
end Go.Proofs.YtekiimhdnigmcaaGreatDoor
