/- A part of the proof. -/
import Derived.Test.YtekiimhdnigmcaaGreatDoorQwCheck
namespace Go.Proofs.YtekiimhdnigmcaaGreatDoor
open Go.RowKit
variable {e:Ev}
def Ev.fits (i x:Nat):Bool:=i=5||decide (0≤wrap64 (x:Int))
def zd8 (e:Ev) (base:Nat) (a:World) (v i:Value) (wr:World):Prop:=
 ∃k,k≤(aR e.kind).length∧i= .int .i64 (k:Int)∧wr.ownsRow base 41 1 v k ((e.vals.take k).map bq)∧Below base a wr
theorem AP (h:e.check=0):(e.kind=0∨10<e.kind)=False∧(aR e.kind).all e.within=true∧e.cpu<64∧1≤e.seq∧e.seq≤281474976710656∧0≤e.time∧e.time≤281474976710656:=by
 unfold Ev.check at h
 split at h
 ·cases h
 ·split at h
  ·cases h
  ·split at h
   ·cases h
   ·rename_i h1 h2 h3
    exact ⟨by simp only [h1],by simpa using h3,by omega,by omega,by omega,by omega,by omega⟩
theorem UE:∀{i:Nat},e.within i=true→0≤e.jF i
 |0,h=>by simp only [Ev.within,decide_eq_true_eq] at h;show 0≤e.task;omega
 |1,h=>by simp only [Ev.within,decide_eq_true_eq] at h;show 0≤e.group;have:=h.1;split at this<;>omega
 |2,h=>by simp only [Ev.within,decide_eq_true_eq] at h;show 0≤e.to;omega
 |3,h=>by simp only [Ev.within,decide_eq_true_eq] at h;show 0≤e.weight;omega
 |4,h=>by simp only [Ev.within,decide_eq_true_eq] at h;show 0≤e.ticks;omega
 |5,_=>by show 0≤(e.mask:Int);omega
 |n+6,h=>by simp only [Ev.within,decide_eq_true_eq] at h;show 0≤e.got;have:=h.1;split at this<;>omega
theorem UF (a:e.Ok) (h:e.check=0) {i:Nat} (hi:i∈aR e.kind):e.num i=(((e.jF i).toNat:Nat):Int):=by
 have h1:=(AP h).2.1
 rw [List.all_eq_true] at h1
 have h0:=UE (h1 i hi)
 rw [Nf a i h0]
 omega
def Ev.tq (e:Ev):List Nat:=if e.check=0 then e.vals else []
structure tY (w:World) (err:Nat) (xs:List Nat) (r:Ending) (w':World):Prop where
 ret:∃v,r= .returned (.tuple #[v,.int .i64 (err:Int)])∧w'.ownsRow w.heap.size 41 1 v xs.length (xs.map bq)
 below:Below w.heap.size w w'
set_option maxRecDepth 100000 in
set_option maxHeartbeats 1000000 in
theorem qx4 (e:Ev) (z:e.Ok) (B:Nat) (w:World) (P:Laid B w) (Q:B≤w.heap.size):
  Calls Tryz.prog 286 #[.agg e.cells] w (tY w e.check e.tq):=by
 have j:=jh.new w e 73
 have l:Below w.heap.size w (w.alloc (.cells e.cells 73)):=(Below.refl _ _).alloc (Nat.le_refl _) _
 have m:=P.alloc Q (.cells e.cells 73)
 have C:=hide (UD e z B _ m (by simp;omega))
 obtain ⟨h0,h1,h2,h3,h4,h5,h6,h7,h8,h9,h10⟩:=id j
 unfold Ev.cells at*
 by_cases f:e.check=0
 ·have D:((e.check:Int) !=0)=false:=by rw [bne_eq_false_iff_eq];omega
  have E:=hide (show e.tq=e.vals by unfold Ev.tq;rw [if_pos f])
  have R:=hide (λi (hi:i∈aR e.kind)=>UF z f hi)
  have L:e.kind≤10:=by have:=(AP f).1;simp at this;omega
  have M:=Es e.kind
  have s:Hid (e.vals.length=(aR e.kind).length):=by unfold Ev.vals;rw [List.length_map];exact hide rfl
  have F:=hide f
  clear f
  go_enter Tryz.func286,Tryz.ntmps286
  go_wp2_with (go_at_call 243;refine C.out.mono ?_;rintro r x ⟨rfl,a⟩;have G:=(a.cell (p:=⟨w.heap.size,3,none⟩) (by simp)).trans h3;obtain ⟨A,c,W,t⟩:=(m.below a (by simp;omega)).uses e.kind (by omega))
  have S:w.heap.size+1≤x.heap.size:=by have:=a.size;simpa using this
  have u:=j.below a (by simp)
  have H:Below w.heap.size w x:=l.trans (a.mono (by simp))
  clear h0 h1 h2 h3 h4 h5 h6 h7 h8 h9 h10 j l C m
  go_loopw [5,20] (zd8 e (w.heap.size+1) x) (λ_ i _=>(aR e.kind).length- (intOf i).toNat)
  case atStart=>exact ⟨0,by omega,rfl,World.ownsRow_nil _ _ _ _,Below.refl _ _⟩
  case round=>
   obtain ⟨k,f,rfl,d,n⟩:=hrel
   by_cases o:k<(aR e.kind).length
   ·obtain ⟨X,rfl,T,U,b⟩:=(t.below (n.mono (by omega))).at o
    simp only [List.getElem_map] at b
    have hi:=Ng e.kind _ (List.getElem_mem o)
    have hm:(aR e.kind)[k]∈aR e.kind:=List.getElem_mem _
    have N:e.vals[k]?=some (e.jF (aR e.kind)[k]).toNat:=by unfold Ev.vals;rw [List.getElem?_map,List.getElem?_eq_getElem o];rfl
    have I:=hide (qnr bq N)
    clear N
    generalize (aR e.kind)[k]=i at b hi hm I
    unfold dG at b
    have h:=R.out i hm
    have J:=hide (Ke e z w.heap.size i hi wr (u.below n (by omega)))
    rw [h] at J
    clear h
    generalize (e.jF i).toNat=y at J I
    go_wp2_with (first|(go_at_call 285;refine J.out.mono ?_;rintro r Y ⟨rfl,K,rfl⟩)|(at_builtin;refine q02 rfl rfl kP ((own_drewN d K).alloc _) rfl (Rd.one (wr.drewN K) _ _) rfl (by simp [Value.oneCell']) (by omega) (by omega) (by simp;have:=n.size;omega) ?_;intro Z c2 w2 q v O))
    refine ⟨⟨k+1,by omega,by go_num,by rw [←I.out];exact q,((below_drewN n K).alloc (by simp;have:=n.size;omega) _).grown v (by simp;have:=n.size;omega) (λg V=>(d.lt g V).1)⟩,by simp [intOf];omega⟩
   ·obtain rfl:k=(aR e.kind).length:=by omega
    clear t
    go_wp2
    go_ret2
    have h1:=F.out
    refine ⟨⟨_,by rw [h1];rfl,?_⟩,H.trans (n.mono (by omega))⟩
    rw [E.out,s.out]
    rw [List.take_of_length_le (by rw [s.out];omega)] at d
    exact M9 d (by omega)
 ·have D:((e.check:Int) !=0)=true:=by rw [bne_iff_ne];omega
  have E:=hide (show e.tq=[] by unfold Ev.tq;rw [if_neg f])
  clear f
  go_enter Tryz.func286,Tryz.ntmps286
  go_wp2_with (go_at_call 243;refine C.out.mono ?_;rintro r x ⟨rfl,a⟩)
  go_ret2
  exact ⟨⟨_,rfl,by rw [E.out];exact World.ownsRow_nil _ _ _ _⟩,l.trans (a.mono (by simp))⟩
end Go.Proofs.YtekiimhdnigmcaaGreatDoor
