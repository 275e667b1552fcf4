/- A part of the proof. -/
import Derived.Test.YtieeckeaijdaeaaGreatDoorQaCod8
namespace Go.Proofs.YtieeckeaijdaeaaGreatDoor
open Go.RowKit Go.Shelf
attribute [local go_sem] Oper.semAt_some
set_option maxRecDepth 100000 in
set_option maxHeartbeats 2000000 in
theorem PN (b:Bs) (cpu:Nat) (A:Option Addr) (n c:Nat) (m:Int) (w:World) (er:Nat)
  (hm:(m<0∧er=2)∨(0≤m∧b.right=false∧er=70)∨(m=0∧b.right=true∧er=0)):
  Calls Tryz.prog 162 #[.agg b.cells,.int .u8 (cpu:Int),.int .i64 m,.slice A n c] w (jW w ([],0,er)):=by
 have HR:=hide (fun W=>wZ b W)
 have HB2:=hide (tZ b)
 obtain ⟨W0,hW0⟩:∃W0,W0=((((w.alloc (.cells b.cells 229)).alloc (.cells #[.int .i64 m] 3)).alloc (.cells #[.slice none 0 0] 57)).alloc (.cells #[.int .i64 0] 3)).alloc (.cells #[.int .i64 0] 61):=⟨_,rfl⟩
 have hs0:W0.heap.size=w.heap.size+5:=by rw [hW0];simp
 have hb0:Below w.heap.size w W0:=by rw [hW0];exact (((((Below.refl _ _).alloc (Nat.le_refl _) _).alloc (by simp) _).alloc (by simp;omega) _).alloc (by simp;omega) _).alloc (by simp;omega) _
 have hx0:W0.heap[w.heap.size]?=some (.cells b.cells 229):=by
  rw [hW0,Below.heap_alloc _ _ _ (by simp<;>omega),Below.heap_alloc _ _ _ (by simp<;>omega),Below.heap_alloc _ _ _ (by simp<;>omega),Below.heap_alloc _ _ _ (by simp)];exact World.alloc_heap_new w _
 have hx1:W0.heap[w.heap.size+1]?=some (.cells #[.int .i64 m] 3):=by
  rw [hW0,Below.heap_alloc _ _ _ (by simp<;>omega),Below.heap_alloc _ _ _ (by simp<;>omega),Below.heap_alloc _ _ _ (by simp)]
  have:=World.alloc_heap_new (w.alloc (.cells b.cells 229)) (.cells #[.int .i64 m] 3);rwa [World.size_alloc] at this
 have hx2:W0.heap[w.heap.size+1+1]?=some (.cells #[.slice none 0 0] 57):=by
  rw [hW0,Below.heap_alloc _ _ _ (by simp<;>omega),Below.heap_alloc _ _ _ (by simp)]
  have:=World.alloc_heap_new ((w.alloc (.cells b.cells 229)).alloc (.cells #[.int .i64 m] 3)) (.cells #[.slice none 0 0] 57);simpa only [World.size_alloc] using this
 have hx3:W0.heap[w.heap.size+1+1+1]?=some (.cells #[.int .i64 0] 3):=by
  rw [hW0,Below.heap_alloc _ _ _ (by simp)]
  have:=World.alloc_heap_new (((w.alloc (.cells b.cells 229)).alloc (.cells #[.int .i64 m] 3)).alloc (.cells #[.slice none 0 0] 57)) (.cells #[.int .i64 0] 3);simpa only [World.size_alloc] using this
 have hx4:W0.heap[w.heap.size+1+1+1+1]?=some (.cells #[.int .i64 0] 61):=by
  rw [hW0]
  have:=World.alloc_heap_new ((((w.alloc (.cells b.cells 229)).alloc (.cells #[.int .i64 m] 3)).alloc (.cells #[.slice none 0 0] 57)).alloc (.cells #[.int .i64 0] 3)) (.cells #[.int .i64 0] 61);simpa only [World.size_alloc] using this
 have HD0:=hide (qc hx0)
 have k1:W0.cell? ⟨w.heap.size+1,0,none⟩=some (.int .i64 m):=by simp [World.cell?,hx1]
 have HX:=hide (And.intro hx1 (And.intro hx2 (And.intro hx3 hx4)))
 have hsz:w.heap.size+5≤W0.heap.size:=by omega
 clear hx0 hx1 hx2 hx3 hx4 hs0
 generalize b.cells=ds at*
 rcases hm with ⟨hm,rfl⟩|⟨hm,hR,rfl⟩|⟨rfl,hR,rfl⟩
 ·have LU:decide (m<0)=true:=by rw [decide_eq_true_eq];exact hm
  clear hm
  obtain ⟨h1,h2,h3,h4⟩:=HX.out
  have qL:=hide (And.intro h2 (And.intro h3 h4))
  have r8:W0.cell? ⟨w.heap.size+1+1,0,none⟩=some (.slice none 0 0):=(by simp [World.cell?,h2])
  have r9:W0.cell? ⟨w.heap.size+1+1+1,0,none⟩=some (.int .i64 0):=(by simp [World.cell?,h3])
  have oK:W0.cell? ⟨w.heap.size+1+1+1+1,0,none⟩=some (.int .i64 0):=(by simp [World.cell?,h4])
  have f8:∀i,W0.frozen? ⟨w.heap.size+1+1,i,none⟩=false:=fun i=>(by simp [World.frozen?,h2])
  have f9:∀i,W0.frozen? ⟨w.heap.size+1+1+1,i,none⟩=false:=fun i=>(by simp [World.frozen?,h3])
  have f10:∀i,W0.frozen? ⟨w.heap.size+1+1+1+1,i,none⟩=false:=fun i=>(by simp [World.frozen?,h4])
  clear h1 h2 h3 h4
  refine callsIn_wide.1 (callsIn_of_wp_marks (n:=0) Tryz.func162 rfl trivial ?_ rfl)
  simp only [Tryz.ntmps162,List.size_toArray,List.length_cons,List.length_nil,Nat.reduceAdd,Nat.reduceSub,Array.replicate_succ,Array.replicate_zero,List.push_toArray,List.append_toArray,List.nil_append,List.cons_append]
  gi_wp2_with (rw [←hW0];clear hW0)
  have e8:(((W0.setCell ⟨w.heap.size+1+1,0,none⟩ (.slice none 0 0)).setCell ⟨w.heap.size+1+1+1,0,none⟩ (.int .i64 0)).setCell ⟨w.heap.size+1+1+1+1,0,none⟩ (.int .i64 2)).heap[w.heap.size+1+1]?=some (.cells #[.slice none 0 0] 57 (0,0)):=by
   rw [qe (by omega),qe (by omega)];exact qg qL.out.1 _
  have e9:(((W0.setCell ⟨w.heap.size+1+1,0,none⟩ (.slice none 0 0)).setCell ⟨w.heap.size+1+1+1,0,none⟩ (.int .i64 0)).setCell ⟨w.heap.size+1+1+1+1,0,none⟩ (.int .i64 2)).heap[w.heap.size+1+1+1]?=some (.cells #[.int .i64 0] 3 (0,0)):=by
   rw [qe (by omega)];exact qg (by rw [qe (by omega)];exact qL.out.2.1) _
  have e10:(((W0.setCell ⟨w.heap.size+1+1,0,none⟩ (.slice none 0 0)).setCell ⟨w.heap.size+1+1+1,0,none⟩ (.int .i64 0)).setCell ⟨w.heap.size+1+1+1+1,0,none⟩ (.int .i64 2)).heap[w.heap.size+1+1+1+1]?=some (.cells #[.int .i64 2] 61 (0,0)):=by
   exact qg (by rw [qe (by omega),qe (by omega)];exact qL.out.2.2) _
  refine ⟨_,Gu (b1:=w.heap.size+1+1) (b2:=w.heap.size+1+1+1) (b3:=w.heap.size+1+1+1+1) (x1:= .slice none 0 0) (x2:= .int .i64 0) (x3:= .int .i64 2) rfl rfl rfl rfl (by kernel_rfl) (by kernel_rfl) (by kernel_rfl) (by simp only [World.cell?,e8];rfl) (by simp only [World.cell?,e9];rfl) (by simp only [World.cell?,e10];rfl),?_⟩
  exact ⟨⟨_,rfl,World.ownsRow_nil _ _ _ _⟩,qt (qt (qt (hb0) (by omega) _) (by omega) _) (by omega) _⟩
 ·have LU:decide (m<0)=false:=by rw [decide_eq_false_iff_not];omega
  clear hm
  rw [hR] at HR
  clear hR
  refine callsIn_wide.1 (callsIn_of_wp_marks (n:=0) Tryz.func162 rfl trivial ?_ rfl)
  simp only [Tryz.ntmps162,List.size_toArray,List.length_cons,List.length_nil,Nat.reduceAdd,Nat.reduceSub,Array.replicate_succ,Array.replicate_zero,List.push_toArray,List.append_toArray,List.nil_append,List.cons_append]
  gi_wp2_with (first
   |(rw [←hW0];clear hW0)
   |(with_reducible refine LC HD0.out rfl rfl rfl ed HB2.out ?_)
   |(refine ⟨trivial,rfl,?_⟩;refine (callsIn_wide.2 (HR.out _)).mono ?_;rintro r w2 ⟨rfl,hb2⟩;obtain ⟨h1,h2,h3,h4⟩:=HX.out;have k2:=(hb2.cell (p:=⟨w.heap.size+1,0,none⟩) (by show w.heap.size+1<_;omega)).trans k1;replace h2:=(hb2.block _ (by omega)).trans h2;replace h3:=(hb2.block _ (by omega)).trans h3;replace h4:=(hb2.block _ (by omega)).trans h4;have qL:=hide (And.intro h2 (And.intro h3 h4));have r8:w2.cell? ⟨w.heap.size+1+1,0,none⟩=some (.slice none 0 0):=(by simp [World.cell?,h2]);have r9:w2.cell? ⟨w.heap.size+1+1+1,0,none⟩=some (.int .i64 0):=(by simp [World.cell?,h3]);have oK:w2.cell? ⟨w.heap.size+1+1+1+1,0,none⟩=some (.int .i64 0):=(by simp [World.cell?,h4]);have f8:∀i,w2.frozen? ⟨w.heap.size+1+1,i,none⟩=false:=fun i=>(by simp [World.frozen?,h2]);have f9:∀i,w2.frozen? ⟨w.heap.size+1+1+1,i,none⟩=false:=fun i=>(by simp [World.frozen?,h3]);have f10:∀i,w2.frozen? ⟨w.heap.size+1+1+1+1,i,none⟩=false:=fun i=>(by simp [World.frozen?,h4]);clear h1 h2 h3 h4))
  have e8:(((w2.setCell ⟨w.heap.size+1+1,0,none⟩ (.slice none 0 0)).setCell ⟨w.heap.size+1+1+1,0,none⟩ (.int .i64 0)).setCell ⟨w.heap.size+1+1+1+1,0,none⟩ (.int .i64 70)).heap[w.heap.size+1+1]?=some (.cells #[.slice none 0 0] 57 (0,0)):=by
   rw [qe (by omega),qe (by omega)];exact qg qL.out.1 _
  have e9:(((w2.setCell ⟨w.heap.size+1+1,0,none⟩ (.slice none 0 0)).setCell ⟨w.heap.size+1+1+1,0,none⟩ (.int .i64 0)).setCell ⟨w.heap.size+1+1+1+1,0,none⟩ (.int .i64 70)).heap[w.heap.size+1+1+1]?=some (.cells #[.int .i64 0] 3 (0,0)):=by
   rw [qe (by omega)];exact qg (by rw [qe (by omega)];exact qL.out.2.1) _
  have e10:(((w2.setCell ⟨w.heap.size+1+1,0,none⟩ (.slice none 0 0)).setCell ⟨w.heap.size+1+1+1,0,none⟩ (.int .i64 0)).setCell ⟨w.heap.size+1+1+1+1,0,none⟩ (.int .i64 70)).heap[w.heap.size+1+1+1+1]?=some (.cells #[.int .i64 70] 61 (0,0)):=by
   exact qg (by rw [qe (by omega),qe (by omega)];exact qL.out.2.2) _
  refine ⟨_,Gu (b1:=w.heap.size+1+1) (b2:=w.heap.size+1+1+1) (b3:=w.heap.size+1+1+1+1) (x1:= .slice none 0 0) (x2:= .int .i64 0) (x3:= .int .i64 70) rfl rfl rfl rfl (by kernel_rfl) (by kernel_rfl) (by kernel_rfl) (by simp only [World.cell?,e8];rfl) (by simp only [World.cell?,e9];rfl) (by simp only [World.cell?,e10];rfl),?_⟩
  exact ⟨⟨_,rfl,World.ownsRow_nil _ _ _ _⟩,qt (qt (qt (hb0.trans (hb2.mono (by omega))) (by omega) _) (by omega) _) (by omega) _⟩
 ·have LU:decide ((0:Int)<0)=false:=rfl
  rw [hR] at HR
  clear hR
  refine callsIn_wide.1 (callsIn_of_wp_marks (n:=0) Tryz.func162 rfl trivial ?_ rfl)
  simp only [Tryz.ntmps162,List.size_toArray,List.length_cons,List.length_nil,Nat.reduceAdd,Nat.reduceSub,Array.replicate_succ,Array.replicate_zero,List.push_toArray,List.append_toArray,List.nil_append,List.cons_append]
  gi_wp2_with (first
   |(rw [←hW0];clear hW0)
   |(with_reducible refine LC HD0.out rfl rfl rfl ed HB2.out ?_)
   |(refine ⟨trivial,rfl,?_⟩;refine (callsIn_wide.2 (HR.out _)).mono ?_;rintro r w2 ⟨rfl,hb2⟩;obtain ⟨h1,h2,h3,h4⟩:=HX.out;have k2:=(hb2.cell (p:=⟨w.heap.size+1,0,none⟩) (by show w.heap.size+1<_;omega)).trans k1;replace h2:=(hb2.block _ (by omega)).trans h2;replace h3:=(hb2.block _ (by omega)).trans h3;replace h4:=(hb2.block _ (by omega)).trans h4;have qL:=hide (And.intro h2 (And.intro h3 h4));have r8:w2.cell? ⟨w.heap.size+1+1,0,none⟩=some (.slice none 0 0):=(by simp [World.cell?,h2]);have r9:w2.cell? ⟨w.heap.size+1+1+1,0,none⟩=some (.int .i64 0):=(by simp [World.cell?,h3]);have oK:w2.cell? ⟨w.heap.size+1+1+1+1,0,none⟩=some (.int .i64 0):=(by simp [World.cell?,h4]);have f8:∀i,w2.frozen? ⟨w.heap.size+1+1,i,none⟩=false:=fun i=>(by simp [World.frozen?,h2]);have f9:∀i,w2.frozen? ⟨w.heap.size+1+1+1,i,none⟩=false:=fun i=>(by simp [World.frozen?,h3]);have f10:∀i,w2.frozen? ⟨w.heap.size+1+1+1+1,i,none⟩=false:=fun i=>(by simp [World.frozen?,h4]);clear h1 h2 h3 h4))
  have e8:(((w2.setCell ⟨w.heap.size+1+1,0,none⟩ (.slice none 0 0)).setCell ⟨w.heap.size+1+1+1,0,none⟩ (.int .i64 0)).setCell ⟨w.heap.size+1+1+1+1,0,none⟩ (.int .i64 0)).heap[w.heap.size+1+1]?=some (.cells #[.slice none 0 0] 57 (0,0)):=by
   rw [qe (by omega),qe (by omega)];exact qg qL.out.1 _
  have e9:(((w2.setCell ⟨w.heap.size+1+1,0,none⟩ (.slice none 0 0)).setCell ⟨w.heap.size+1+1+1,0,none⟩ (.int .i64 0)).setCell ⟨w.heap.size+1+1+1+1,0,none⟩ (.int .i64 0)).heap[w.heap.size+1+1+1]?=some (.cells #[.int .i64 0] 3 (0,0)):=by
   rw [qe (by omega)];exact qg (by rw [qe (by omega)];exact qL.out.2.1) _
  have e10:(((w2.setCell ⟨w.heap.size+1+1,0,none⟩ (.slice none 0 0)).setCell ⟨w.heap.size+1+1+1,0,none⟩ (.int .i64 0)).setCell ⟨w.heap.size+1+1+1+1,0,none⟩ (.int .i64 0)).heap[w.heap.size+1+1+1+1]?=some (.cells #[.int .i64 0] 61 (0,0)):=by
   exact qg (by rw [qe (by omega),qe (by omega)];exact qL.out.2.2) _
  refine ⟨_,Gu (b1:=w.heap.size+1+1) (b2:=w.heap.size+1+1+1) (b3:=w.heap.size+1+1+1+1) (x1:= .slice none 0 0) (x2:= .int .i64 0) (x3:= .int .i64 0) rfl rfl rfl rfl (by kernel_rfl) (by kernel_rfl) (by kernel_rfl) (by simp only [World.cell?,e8];rfl) (by simp only [World.cell?,e9];rfl) (by simp only [World.cell?,e10];rfl),?_⟩
  exact ⟨⟨_,rfl,World.ownsRow_nil _ _ _ _⟩,qt (qt (qt (hb0.trans (hb2.mono (by omega))) (by omega) _) (by omega) _) (by omega) _⟩
def V4 (m:Int) (l:List Nat):Prop:=m≤1000000000000∨l.length≤1000000000000
theorem quw (b:Bs) (cpu:Nat) (eO:cpu<256) (A:Option Addr) (n c:Nat) (m:Int) (hm:bC m) (l:List Nat) (B:Nat) (w:World) (hL:Laid B w) (hB:B≤w.heap.size) (hr:Rd w w.heap.size 1 A n (l.map B8)) (hc:n≤c) (hl:∀b∈l,b<256) (hn:n≤200000000000000) (hlim:V4 m l):
  Calls Tryz.prog 162 #[.agg b.cells,.int .u8 (cpu:Int),.int .i64 m,.slice A n c] w (jW w (gQ b cpu m l)):=by
 unfold gQ
 by_cases h1:m<0
 ·rw [if_pos h1];exact PN b cpu A n c m w 2 (.inl ⟨h1,rfl⟩)
 ·rw [if_neg h1]
  cases hR:b.right with
  |false=>rw [if_pos rfl];exact PN b cpu A n c m w 70 (.inr (.inl ⟨by omega,hR,rfl⟩))
  | true =>
   rw [if_neg (by simp)]
   by_cases h0:m=0
   ·subst h0;exact PN b cpu A n c 0 w 0 (.inr (.inr ⟨rfl,hR,rfl⟩))
   ·obtain ⟨k,rfl⟩:∃k:Nat,m=(k:Int):=⟨m.toNat,by omega⟩
    rw [Int.toNat_natCast]
    refine quu b cpu eO A n c k l B w hL hB hr hc hl hn hR (by omega) (by have:=hm.2;omega) ?_
    rcases hlim with h|h
    ·exact .inl (by omega)
    ·exact .inr h
end Go.Proofs.YtieeckeaijdaeaaGreatDoor
