/- A part of the proof. -/
import Derived.Test.YtieeckeaijdaeaaGreatDoorQaCod2
namespace Go.Proofs.YtieeckeaijdaeaaGreatDoor
open Go.RowKit
set_option maxRecDepth 100000 in
set_option maxHeartbeats 1000000 in
theorem Pk (b:Bs) (cpu:Nat) (A:Option Addr) (n c:Nat) (l:List Nat) (B:Nat) (w:World) (hL:Laid B w) (hB:B≤w.heap.size) (hr:Rd w w.heap.size 1 A n (l.map B8)) (hl:∀b∈l,b<256)
  (hbad:b.right=false∨(b.right=true∧l=[])∨(b.right=true∧l≠[]∧(aa (l.getD 0 0)).length=0)):
  Calls Tryz.prog 238 #[.agg b.cells,.int .u8 (cpu:Int),.slice A n c] w (iJ w (aC b cpu l)):=by
 have hlen:l.length=n:=by simpa using hr.len
 have HR:=hide (fun W=>wZ b W)
 have HB2:=hide (tZ b)
 obtain ⟨W0,hW0⟩:∃W0,W0=((w.alloc (.cells b.cells 229)).alloc (.cells #[.slice A n c] 35)).alloc (.cells #[.int .i64 0,.int .i64 0,.int .u8 0,.int .u8 0,.int .i64 0,.int .i64 0,.int .i64 0,.int .i64 0,.int .i64 0,.int .u64 0,.int .i64 0] 32):=⟨_,rfl⟩
 have hs0:W0.heap.size=w.heap.size+3:=by rw [hW0];simp
 have hb0:Below w.heap.size w W0:=by rw [hW0];exact (((Below.refl _ _).alloc (Nat.le_refl _) _).alloc (by simp) _).alloc (by simp;omega) _
 have hx1:W0.heap[w.heap.size]?=some (.cells b.cells 229):=by
  rw [hW0,Below.heap_alloc _ _ _ (by simp;omega),Below.heap_alloc _ _ _ (by simp)];exact World.alloc_heap_new w _
 have hx2:W0.heap[w.heap.size+1]?=some (.cells #[.slice A n c] 35):=by
  rw [hW0,Below.heap_alloc _ _ _ (by simp)];have:=World.alloc_heap_new (w.alloc (.cells b.cells 229)) (.cells #[.slice A n c] 35);rwa [World.size_alloc] at this
 have hx3:W0.heap[w.heap.size+1+1]?=some (.cells Ev.zero.cells 32):=by
  rw [hW0];have:=World.alloc_heap_new ((w.alloc (.cells b.cells 229)).alloc (.cells #[.slice A n c] 35)) (.cells Ev.zero.cells 32);rwa [World.size_alloc,World.size_alloc] at this
 have HD0:=hide (qc hx1)
 have hp0:W0.cell? ⟨w.heap.size+1,0,none⟩=some (.slice A n c):=by simp [World.cell?,hx2]
 have LH:Laid B W0:=hL.below hb0 hB
 have hsz0:w.heap.size+3≤W0.heap.size:=by omega
 have zX:=hide hx3
 generalize b.cells=ds at*
 rcases hbad with hR|⟨hR,hnil⟩|⟨hR,hne,hu⟩
 ·rw [hR] at HR
  have HH:=hide (show aC b cpu l=(Ev.zero,0,70) by unfold aC;rw [if_pos hR])
  clear hx1 hx2 hx3 hs0 hR hlen
  go_enter Tryz.func238,Tryz.ntmps238
  go_wp2_with (first
   |(rw [←hW0];clear hW0)
   |(with_reducible refine zm HD0.out rfl rfl rfl ed HB2.out ?_)
   |(go_at_call 203;refine (HR.out _).mono ?_;rintro r w2 ⟨rfl,hb2⟩;have HT:=hide ((hb2.block (w.heap.size+1+1) (by omega)).trans zX.out))
   |(refine xW (cs:=Ev.zero.cells) (qy HT.out 0 11 (Nat.le_refl _)) rfl rfl rfl rfl aU rfl (l9 Ev.zero) ?_))
  rw [HH.out]
  exact xe (b:=w.heap.size+1+1) (zW HT.out rfl) (below_setCells (hb0.trans (hb2.mono (by omega))) (by omega) _ _) rfl rfl rfl
 ·subst hnil
  have hn0:n=0:=by simpa using hlen.symm
  subst hn0
  rw [hR] at HR
  have HH:=hide (show aC b cpu []=(Ev.zero,0,10) by unfold aC;rw [if_neg (by simp [hR]),if_pos rfl])
  clear hx1 hx2 hx3 hs0 hR hlen
  go_enter Tryz.func238,Tryz.ntmps238
  go_wp2_with (first
   |(rw [←hW0];clear hW0)
   |(with_reducible refine zm HD0.out rfl rfl rfl ed HB2.out ?_)
   |(go_at_call 203;refine (HR.out _).mono ?_;rintro r w2 ⟨rfl,hb2⟩;have HT:=hide ((hb2.block (w.heap.size+1+1) (by omega)).trans zX.out);have hp2:=(hb2.cell (p:=⟨w.heap.size+1,0,none⟩) (by show w.heap.size+1<_;omega)).trans hp0)
   |(refine xW (cs:=Ev.zero.cells) (qy HT.out 0 11 (Nat.le_refl _)) rfl rfl rfl rfl aU rfl (l9 Ev.zero) ?_))
  rw [HH.out]
  exact xe (b:=w.heap.size+1+1) (zW HT.out rfl) (below_setCells (hb0.trans (hb2.mono (by omega))) (by omega) _ _) rfl rfl rfl
 ·obtain ⟨kd,rr,rfl⟩:∃kd rr,l=kd::rr:=by
   cases l with
   |nil=>exact absurd rfl hne
   |cons a b=>exact ⟨a,b,rfl⟩
  rw [List.getD_cons_zero] at hu
  obtain ⟨ad,rfl,BP,hcell0⟩:=hr.row (by simp at hlen;omega)
  have hcl0:w.cell? ad=some (.int .u8 (kd:Int)):=by have:=hcell0 0 _ rfl;simpa [Addr.add,B8] using this
  have hc0:W0.cell? ad=some (.int .u8 (kd:Int)):=(hb0.cell BP).trans hcl0
  have hkd:kd<256:=hl kd (by simp)
  have F8:=hide (fun W (h1:Laid B W) (h2:B≤W.heap.size)=>UW kd hkd B W h1 h2)
  rw [hu] at F8
  rw [hR] at HR
  have HH:=hide (show aC b cpu (kd::rr)=(Ev.zero,0,60) by unfold aC;rw [if_neg (by simp [hR]),if_neg (by simp),List.getD_cons_zero,if_pos hu])
  have OX:((n:Int)==0)=false:=by rw [beq_eq_false_iff_ne];simp at hlen;omega
  have hn0:(0:Int)<(n:Int):=by simp at hlen;omega
  clear hx1 hx2 hx3 hs0 hR hlen hu hcell0 hcl0 hne
  go_enter Tryz.func238,Tryz.ntmps238
  go_wp2_with (first
   |(rw [←hW0];clear hW0)
   |(with_reducible refine zm HD0.out rfl rfl rfl ed HB2.out ?_)
   |(go_at_call 203;refine (HR.out _).mono ?_;rintro r w2 ⟨rfl,hb2⟩;have hz2:=hb2.size;have hc2:=(hb2.cell (p:=ad) (by omega)).trans hc0;have hp2:=(hb2.cell (p:=⟨w.heap.size+1,0,none⟩) (by show w.heap.size+1<_;omega)).trans hp0)
   |(go_at_call 250;refine (F8.out _ (LH.below hb2 (by omega)) (by omega)).mono ?_;rintro r w3 ⟨v,xs,rfl,hown3,hb3⟩;obtain ⟨A3,c3,rfl⟩:=tN hown3;have HT:=hide ((hb3.block (w.heap.size+1+1) (by omega)).trans ((hb2.block (w.heap.size+1+1) (by omega)).trans zX.out)))
   |(refine xW (cs:=Ev.zero.cells) (qy HT.out 0 11 (Nat.le_refl _)) rfl rfl rfl rfl aU rfl (l9 Ev.zero) ?_))
  rw [HH.out]
  exact xe (b:=w.heap.size+1+1) (zW HT.out rfl) (below_setCells ((hb0.trans (hb2.mono (by omega))).trans (hb3.mono (by omega))) (by omega) _ _) rfl rfl rfl
theorem qy9 (b:Bs) (cpu:Nat) (eO:cpu<256) (A:Option Addr) (n c:Nat) (l:List Nat) (B:Nat) (w:World) (hL:Laid B w) (hB:B≤w.heap.size) (hr:Rd w w.heap.size 1 A n (l.map B8)) (hc:n≤c) (hl:∀b∈l,b<256) (hn:n≤200000000000000):
  Calls Tryz.prog 238 #[.agg b.cells,.int .u8 (cpu:Int),.slice A n c] w (iJ w (aC b cpu l)):=by
 cases hR:b.right with
 |false=>exact Pk b cpu A n c l B w hL hB hr hl (.inl hR)
 | true =>
  cases l with
  |nil=>exact Pk b cpu A n c [] B w hL hB hr hl (.inr (.inl ⟨hR,rfl⟩))
  | cons kd r =>
   by_cases hu:(aa kd).length=0
   ·exact Pk b cpu A n c (kd::r) B w hL hB hr hl (.inr (.inr ⟨hR,by simp,by simpa using hu⟩))
   ·have h:=quq b cpu A n c kd r B w hL hB hr hc hl hn hR hu eO
    have e:aC b cpu (kd::r)=oV b cpu kd (aj (2+(aa kd).length) r):=by
     unfold aC;rw [if_neg (by simp [hR]),if_neg (by simp),List.getD_cons_zero,if_neg hu];rfl
    rw [e];exact h
end Go.Proofs.YtieeckeaijdaeaaGreatDoor
