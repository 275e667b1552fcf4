/- A part of the proof. -/
import Derived.Test.YtieeckeaijdaeaaGreatDoorQaCod5
namespace Go.Proofs.YtieeckeaijdaeaaGreatDoor
open Go.RowKit
set_option maxRecDepth 100000 in
set_option maxHeartbeats 1000000 in
theorem qur (b:Bs) (A:Option Addr) (n c:Nat) (l:List Ev) (hok:∀e∈l,e.Ok) (B:Nat) (w:World) (hL:Laid B w) (hB:B≤w.heap.size) (hr:Rd w w.heap.size 11 A n (l.flatMap cZ)) (hn:n≤1000000000000)
  (hrow:(bH l).2≠0):
  Calls Tryz.prog 164 #[.agg b.cells,.slice A n c] w (cO w (bH l).2 []):=by
 have hlen:l.length=n:=by have:=hr.len;rw [qK cZ 11 nu] at this;omega
 have rO:=hide (fun W (h:Below w.heap.size w W)=>Ex A n c l hok B W (hL.below h hB) (by have:=h.size;omega) ((hr.below h).more h.size) (by omega))
 have HR:=hide (fun W=>wZ b W)
 have HB2:=hide (tZ b)
 have hbx:Below w.heap.size w (w.alloc (.cells b.cells 229)):=(Below.refl _ _).alloc (Nat.le_refl _) _
 have HX:=hide (World.alloc_heap_new w (.cells b.cells 229))
 have hne:(((bH l).2:Int) !=0)=true:=by rw [bne_iff_ne];omega
 generalize bH l=q at*
 obtain ⟨x,er⟩:=q
 simp only at hne hrow
 clear hrow
 go_enter Tryz.func164,Tryz.ntmps164
 go_wp2_with (first
  |(go_at_call 123;refine (rO.out _ hbx).mono ?_;rintro r w1 ⟨rfl,hb1⟩))
 go_ret2
 exact ⟨⟨.slice none 0 0,rfl,World.ownsRow_nil _ _ _ _⟩,hbx.trans (hb1.mono (by simp))⟩
set_option maxRecDepth 100000 in
set_option maxHeartbeats 1000000 in
theorem qov (b:Bs) (A:Option Addr) (n c:Nat) (l:List Ev) (hok:∀e∈l,e.Ok) (B:Nat) (w:World) (hL:Laid B w) (hB:B≤w.heap.size) (hr:Rd w w.heap.size 11 A n (l.flatMap cZ)) (hn:n≤1000000000000)
  (hrow:(bH l).2=0) (hrt:b.right=false):
  Calls Tryz.prog 164 #[.agg b.cells,.slice A n c] w (cO w 70 []):=by
 have hlen:l.length=n:=by have:=hr.len;rw [qK cZ 11 nu] at this;omega
 have rO:=hide (fun W (h:Below w.heap.size w W)=>Ex A n c l hok B W (hL.below h hB) (by have:=h.size;omega) ((hr.below h).more h.size) (by omega))
 have HR:=hide (fun W=>wZ b W)
 have HB2:=hide (tZ b)
 have hbx:Below w.heap.size w (w.alloc (.cells b.cells 229)):=(Below.refl _ _).alloc (Nat.le_refl _) _
 have HX:=hide (World.alloc_heap_new w (.cells b.cells 229))
 have hq:bH l=((bH l).1,0):=by rw [←hrow]
 generalize (bH l).1=x at hq
 rw [hq] at rO
 clear hq hrow
 rw [hrt] at HR
 clear hrt hlen
 go_enter Tryz.func164,Tryz.ntmps164
 go_wp2_with (first
  |(go_at_call 123;refine (rO.out _ hbx).mono ?_;rintro r w1 ⟨rfl,hb1⟩))
 have hb2:=hbx.trans (hb1.mono (by simp))
 have hz2:=hb2.size
 have hz1:w.heap.size+1≤w1.heap.size:=by have:=hb1.size;simpa using this
 have o5:=hide ((hb1.block w.heap.size (by simp)).trans HX.out)
 have d0:w1.cell? ⟨w.heap.size,0,none⟩=some (.int .i64 b.seq):=by simp [World.cell?,o5.out,Bs.cells]
 have d1:w1.cell? ⟨w.heap.size,1,none⟩=some (.int .i64 b.time):=by simp [World.cell?,o5.out,Bs.cells]
 have mU:=hide (show ∀w':World,Below w1.heap.size w1 w'→(w'.cell? ⟨w.heap.size,0,none⟩=some (.int .i64 b.seq)∧w'.cell? ⟨w.heap.size,1,none⟩=some (.int .i64 b.time)∧Below w1.heap.size w1 w') from fun w' h=>
  ⟨(h.cell (by show w.heap.size<_;omega)).trans d0,(h.cell (by show w.heap.size<_;omega)).trans d1,h⟩)
 have hr0:Below w1.heap.size w1 w1:=Below.refl _ _
 refine wp_region_noPanic ?_
 refine wp_region_held_drew (S:=fun w'=>w'.cell? ⟨w.heap.size,0,none⟩=some (.int .i64 b.seq)∧w'.cell? ⟨w.heap.size,1,none⟩=some (.int .i64 b.time)∧Below w1.heap.size w1 w') (by kernel_rfl) (mU.out _ hr0.drew) (fun hH=>?_)
 refine wpAnyH_take (i:=0) (v:= .agg #[.int .i64 b.seq,.int .i64 b.time]) rfl (by kernel_rfl) (by kernel_rfl) (by kernel_rfl) (fun _ _ _ h=>h) (Or.inl ⟨by rfl,fun W hW=>by (obtain ⟨hW1,hW2,_⟩:=hW;simp only [List.getElem_toArray,List.getElem_cons_zero];go_simp)⟩) hH ?_
 simp only [List.getElem_toArray,List.getElem_cons_zero,Act.put,List.setIfInBounds_toArray,List.set_cons_zero,List.set_cons_succ]
 refine wpAnyH_ready (rs:=[1]) (by kernel_rfl) (by simp) ?_
 refine AllReadyH.cons rfl (fun K hK=>?_) AllReadyH.nil
 simp only [List.getElem_toArray,List.getElem_cons_zero,List.getElem_cons_succ]
 go_wp2_with (go_at_call 203;refine (HR.out _).mono ?_;rintro r w3 ⟨rfl,hb3⟩;have qM:=hr0.drew.trans hb3)
 refine hK.out _ _ (mU.out _ qM) (fun hH1=>?_)
 clear hK K
 refine wpAnyH_take (i:=2) (v:= .bool true) rfl (by kernel_rfl) (by kernel_rfl) (by kernel_rfl) (fun _ _ _ h=>h) (Or.inl ⟨by rfl,fun W hW=>by (simp only [List.getElem_toArray,List.getElem_cons_zero,List.getElem_cons_succ];go_simp)⟩) hH1 ?_
 simp only [List.getElem_toArray,List.getElem_cons_zero,List.getElem_cons_succ,Act.put,List.setIfInBounds_toArray,List.set_cons_zero,List.set_cons_succ]
 refine wpAnyH_take (i:=3) (v:= .bool true) rfl (by kernel_rfl) (by kernel_rfl) (by kernel_rfl) (fun _ _ _ h=>h) (Or.inl ⟨by rfl,fun W hW=>by (simp only [List.getElem_toArray,List.getElem_cons_zero,List.getElem_cons_succ];go_simp)⟩) hH1 ?_
 simp only [List.getElem_toArray,List.getElem_cons_zero,List.getElem_cons_succ,Act.put,List.setIfInBounds_toArray,List.set_cons_zero,List.set_cons_succ]
 refine wpAnyH_take (i:=4) rfl (by kernel_rfl) (by kernel_rfl) (by kernel_rfl) (fun _ _ _ h=>h) (Or.inr ⟨by rfl,rfl⟩) hH1 ?_
 simp only [List.getElem_toArray,List.getElem_cons_zero,List.getElem_cons_succ,Act.put,List.setIfInBounds_toArray,List.set_cons_zero,List.set_cons_succ]
 refine wpAnyH_take (i:=5) rfl (by kernel_rfl) (by kernel_rfl) (by kernel_rfl) (fun _ _ _ h=>h) (Or.inr ⟨by rfl,rfl⟩) hH1 ?_
 simp only [List.getElem_toArray,List.getElem_cons_zero,List.getElem_cons_succ,Act.put,List.setIfInBounds_toArray,List.set_cons_zero,List.set_cons_succ]
 refine wpAnyH_take (i:=6) rfl (by kernel_rfl) (by kernel_rfl) (by kernel_rfl) (fun _ _ _ h=>h) (Or.inr ⟨by rfl,rfl⟩) hH1 ?_
 simp only [List.getElem_toArray,List.getElem_cons_zero,List.getElem_cons_succ,Act.put,List.setIfInBounds_toArray,List.set_cons_zero,List.set_cons_succ]
 refine wpAnyH_take (i:=7) rfl (by kernel_rfl) (by kernel_rfl) (by kernel_rfl) (fun _ _ _ h=>h) (Or.inr ⟨by rfl,rfl⟩) hH1 ?_
 simp only [List.getElem_toArray,List.getElem_cons_zero,List.getElem_cons_succ,Act.put,List.setIfInBounds_toArray,List.set_cons_zero,List.set_cons_succ]
 refine wpAnyH_take (i:=8) rfl (by kernel_rfl) (by kernel_rfl) (by kernel_rfl) (fun _ _ _ h=>h) (Or.inr ⟨by rfl,rfl⟩) hH1 ?_
 simp only [List.getElem_toArray,List.getElem_cons_zero,List.getElem_cons_succ,Act.put,List.setIfInBounds_toArray,List.set_cons_zero,List.set_cons_succ]
 refine wpAnyH_take (i:=9) rfl (by kernel_rfl) (by kernel_rfl) (by kernel_rfl) (fun _ _ _ h=>h) (Or.inr ⟨by rfl,rfl⟩) hH1 ?_
 simp only [List.getElem_toArray,List.getElem_cons_zero,List.getElem_cons_succ,Act.put,List.setIfInBounds_toArray,List.set_cons_zero,List.set_cons_succ]
 refine wpAnyH_take (i:=10) rfl (by kernel_rfl) (by kernel_rfl) (by kernel_rfl) (fun _ _ _ h=>h) (Or.inr ⟨by rfl,rfl⟩) hH1 ?_
 simp only [List.getElem_toArray,List.getElem_cons_zero,List.getElem_cons_succ,Act.put,List.setIfInBounds_toArray,List.set_cons_zero,List.set_cons_succ]
 refine wpAnyH_take (i:=11) rfl (by kernel_rfl) (by kernel_rfl) (by kernel_rfl) (fun _ _ _ h=>h) (Or.inr ⟨by rfl,rfl⟩) hH1 ?_
 simp only [List.getElem_toArray,List.getElem_cons_zero,List.getElem_cons_succ,Act.put,List.setIfInBounds_toArray,List.set_cons_zero,List.set_cons_succ]
 refine wpAnyH_take (i:=12) rfl (by kernel_rfl) (by kernel_rfl) (by kernel_rfl) (fun _ _ _ h=>h) (Or.inr ⟨by rfl,rfl⟩) hH1 ?_
 simp only [List.getElem_toArray,List.getElem_cons_zero,List.getElem_cons_succ,Act.put,List.setIfInBounds_toArray,List.set_cons_zero,List.set_cons_succ]
 refine wpAnyH_take (i:=13) rfl (by kernel_rfl) (by kernel_rfl) (by kernel_rfl) (fun _ _ _ h=>h) (Or.inr ⟨by rfl,rfl⟩) hH1 ?_
 simp only [List.getElem_toArray,List.getElem_cons_zero,List.getElem_cons_succ,Act.put,List.setIfInBounds_toArray,List.set_cons_zero,List.set_cons_succ]
 refine wpAnyH_take (i:=14) rfl (by kernel_rfl) (by kernel_rfl) (by kernel_rfl) (fun _ _ _ h=>h) (Or.inr ⟨by rfl,rfl⟩) hH1 ?_
 simp only [List.getElem_toArray,List.getElem_cons_zero,List.getElem_cons_succ,Act.put,List.setIfInBounds_toArray,List.set_cons_zero,List.set_cons_succ]
 refine wpAnyH_take (i:=15) (v:= .bool true) rfl (by kernel_rfl) (by kernel_rfl) (by kernel_rfl) (fun _ _ _ h=>h) (Or.inl ⟨by rfl,fun W hW=>by (simp only [List.getElem_toArray,List.getElem_cons_zero,List.getElem_cons_succ];go_simp)⟩) hH1 ?_
 simp only [List.getElem_toArray,List.getElem_cons_zero,List.getElem_cons_succ,Act.put,List.setIfInBounds_toArray,List.set_cons_zero,List.set_cons_succ]
 refine wpAnyH_done (by kernel_rfl) (NoPanic.normal ?_) _
 go_wp2
 go_ret2
 exact ⟨⟨.slice none 0 0,rfl,World.ownsRow_nil _ _ _ _⟩,hb2.trans (qM.mono (by omega))⟩
set_option maxRecDepth 100000 in
set_option maxHeartbeats 1000000 in
theorem qus (b:Bs) (A:Option Addr) (n c:Nat) (l:List Ev) (hok:∀e∈l,e.Ok) (B:Nat) (w:World) (hL:Laid B w) (hB:B≤w.heap.size) (hr:Rd w w.heap.size 11 A n (l.flatMap cZ)) (hn:n≤1000000000000)
  (hrow:(bH l).2=0) (hrt:b.right=true) (hn0:n=0):
  Calls Tryz.prog 164 #[.agg b.cells,.slice A n c] w (cO w 0 []):=by
 have hlen:l.length=n:=by have:=hr.len;rw [qK cZ 11 nu] at this;omega
 have rO:=hide (fun W (h:Below w.heap.size w W)=>Ex A n c l hok B W (hL.below h hB) (by have:=h.size;omega) ((hr.below h).more h.size) (by omega))
 have HR:=hide (fun W=>wZ b W)
 have HB2:=hide (tZ b)
 have hbx:Below w.heap.size w (w.alloc (.cells b.cells 229)):=(Below.refl _ _).alloc (Nat.le_refl _) _
 have HX:=hide (World.alloc_heap_new w (.cells b.cells 229))
 have hq:bH l=((bH l).1,0):=by rw [←hrow]
 generalize (bH l).1=x at hq
 rw [hq] at rO
 clear hq hrow
 rw [hrt] at HR
 subst hn0
 clear hrt hlen
 go_enter Tryz.func164,Tryz.ntmps164
 go_wp2_with (first
  |(go_at_call 123;refine (rO.out _ hbx).mono ?_;rintro r w1 ⟨rfl,hb1⟩))
 have hb2:=hbx.trans (hb1.mono (by simp))
 have hz2:=hb2.size
 have hz1:w.heap.size+1≤w1.heap.size:=by have:=hb1.size;simpa using this
 have o5:=hide ((hb1.block w.heap.size (by simp)).trans HX.out)
 have d0:w1.cell? ⟨w.heap.size,0,none⟩=some (.int .i64 b.seq):=by simp [World.cell?,o5.out,Bs.cells]
 have d1:w1.cell? ⟨w.heap.size,1,none⟩=some (.int .i64 b.time):=by simp [World.cell?,o5.out,Bs.cells]
 have mU:=hide (show ∀w':World,Below w1.heap.size w1 w'→(w'.cell? ⟨w.heap.size,0,none⟩=some (.int .i64 b.seq)∧w'.cell? ⟨w.heap.size,1,none⟩=some (.int .i64 b.time)∧Below w1.heap.size w1 w') from fun w' h=>
  ⟨(h.cell (by show w.heap.size<_;omega)).trans d0,(h.cell (by show w.heap.size<_;omega)).trans d1,h⟩)
 have hr0:Below w1.heap.size w1 w1:=Below.refl _ _
 refine wp_region_noPanic ?_
 refine wp_region_held_drew (S:=fun w'=>w'.cell? ⟨w.heap.size,0,none⟩=some (.int .i64 b.seq)∧w'.cell? ⟨w.heap.size,1,none⟩=some (.int .i64 b.time)∧Below w1.heap.size w1 w') (by kernel_rfl) (mU.out _ hr0.drew) (fun hH=>?_)
 refine wpAnyH_take (i:=0) (v:= .agg #[.int .i64 b.seq,.int .i64 b.time]) rfl (by kernel_rfl) (by kernel_rfl) (by kernel_rfl) (fun _ _ _ h=>h) (Or.inl ⟨by rfl,fun W hW=>by (obtain ⟨hW1,hW2,_⟩:=hW;simp only [List.getElem_toArray,List.getElem_cons_zero];go_simp)⟩) hH ?_
 simp only [List.getElem_toArray,List.getElem_cons_zero,Act.put,List.setIfInBounds_toArray,List.set_cons_zero,List.set_cons_succ]
 refine wpAnyH_ready (rs:=[1]) (by kernel_rfl) (by simp) ?_
 refine AllReadyH.cons rfl (fun K hK=>?_) AllReadyH.nil
 simp only [List.getElem_toArray,List.getElem_cons_zero,List.getElem_cons_succ]
 go_wp2_with (go_at_call 203;refine (HR.out _).mono ?_;rintro r w3 ⟨rfl,hb3⟩;have qM:=hr0.drew.trans hb3)
 refine hK.out _ _ (mU.out _ qM) (fun hH1=>?_)
 clear hK K
 refine wpAnyH_take (i:=2) (v:= .bool false) rfl (by kernel_rfl) (by kernel_rfl) (by kernel_rfl) (fun _ _ _ h=>h) (Or.inl ⟨by rfl,fun W hW=>by (simp only [List.getElem_toArray,List.getElem_cons_zero,List.getElem_cons_succ];go_simp)⟩) hH1 ?_
 simp only [List.getElem_toArray,List.getElem_cons_zero,List.getElem_cons_succ,Act.put,List.setIfInBounds_toArray,List.set_cons_zero,List.set_cons_succ]
 refine wpAnyH_take (i:=3) (v:= .bool false) rfl (by kernel_rfl) (by kernel_rfl) (by kernel_rfl) (fun _ _ _ h=>h) (Or.inl ⟨by rfl,fun W hW=>by (simp only [List.getElem_toArray,List.getElem_cons_zero,List.getElem_cons_succ];go_simp)⟩) hH1 ?_
 simp only [List.getElem_toArray,List.getElem_cons_zero,List.getElem_cons_succ,Act.put,List.setIfInBounds_toArray,List.set_cons_zero,List.set_cons_succ]
 refine wpAnyH_take (i:=4) (v:= .slice A 0 c) rfl (by kernel_rfl) (by kernel_rfl) (by kernel_rfl) (fun _ _ _ h=>h) (Or.inl ⟨by rfl,fun W hW=>by (simp only [List.getElem_toArray,List.getElem_cons_zero,List.getElem_cons_succ];go_simp)⟩) hH1 ?_
 simp only [List.getElem_toArray,List.getElem_cons_zero,List.getElem_cons_succ,Act.put,List.setIfInBounds_toArray,List.set_cons_zero,List.set_cons_succ]
 refine wpAnyH_take (i:=5) (v:= .int .i64 0) rfl (by kernel_rfl) (by kernel_rfl) (by kernel_rfl) (fun _ _ _ h=>h) (Or.inl ⟨by rfl,fun W hW=>by (simp only [List.getElem_toArray,List.getElem_cons_zero,List.getElem_cons_succ];go_simp)⟩) hH1 ?_
 simp only [List.getElem_toArray,List.getElem_cons_zero,List.getElem_cons_succ,Act.put,List.setIfInBounds_toArray,List.set_cons_zero,List.set_cons_succ]
 refine wpAnyH_take (i:=6) (v:= .bool false) rfl (by kernel_rfl) (by kernel_rfl) (by kernel_rfl) (fun _ _ _ h=>h) (Or.inl ⟨by rfl,fun W hW=>by (simp only [List.getElem_toArray,List.getElem_cons_zero,List.getElem_cons_succ];go_simp)⟩) hH1 ?_
 simp only [List.getElem_toArray,List.getElem_cons_zero,List.getElem_cons_succ,Act.put,List.setIfInBounds_toArray,List.set_cons_zero,List.set_cons_succ]
 refine wpAnyH_take (i:=7) (v:= .bool false) rfl (by kernel_rfl) (by kernel_rfl) (by kernel_rfl) (fun _ _ _ h=>h) (Or.inl ⟨by rfl,fun W hW=>by (simp only [List.getElem_toArray,List.getElem_cons_zero,List.getElem_cons_succ];go_simp)⟩) hH1 ?_
 simp only [List.getElem_toArray,List.getElem_cons_zero,List.getElem_cons_succ,Act.put,List.setIfInBounds_toArray,List.set_cons_zero,List.set_cons_succ]
 refine wpAnyH_take (i:=8) rfl (by kernel_rfl) (by kernel_rfl) (by kernel_rfl) (fun _ _ _ h=>h) (Or.inr ⟨by rfl,rfl⟩) hH1 ?_
 simp only [List.getElem_toArray,List.getElem_cons_zero,List.getElem_cons_succ,Act.put,List.setIfInBounds_toArray,List.set_cons_zero,List.set_cons_succ]
 refine wpAnyH_take (i:=9) rfl (by kernel_rfl) (by kernel_rfl) (by kernel_rfl) (fun _ _ _ h=>h) (Or.inr ⟨by rfl,rfl⟩) hH1 ?_
 simp only [List.getElem_toArray,List.getElem_cons_zero,List.getElem_cons_succ,Act.put,List.setIfInBounds_toArray,List.set_cons_zero,List.set_cons_succ]
 refine wpAnyH_take (i:=10) rfl (by kernel_rfl) (by kernel_rfl) (by kernel_rfl) (fun _ _ _ h=>h) (Or.inr ⟨by rfl,rfl⟩) hH1 ?_
 simp only [List.getElem_toArray,List.getElem_cons_zero,List.getElem_cons_succ,Act.put,List.setIfInBounds_toArray,List.set_cons_zero,List.set_cons_succ]
 refine wpAnyH_take (i:=11) rfl (by kernel_rfl) (by kernel_rfl) (by kernel_rfl) (fun _ _ _ h=>h) (Or.inr ⟨by rfl,rfl⟩) hH1 ?_
 simp only [List.getElem_toArray,List.getElem_cons_zero,List.getElem_cons_succ,Act.put,List.setIfInBounds_toArray,List.set_cons_zero,List.set_cons_succ]
 refine wpAnyH_take (i:=12) rfl (by kernel_rfl) (by kernel_rfl) (by kernel_rfl) (fun _ _ _ h=>h) (Or.inr ⟨by rfl,rfl⟩) hH1 ?_
 simp only [List.getElem_toArray,List.getElem_cons_zero,List.getElem_cons_succ,Act.put,List.setIfInBounds_toArray,List.set_cons_zero,List.set_cons_succ]
 refine wpAnyH_take (i:=13) rfl (by kernel_rfl) (by kernel_rfl) (by kernel_rfl) (fun _ _ _ h=>h) (Or.inr ⟨by rfl,rfl⟩) hH1 ?_
 simp only [List.getElem_toArray,List.getElem_cons_zero,List.getElem_cons_succ,Act.put,List.setIfInBounds_toArray,List.set_cons_zero,List.set_cons_succ]
 refine wpAnyH_take (i:=14) (v:= .bool false) rfl (by kernel_rfl) (by kernel_rfl) (by kernel_rfl) (fun _ _ _ h=>h) (Or.inl ⟨by rfl,fun W hW=>by (simp only [List.getElem_toArray,List.getElem_cons_zero,List.getElem_cons_succ];go_simp)⟩) hH1 ?_
 simp only [List.getElem_toArray,List.getElem_cons_zero,List.getElem_cons_succ,Act.put,List.setIfInBounds_toArray,List.set_cons_zero,List.set_cons_succ]
 refine wpAnyH_take (i:=15) (v:= .bool false) rfl (by kernel_rfl) (by kernel_rfl) (by kernel_rfl) (fun _ _ _ h=>h) (Or.inl ⟨by rfl,fun W hW=>by (simp only [List.getElem_toArray,List.getElem_cons_zero,List.getElem_cons_succ];go_simp)⟩) hH1 ?_
 simp only [List.getElem_toArray,List.getElem_cons_zero,List.getElem_cons_succ,Act.put,List.setIfInBounds_toArray,List.set_cons_zero,List.set_cons_succ]
 refine wpAnyH_done (by kernel_rfl) (NoPanic.normal ?_) _
 go_wp2
 go_loopw [8,39] (fun v i wr=>v= .slice none 0 0∧i= .int .i64 0∧Below w.heap.size w wr) (fun _ _ _=>0)
 case atStart=>exact ⟨rfl,rfl,hb2.trans (qM.mono (by omega))⟩
 case round=>
  obtain ⟨rfl,rfl,hbr⟩:=hrel
  go_wp2
  go_ret2
  exact ⟨⟨.slice none 0 0,rfl,World.ownsRow_nil _ _ _ _⟩,hbr⟩
set_option maxRecDepth 100000 in
set_option maxHeartbeats 1000000 in
theorem qm2 (b:Bs) (A:Option Addr) (n c:Nat) (l:List Ev) (hok:∀e∈l,e.Ok) (B:Nat) (w:World) (hL:Laid B w) (hB:B≤w.heap.size) (hr:Rd w w.heap.size 11 A n (l.flatMap cZ)) (hn:n≤1000000000000)
  (hrow:(bH l).2=0) (hrt:b.right=true) (hn0:0<n) (o6:l.head?.all b.behind=false):
  Calls Tryz.prog 164 #[.agg b.cells,.slice A n c] w (cO w 70 []):=by
 have hlen:l.length=n:=by have:=hr.len;rw [qK cZ 11 nu] at this;omega
 have rO:=hide (fun W (h:Below w.heap.size w W)=>Ex A n c l hok B W (hL.below h hB) (by have:=h.size;omega) ((hr.below h).more h.size) (by omega))
 have HR:=hide (fun W=>wZ b W)
 have HB2:=hide (tZ b)
 have hbx:Below w.heap.size w (w.alloc (.cells b.cells 229)):=(Below.refl _ _).alloc (Nat.le_refl _) _
 have HX:=hide (World.alloc_heap_new w (.cells b.cells 229))
 have hq:bH l=((bH l).1,0):=by rw [←hrow]
 generalize (bH l).1=x at hq
 rw [hq] at rO
 clear hq hrow
 rw [hrt] at HR
 obtain ⟨g,o,rfl,hgb,_,hcells⟩:=hr.struct nu (by omega) hn0
 obtain ⟨e0,r0,rfl⟩:∃e0 r0,l=e0::r0:=by
  cases l with
  |nil=>simp at hlen;omega
  |cons y r=>exact ⟨y,r,rfl⟩
 have ul:b.behind e0=false:=by simpa using o6
 have HH:=hide (fun W=>OM b e0 W)
 rw [ul] at HH
 have hc0:=hcells 0 (by simp)
 rw [Nat.zero_mul,Nat.add_zero] at hc0
 have hc0':=hide (show w.rangeAt g o e0.cells.toList from hc0)
 have hni:(0:Int)<(n:Int):=by omega
 clear hrt hlen hc0 hcells o6 ul
 go_enter Tryz.func164,Tryz.ntmps164
 go_wp2_with (first
  |(go_at_call 123;refine (rO.out _ hbx).mono ?_;rintro r w1 ⟨rfl,hb1⟩))
 have hb2:=hbx.trans (hb1.mono (by simp))
 have hz2:=hb2.size
 have hz1:w.heap.size+1≤w1.heap.size:=by have:=hb1.size;simpa using this
 have o5:=hide ((hb1.block w.heap.size (by simp)).trans HX.out)
 have d0:w1.cell? ⟨w.heap.size,0,none⟩=some (.int .i64 b.seq):=by simp [World.cell?,o5.out,Bs.cells]
 have d1:w1.cell? ⟨w.heap.size,1,none⟩=some (.int .i64 b.time):=by simp [World.cell?,o5.out,Bs.cells]
 obtain ⟨m0,m1,m2,m3,m4,m5,m6,m7,m8,m9,m10⟩:=Vv (qk hc0'.out hb2 hgb)
 have mU:=hide (show ∀w':World,Below w1.heap.size w1 w'→(w'.cell? ⟨w.heap.size,0,none⟩=some (.int .i64 b.seq)∧w'.cell? ⟨w.heap.size,1,none⟩=some (.int .i64 b.time)∧w'.cell? ⟨g,o,none⟩=some (.int .i64 e0.seq)∧w'.cell? ⟨g,o+1,none⟩=some (.int .i64 e0.time)∧w'.cell? ⟨g,o+2,none⟩=some (.int .u8 (e0.cpu:Int))∧w'.cell? ⟨g,o+3,none⟩=some (.int .u8 (e0.kind:Int))∧w'.cell? ⟨g,o+4,none⟩=some (.int .i64 e0.bD)∧w'.cell? ⟨g,o+5,none⟩=some (.int .i64 e0.group)∧w'.cell? ⟨g,o+6,none⟩=some (.int .i64 e0.to)∧w'.cell? ⟨g,o+7,none⟩=some (.int .i64 e0.weight)∧w'.cell? ⟨g,o+8,none⟩=some (.int .i64 e0.aL)∧w'.cell? ⟨g,o+9,none⟩=some (.int .u64 (e0.mask:Int))∧w'.cell? ⟨g,o+10,none⟩=some (.int .i64 e0.got)∧Below w1.heap.size w1 w') from fun w' h=>
  ⟨(h.cell (by show w.heap.size<_;omega)).trans d0,(h.cell (by show w.heap.size<_;omega)).trans d1,(h.cell (by show g<_;omega)).trans m0,(h.cell (by show g<_;omega)).trans m1,(h.cell (by show g<_;omega)).trans m2,(h.cell (by show g<_;omega)).trans m3,(h.cell (by show g<_;omega)).trans m4,(h.cell (by show g<_;omega)).trans m5,(h.cell (by show g<_;omega)).trans m6,(h.cell (by show g<_;omega)).trans m7,(h.cell (by show g<_;omega)).trans m8,(h.cell (by show g<_;omega)).trans m9,(h.cell (by show g<_;omega)).trans m10,h⟩)
 have hr0:Below w1.heap.size w1 w1:=Below.refl _ _
 go_region_held3 (fun w'=>w'.cell? ⟨w.heap.size,0,none⟩=some (.int .i64 b.seq)∧w'.cell? ⟨w.heap.size,1,none⟩=some (.int .i64 b.time)∧w'.cell? ⟨g,o,none⟩=some (.int .i64 e0.seq)∧w'.cell? ⟨g,o+1,none⟩=some (.int .i64 e0.time)∧w'.cell? ⟨g,o+2,none⟩=some (.int .u8 (e0.cpu:Int))∧w'.cell? ⟨g,o+3,none⟩=some (.int .u8 (e0.kind:Int))∧w'.cell? ⟨g,o+4,none⟩=some (.int .i64 e0.bD)∧w'.cell? ⟨g,o+5,none⟩=some (.int .i64 e0.group)∧w'.cell? ⟨g,o+6,none⟩=some (.int .i64 e0.to)∧w'.cell? ⟨g,o+7,none⟩=some (.int .i64 e0.weight)∧w'.cell? ⟨g,o+8,none⟩=some (.int .i64 e0.aL)∧w'.cell? ⟨g,o+9,none⟩=some (.int .u64 (e0.mask:Int))∧w'.cell? ⟨g,o+10,none⟩=some (.int .i64 e0.got)∧Below w1.heap.size w1 w')
  ((refine mU.out _ ?_; first
   |with_reducible exact hr0.drew
   |with_reducible exact Ca
   |with_reducible exact qM))
  (first
   |(go_at_call 203;refine (HR.out _).mono ?_;rintro r w3 ⟨rfl,hb3⟩;have qM:=hr0.drew.trans hb3)
   |(go_at_call 204;refine (HH.out _).mono ?_;rintro r w4 ⟨rfl,hb4⟩;have Ca:=qM.trans (hb4.mono qM.size)))
 go_wp2
 go_ret2
 exact ⟨⟨.slice none 0 0,rfl,World.ownsRow_nil _ _ _ _⟩,hb2.trans (Ca.mono (by omega))⟩
theorem qut (b:Bs) (A:Option Addr) (n c:Nat) (l:List Ev) (hok:∀e∈l,e.Ok) (B:Nat) (w:World) (hL:Laid B w) (hB:B≤w.heap.size) (hr:Rd w w.heap.size 11 A n (l.flatMap cZ)) (hn:n≤1000000000000):
  Calls Tryz.prog 164 #[.agg b.cells,.slice A n c] w (cO w (za b l) (zf b l)):=by
 have hlen:l.length=n:=by have:=hr.len;rw [qK cZ 11 nu] at this;omega
 by_cases hrow:(bH l).2=0
 ·cases hrt:b.right with
  |false=>
   have e1:za b l=70:=by unfold za;rw [if_neg (by simp [hrow]),if_neg (by simp [hrt])]
   have e2:zf b l=[]:=by unfold zf;rw [e1];rfl
   rw [e1,e2]
   exact qov b A n c l hok B w hL hB hr hn hrow hrt
  | true =>
   cases o6:l.head?.all b.behind with
   | true =>
    have e1:za b l=0:=by unfold za;rw [if_neg (by simp [hrow]),if_pos ⟨hrt,o6⟩]
    have e2:zf b l=recs b l:=by unfold zf;rw [e1];rfl
    rw [e1,e2]
    by_cases hn0:n=0
    ·have hl0:l=[]:=List.eq_nil_of_length_eq_zero (by omega)
     have h:=qus b A n c l hok B w hL hB hr hn hrow hrt hn0
     rw [hl0]
     exact h
    ·exact qsp b A n c l hok B w hL hB hr hn hrow hrt (by omega) o6
   |false=>
    have e1:za b l=70:=by unfold za;rw [if_neg (by simp [hrow]),if_neg (by simp [o6])]
    have e2:zf b l=[]:=by unfold zf;rw [e1];rfl
    rw [e1,e2]
    refine qm2 b A n c l hok B w hL hB hr hn hrow hrt ?_ o6
    cases l with
    |nil=>simp at o6
    |cons y r=>simp at hlen;omega
 ·have e1:za b l=(bH l).2:=by unfold za;rw [if_pos hrow]
  have e2:zf b l=[]:=by unfold zf;rw [e1,if_neg hrow]
  rw [e1,e2]
  exact qur b A n c l hok B w hL hB hr hn hrow
end Go.Proofs.YtieeckeaijdaeaaGreatDoor
