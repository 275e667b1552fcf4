/- A part of the proof. -/
import Derived.Test.YtieeckeaijdaeaaGreatDoorQaCodR
namespace Go.Proofs.YtieeckeaijdaeaaGreatDoor
open Go.RowKit Go.Shelf
attribute [local go_sem] Oper.semAt_some
theorem qow (b:Bs) (cpu:Nat) (A:Option Addr) (n c:Nat) (w:World):
  Calls Tryz.prog 210 #[.agg b.cells,.int .u8 (cpu:Int),.slice A n c] w fun r w'=>r= .returned (.func (.func 237) #[] #[.pointer (some ⟨w.heap.size,0,none⟩),.pointer (some ⟨w.heap.size+1,0,none⟩),.pointer (some ⟨w.heap.size+1+1,0,none⟩)])∧
   w'=((w.alloc (.cells b.cells 229)).alloc (.cells #[.int .u8 (cpu:Int)] 5)).alloc (.cells #[.slice A n c] 35):=by
 generalize b.cells=ds
 go_enter Tryz.func210,Tryz.ntmps210
 go_wp2
 go_ret
 exact ⟨rfl,rfl⟩
theorem Gu {P:Program} {fn:Func} {t u v:Tmp} {t1 t2 t3:TypeId} {tmps:Array Value} {w:World} {b1 b2 b3:Nat} {x1 x2 x3:Value} (h:fn.results= #[.cell t t1,.cell u t2,.cell v t3])
  (h1:tmps.getD t undef= .pointer (some ⟨b1,0,none⟩)) (h2:tmps.getD u undef= .pointer (some ⟨b2,0,none⟩)) (h3:tmps.getD v undef= .pointer (some ⟨b3,0,none⟩))
  (a1:(isAgg t1).run P w= .ok false w) (a2:(isAgg t2).run P w= .ok false w) (a3:(isAgg t3).run P w= .ok false w)
  (c1:w.cell? ⟨b1,0,none⟩=some x1) (c2:w.cell? ⟨b2,0,none⟩=some x2) (c3:w.cell? ⟨b3,0,none⟩=some x3):(results fn tmps).run P w= .ok (.tuple #[x1,x2,x3]) w:=by
 simp at h1 h2 h3
 simp [results,h,h1,h2,h3,a1,a2,a3,go_sem,c1,c2,c3]
structure jW (w:World) (q:List Ev×Nat×Nat) (r:Ending) (w':World):Prop where
 ret:∃v,r= .returned (.tuple #[v,.int .i64 (q.2.1:Int),.int .i64 (q.2.2:Int)])∧w'.ownsRow w.heap.size 32 11 v q.1.length (q.1.flatMap cZ)
 below:Below w.heap.size w w'
def tk (q:Ev×Nat×Nat):Array Value:= #[.int .i64 q.1.seq,.int .i64 q.1.time,.int .u8 (q.1.cpu:Int),.int .u8 (q.1.kind:Int),.int .i64 q.1.bD,.int .i64 q.1.group,.int .i64 q.1.to,.int .i64 q.1.weight,.int .i64 q.1.aL,.int .u64 (q.1.mask:Int),.int .i64 q.1.got,.int .i64 (q.2.1:Int)]
def Gv (ds:Array Value) (cpu m:Nat) (A:Option Addr) (n c s o:Nat) (b:Bs) (l:List Nat) (k:Nat) (a':Act) (W:World):Prop:=
 ∃x q,(oW (l.length+1) b cpu l)[k]?=some q∧W.heap[x]?=some (.cells (tk q) 339 (0,0))∧o+5≤x∧a'={tmps:= #[.agg ds,.int .u8 (cpu:Int),.int .i64 (m:Int),.slice A n c,.pointer (some ⟨s,0,none⟩),undef,.pointer (some ⟨s+1,0,none⟩),undef,.pointer (some ⟨s+1+1,0,none⟩),.pointer (some ⟨s+1+1+1,0,none⟩),.pointer (some ⟨s+1+1+1+1,0,none⟩),.pointer (some ⟨o,0,none⟩),.pointer (some ⟨o+1,0,none⟩),.pointer (some ⟨x,0,none⟩),.int .i64 (q.2.2:Int),.int .i64 (m:Int),.bool false,.agg ds,.bool true,.bool false,.int .i64 (m:Int),.bool false,.agg ds,.int .u8 (cpu:Int),.slice A n c,.func (.func 237) #[] #[.pointer (some ⟨o+1+1,0,none⟩),.pointer (some ⟨o+1+1+1,0,none⟩),.pointer (some ⟨o+1+1+1+1,0,none⟩)],.agg (tk q),.int .i64 (q.2.2:Int),undef,undef,undef,undef,undef,undef,undef,undef,undef,undef,undef,undef,undef,undef,undef,undef,undef,undef,undef,undef,undef,undef,undef,undef,undef,undef,undef,undef,undef,undef,undef,undef,undef,undef],defers:=[]}
set_option maxRecDepth 100000 in
set_option maxHeartbeats 2000000 in
theorem quu (b:Bs) (cpu:Nat) (eO:cpu<256) (A:Option Addr) (n c m:Nat) (l:List Nat) (B:Nat) (w:World) (hL:Laid B w) (hB:B≤w.heap.size) (hr:Rd w w.heap.size 1 A n (l.map B8)) (hc:n≤c) (hl:∀b∈l,b<256) (hn:n≤200000000000000)
  (hrt:b.right=true) (hm:0<m) (hm2:m≤9223372036854775807) (hlim:m≤1000000000000∨l.length≤1000000000000):
  Calls Tryz.prog 162 #[.agg b.cells,.int .u8 (cpu:Int),.int .i64 (m:Int),.slice A n c] w (jW w (qq cpu m b none l)):=by
 have hll:l.length≤200000000000000:=by have:=hr.len;simp at this;omega
 have HR:=hide (fun W=>wZ b W)
 rw [hrt] at HR
 have HB2:=hide (tZ b)
 have Ae:=hide (fun W=>qow b cpu A n c W)
 have LU:decide ((m:Int)<0)=false:=by rw [decide_eq_false_iff_not];omega
 have hm0:((m:Int)==0)=false:=by rw [beq_eq_false_iff_ne];omega
 obtain ⟨W0,hW0⟩:∃W0,W0=((((w.alloc (.cells b.cells 229)).alloc (.cells #[.int .i64 (m:Int)] 3)).alloc (.cells #[.slice none 0 0] 57)).alloc (.cells #[.int .i64 0] 3)).alloc (.cells #[.int .i64 0] 61):=⟨_,rfl⟩
 have hs0:W0.heap.size=w.heap.size+5:=by rw [hW0];simp
 have hb0:Below w.heap.size w W0:=by rw [hW0];exact (((((Below.refl _ _).alloc (Nat.le_refl _) _).alloc (by simp) _).alloc (by simp;omega) _).alloc (by simp;omega) _).alloc (by simp;omega) _
 have hx0:W0.heap[w.heap.size]?=some (.cells b.cells 229):=by
  rw [hW0,Below.heap_alloc _ _ _ (by simp<;>omega),Below.heap_alloc _ _ _ (by simp<;>omega),Below.heap_alloc _ _ _ (by simp<;>omega),Below.heap_alloc _ _ _ (by simp)];exact World.alloc_heap_new w _
 have hx1:W0.heap[w.heap.size+1]?=some (.cells #[.int .i64 (m:Int)] 3):=by
  rw [hW0,Below.heap_alloc _ _ _ (by simp<;>omega),Below.heap_alloc _ _ _ (by simp<;>omega),Below.heap_alloc _ _ _ (by simp)]
  have:=World.alloc_heap_new (w.alloc (.cells b.cells 229)) (.cells #[.int .i64 (m:Int)] 3);rwa [World.size_alloc] at this
 have hx2:W0.heap[w.heap.size+1+1]?=some (.cells #[.slice none 0 0] 57):=by
  rw [hW0,Below.heap_alloc _ _ _ (by simp<;>omega),Below.heap_alloc _ _ _ (by simp)]
  have:=World.alloc_heap_new ((w.alloc (.cells b.cells 229)).alloc (.cells #[.int .i64 (m:Int)] 3)) (.cells #[.slice none 0 0] 57);simpa only [World.size_alloc] using this
 have hx3:W0.heap[w.heap.size+1+1+1]?=some (.cells #[.int .i64 0] 3):=by
  rw [hW0,Below.heap_alloc _ _ _ (by simp)]
  have:=World.alloc_heap_new (((w.alloc (.cells b.cells 229)).alloc (.cells #[.int .i64 (m:Int)] 3)).alloc (.cells #[.slice none 0 0] 57)) (.cells #[.int .i64 0] 3);simpa only [World.size_alloc] using this
 have hx4:W0.heap[w.heap.size+1+1+1+1]?=some (.cells #[.int .i64 0] 61):=by
  rw [hW0]
  have:=World.alloc_heap_new ((((w.alloc (.cells b.cells 229)).alloc (.cells #[.int .i64 (m:Int)] 3)).alloc (.cells #[.slice none 0 0] 57)).alloc (.cells #[.int .i64 0] 3)) (.cells #[.int .i64 0] 61);simpa only [World.size_alloc] using this
 have HX0:=hide hx0
 have o5:=hide hx1
 have qL:=hide hx2
 have zX:=hide hx3
 have Pp:=hide hx4
 have HD0:=hide (qc hx0)
 have HLX:=hide hL
 have HRX:=hide hr
 have k1:W0.cell? ⟨w.heap.size+1,0,none⟩=some (.int .i64 (m:Int)):=by simp [World.cell?,hx1]
 have hsz0:w.heap.size+5≤W0.heap.size:=by omega
 clear hx0 hx1 hx2 hx3 hx4 hs0 hL hr hrt
 have PE:∃ds,Hid (b.cells=ds):=⟨_,hide rfl⟩
 obtain ⟨ds,OQ⟩:=PE
 rw [OQ.out] at HR HB2 Ae hW0 HX0 HD0⊢
 refine callsIn_wide.1 (callsIn_of_wp_marks (n:=0) Tryz.func162 rfl trivial ?_ rfl)
 simp only [Tryz.ntmps162,List.size_toArray,List.length_cons,List.length_nil,Nat.reduceAdd,Nat.reduceSub,Array.replicate_succ,Array.replicate_zero,List.push_toArray,List.append_toArray,List.nil_append,List.cons_append]
 gi_wp2_with (first
  |(rw [←hW0];clear hW0)
  |(with_reducible refine LC HD0.out rfl rfl rfl ed HB2.out ?_)
  |(refine ⟨trivial,rfl,?_⟩;refine (callsIn_wide.2 (HR.out _)).mono ?_;rintro r w2 ⟨rfl,hb2⟩;have hz2:=hb2.size;have k2:=(hb2.cell (p:=⟨w.heap.size+1,0,none⟩) (by show w.heap.size+1<_;omega)).trans k1;have HD2:=hide (fun o1 o2=>qk (((qk HD0.out hb2 (by omega)))) ((((Below.refl w2.heap.size w2).alloc (Nat.le_refl _) o1).alloc (by simp) o2)) (by omega)))
  |(with_reducible refine LC (HD2.out _ _) rfl rfl rfl ed HB2.out ?_)
  |(refine ⟨trivial,rfl,?_⟩;refine (callsIn_wide.2 (Ae.out _)).mono ?_;rintro r w3 ⟨rfl,rfl⟩))
 obtain ⟨W3,hW3⟩:∃W3,W3=((((w2.alloc (.cells #[.slice none 0 0] 57)).alloc (.cells #[.int .i64 0] 3)).alloc (.cells ds 229)).alloc (.cells #[.int .u8 (cpu:Int)] 5)).alloc (.cells #[.slice A n c] 35):=⟨_,rfl⟩
 rw [←hW3]
 have hs3:W3.heap.size=w2.heap.size+5:=by rw [hW3];simp
 have hb3:Below w2.heap.size w2 W3:=by rw [hW3];exact (((((Below.refl _ _).alloc (Nat.le_refl _) _).alloc (by simp) _).alloc (by simp;omega) _).alloc (by simp;omega) _).alloc (by simp;omega) _
 have hB3:Below w.heap.size w W3:=(hb0.trans (hb2.mono (by omega))).trans (hb3.mono (by omega))
 have old:∀(x:Nat) (y:Obj),x<W0.heap.size→W0.heap[x]?=some y→W3.heap[x]?=some y:=fun x y hx hy=>(hb3.block x (by omega)).trans ((hb2.block x hx).trans hy)
 have y0:W3.heap[w2.heap.size]?=some (.cells #[.slice none 0 0] 57):=by
  rw [hW3,Below.heap_alloc _ _ _ (by simp<;>omega),Below.heap_alloc _ _ _ (by simp<;>omega),Below.heap_alloc _ _ _ (by simp<;>omega),Below.heap_alloc _ _ _ (by simp)];exact World.alloc_heap_new w2 _
 have y1:W3.heap[w2.heap.size+1]?=some (.cells #[.int .i64 0] 3):=by
  rw [hW3,Below.heap_alloc _ _ _ (by simp<;>omega),Below.heap_alloc _ _ _ (by simp<;>omega),Below.heap_alloc _ _ _ (by simp)]
  have:=World.alloc_heap_new (w2.alloc (.cells #[.slice none 0 0] 57)) (.cells #[.int .i64 0] 3);rwa [World.size_alloc] at this
 have y2:W3.heap[w2.heap.size+1+1]?=some (.cells ds 229):=by
  rw [hW3,Below.heap_alloc _ _ _ (by simp<;>omega),Below.heap_alloc _ _ _ (by simp)]
  have:=World.alloc_heap_new ((w2.alloc (.cells #[.slice none 0 0] 57)).alloc (.cells #[.int .i64 0] 3)) (.cells ds 229);simpa only [World.size_alloc] using this
 have y3:W3.heap[w2.heap.size+1+1+1]?=some (.cells #[.int .u8 (cpu:Int)] 5):=by
  rw [hW3,Below.heap_alloc _ _ _ (by simp)]
  have:=World.alloc_heap_new (((w2.alloc (.cells #[.slice none 0 0] 57)).alloc (.cells #[.int .i64 0] 3)).alloc (.cells ds 229)) (.cells #[.int .u8 (cpu:Int)] 5);simpa only [World.size_alloc] using this
 have y4:W3.heap[w2.heap.size+1+1+1+1]?=some (.cells #[.slice A n c] 35):=by
  rw [hW3]
  have:=World.alloc_heap_new ((((w2.alloc (.cells #[.slice none 0 0] 57)).alloc (.cells #[.int .i64 0] 3)).alloc (.cells ds 229)).alloc (.cells #[.int .u8 (cpu:Int)] 5)) (.cells #[.slice A n c] 35);simpa only [World.size_alloc] using this
 have hrc:jm B w.heap.size (w2.heap.size+1+1) (w2.heap.size+1+1+1) (w2.heap.size+1+1+1+1) cpu b l A n c W3:=⟨by rw [OQ.out];exact y2,y3,y4,HRX.out.below hB3,hc,hl,hn,HLX.out.below hB3 hB⟩
 have hra:bE w w2.heap.size m [] 0 W3 (.slice none 0 0):=⟨⟨y0,World.ownsRow_nil _ _ _ _,fun g hg=>by cases hg⟩,y1,old _ _ (by omega) o5.out,old _ _ (by omega) qL.out,old _ _ (by omega) zX.out,old _ _ (by omega) Pp.out,hB3,by omega,by omega⟩
 have yn:∀g∈[w2.heap.size+1+1,w2.heap.size+1+1+1+1],w2.heap.size+2≤g∧g<w2.heap.size+5:=by intro g hg;simp at hg;omega
 have hBW:=hB3.size
 clear hW3 old y0 y1 y2 y3 y4
 refine UL rfl (enters_of Tryz.func237 (by kernel_rfl) rfl) (qlj B w.heap.size (w2.heap.size+1+1) (w2.heap.size+1+1+1) (w2.heap.size+1+1+1+1) cpu eO b l A n c W3 (by omega) (by omega) (by omega) hB (by omega) (by omega) hrc) (by intro y hy;obtain ⟨p,_,rfl⟩:=List.mem_map.1 hy;rfl) (by intro g hg;have:=yn g hg;omega)
  (gU w w2.heap.size) (Gt w w2.heap.size m cpu b l) (LV w w2.heap.size m cpu b l) ?hJ ?hJx ?hJ0 ?hJx0 ?hTd ?hN ?h0 (Gv ds cpu m A n c w.heap.size w2.heap.size b l) ?hA ?hassign ?hbody ?hdone ?hstop
 case hJ=>
  rintro k W W' ⟨es,a,f,bk,lk,v,h1,h2,h3⟩ hk
  exact ⟨⟨es,a,f,bk,lk,v,h1,h2.keep hk (by omega) yn,h3⟩,h2.jR hk yn⟩
 case hJx=>
  rintro c k W W' hj hk
  unfold LV at hj⊢
  split at hj
  ·obtain ⟨es,a,v,h1,h2⟩:=hj
   exact ⟨es,a,v,h1.keep hk (by omega) yn,h2⟩
  ·obtain ⟨er,h1⟩:=hj
   exact ⟨er,h1.keep hk (by omega) (fun g hg=>by have:=yn g hg;omega)⟩
  ·exact hj.elim
 case hJ0=>rintro k W ⟨es,a,f,bk,lk,v,h1,h2,_⟩;have:=h2.size;omega
 case hJx0=>
  intro c k W hj
  unfold LV at hj
  split at hj
  ·obtain ⟨es,a,v,h1,h2⟩:=hj;have:=h1.size;omega
  ·obtain ⟨er,h1⟩:=hj;have:=h1.size;omega
  ·exact hj.elim
 case hTd=>rintro k W b' ⟨es,a,f,bk,lk,v,h1,h2,_⟩ ht;exact h2.lZ b' ht
 case hN=>
  rintro b' hb' ht
  rcases ht with ht|ht
  ·rcases (hra.out.jS _).1 ht with h|h
   ·rcases hb' with h1|h1|h1|h1<;>omega
   ·cases h
  ·rcases hb' with h1|h1|h1|h1<;>omega
 case h0=>exact ⟨[],0,l.length,b,l,_,rfl,hra,rfl,by omega,by omega,hm,by omega,by rw [VY];rfl⟩
 case hA=>
  rintro k a' W W' ⟨x,q,h1,h2,h3,h4⟩ hk
  exact ⟨x,q,h1,hk.obj _ _ h2 rfl (by simp),h3,h4⟩
 case hassign=>
  rintro l' k hk W ⟨es,a,f,bk,lk,v,h1,h2,_⟩
  have hz:=h2.size
  simp only [List.getElem_map]
  have hp:(oW (l.length+1) b cpu l)[k]?=some ((oW (l.length+1) b cpu l)[k]'(by simpa using hk)):=List.getElem?_eq_getElem _
  generalize (oW (l.length+1) b cpu l)[k]'(by simpa using hk)=q at hp
  have HP:=hide hp
  clear hp h1 h2 hk
  unfold yj
  gi_wp2
  exact ⟨(bY.refl _ _).alloc _,W.heap.size,q,HP.out,World.alloc_heap_new W _,hz,rfl⟩
 case hbody =>
  rintro l' k a' W hk hl ⟨r0,hr0⟩ ⟨x,q,hq,hx,hxo,rfl⟩ ⟨es,a,f,bk,lk,v,Gw,hra,hdr,hf,hkl,V3,hal,hsp⟩
  have LX:aC bk cpu lk=q:=by
   have h1:=congrArg (fun L=>L[0]?) hdr
   simp only [List.getElem?_drop,Nat.add_zero] at h1
   rw [hq,LP f bk cpu lk] at h1
   simpa using h1.symm
  have htl:=Pw bk cpu lk
  rw [LX] at htl
  have Cg:(oW (l.length+1) b cpu l).drop (k+1)=if q.2.2≠0 then [] else oW f q.1.at cpu (lk.drop q.2.1):=by
   rw [LP f bk cpu lk,LX] at hdr
   rw [←List.tail_drop,hdr];rfl
  have hmk:m-k=(m- (k+1))+1:=by omega
  rw [hmk] at hsp
  have hWz:=hra.size
  obtain ⟨e,mm,er⟩:=q
  simp only at htl Cg
  have HDR:=hide Cg
  have kL:=hide hsp
  have LY:=hide LX
  have PG:es.length≤k∧k≤es.length:=by omega
  have r8c:W.cell? ⟨w.heap.size+1+1,0,none⟩=some (.slice none 0 0):=by simp [World.cell?,hra.r8]
  have r9c:W.cell? ⟨w.heap.size+1+1+1,0,none⟩=some (.int .i64 0):=by simp [World.cell?,hra.r9]
  have PH:W.cell? ⟨w.heap.size+1+1+1+1,0,none⟩=some (.int .i64 0):=by simp [World.cell?,hra.oK]
  have r8f:∀i,W.frozen? ⟨w.heap.size+1+1,i,none⟩=false:=fun i=>by simp [World.frozen?,hra.r8]
  have r9f:∀i,W.frozen? ⟨w.heap.size+1+1+1,i,none⟩=false:=fun i=>by simp [World.frozen?,hra.r9]
  have PI:∀i,W.frozen? ⟨w.heap.size+1+1+1+1,i,none⟩=false:=fun i=>by simp [World.frozen?,hra.oK]
  have jX:=hide hra
  have HX:=hide hx
  have VC:=hide hrc
  clear hq LX hdr Cg hsp hmk hx hra hrc hr0 Gw hk
  by_cases hbad:er=0
  ·subst hbad
   have HOW:=hide jX.out.out.row
   obtain ⟨A1,c1,rfl⟩:=tN HOW.out
   have hkb:k≤1000000000000:=by omega
   have o0:=jX.out.out.cell
   have x0:W.cell? ⟨x,0,none⟩=some (.int .i64 e.seq):=by simp [World.cell?,HX.out,tk]
   rcases List.eq_nil_or_concat es with hnil|⟨es0,p,Gx⟩
   ·subst hnil
    simp only [List.length_nil] at o0
    gi_wp2
    refine Pz (S:=fun w'=>w'.cell? ⟨w2.heap.size,0,none⟩=some (.slice A1 0 c1)) (by kernel_rfl) (by kernel_rfl) (by rintro ⟨_,_,h⟩;exact h) o0 (fun hH=>?_)
    refine wpAnyH_take (i:=0) (v:= .slice A1 0 c1) rfl (by kernel_rfl) (by kernel_rfl) (by kernel_rfl) (fun _ _ _ h=>h) (Or.inl ⟨by rfl,fun WW hW=>by (skip;simp only [List.getElem_toArray,List.getElem_cons_zero];go_simp)⟩) hH ?_
    simp only [List.getElem_toArray,List.getElem_cons_zero,Act.put,List.setIfInBounds_toArray,List.set_cons_zero,List.set_cons_succ]
    refine wpAnyH_take (i:=1) (v:= .int .i64 0) rfl (by kernel_rfl) (by kernel_rfl) (by kernel_rfl) (fun _ _ _ h=>h) (Or.inl ⟨by rfl,fun WW hW=>by (skip;simp only [List.getElem_toArray,List.getElem_cons_zero,List.getElem_cons_succ];go_simp)⟩) hH ?_
    simp only [List.getElem_toArray,List.getElem_cons_zero,List.getElem_cons_succ,Act.put,List.setIfInBounds_toArray,List.set_cons_zero,List.set_cons_succ]
    refine wpAnyH_take (i:=2) (v:= .bool false) rfl (by kernel_rfl) (by kernel_rfl) (by kernel_rfl) (fun _ _ _ h=>h) (Or.inl ⟨by rfl,fun WW hW=>by (skip;simp only [List.getElem_toArray,List.getElem_cons_zero,List.getElem_cons_succ];go_simp)⟩) hH ?_
    simp only [List.getElem_toArray,List.getElem_cons_zero,List.getElem_cons_succ,Act.put,List.setIfInBounds_toArray,List.set_cons_zero,List.set_cons_succ]
    refine wpAnyH_take (i:=3) (v:= .bool false) rfl (by kernel_rfl) (by kernel_rfl) (by kernel_rfl) (fun _ _ _ h=>h) (Or.inl ⟨by rfl,fun WW hW=>by (skip;simp only [List.getElem_toArray,List.getElem_cons_zero,List.getElem_cons_succ];go_simp)⟩) hH ?_
    simp only [List.getElem_toArray,List.getElem_cons_zero,List.getElem_cons_succ,Act.put,List.setIfInBounds_toArray,List.set_cons_zero,List.set_cons_succ]
    refine wpAnyH_take (i:=4) rfl (by kernel_rfl) (by kernel_rfl) (by kernel_rfl) (fun _ _ _ h=>h) (Or.inr ⟨by rfl,rfl⟩) hH ?_
    simp only [List.getElem_toArray,List.getElem_cons_zero,List.getElem_cons_succ,Act.put,List.setIfInBounds_toArray,List.set_cons_zero,List.set_cons_succ]
    refine wpAnyH_take (i:=5) rfl (by kernel_rfl) (by kernel_rfl) (by kernel_rfl) (fun _ _ _ h=>h) (Or.inr ⟨by rfl,rfl⟩) hH ?_
    simp only [List.getElem_toArray,List.getElem_cons_zero,List.getElem_cons_succ,Act.put,List.setIfInBounds_toArray,List.set_cons_zero,List.set_cons_succ]
    refine wpAnyH_take (i:=6) rfl (by kernel_rfl) (by kernel_rfl) (by kernel_rfl) (fun _ _ _ h=>h) (Or.inr ⟨by rfl,rfl⟩) hH ?_
    simp only [List.getElem_toArray,List.getElem_cons_zero,List.getElem_cons_succ,Act.put,List.setIfInBounds_toArray,List.set_cons_zero,List.set_cons_succ]
    refine wpAnyH_take (i:=7) rfl (by kernel_rfl) (by kernel_rfl) (by kernel_rfl) (fun _ _ _ h=>h) (Or.inr ⟨by rfl,rfl⟩) hH ?_
    simp only [List.getElem_toArray,List.getElem_cons_zero,List.getElem_cons_succ,Act.put,List.setIfInBounds_toArray,List.set_cons_zero,List.set_cons_succ]
    refine wpAnyH_take (i:=8) rfl (by kernel_rfl) (by kernel_rfl) (by kernel_rfl) (fun _ _ _ h=>h) (Or.inr ⟨by rfl,rfl⟩) hH ?_
    simp only [List.getElem_toArray,List.getElem_cons_zero,List.getElem_cons_succ,Act.put,List.setIfInBounds_toArray,List.set_cons_zero,List.set_cons_succ]
    refine wpAnyH_take (i:=9) rfl (by kernel_rfl) (by kernel_rfl) (by kernel_rfl) (fun _ _ _ h=>h) (Or.inr ⟨by rfl,rfl⟩) hH ?_
    simp only [List.getElem_toArray,List.getElem_cons_zero,List.getElem_cons_succ,Act.put,List.setIfInBounds_toArray,List.set_cons_zero,List.set_cons_succ]
    refine wpAnyH_take (i:=10) rfl (by kernel_rfl) (by kernel_rfl) (by kernel_rfl) (fun _ _ _ h=>h) (Or.inr ⟨by rfl,rfl⟩) hH ?_
    simp only [List.getElem_toArray,List.getElem_cons_zero,List.getElem_cons_succ,Act.put,List.setIfInBounds_toArray,List.set_cons_zero,List.set_cons_succ]
    refine wpAnyH_take (i:=11) rfl (by kernel_rfl) (by kernel_rfl) (by kernel_rfl) (fun _ _ _ h=>h) (Or.inr ⟨by rfl,rfl⟩) hH ?_
    simp only [List.getElem_toArray,List.getElem_cons_zero,List.getElem_cons_succ,Act.put,List.setIfInBounds_toArray,List.set_cons_zero,List.set_cons_succ]
    refine wpAnyH_take (i:=12) rfl (by kernel_rfl) (by kernel_rfl) (by kernel_rfl) (fun _ _ _ h=>h) (Or.inr ⟨by rfl,rfl⟩) hH ?_
    simp only [List.getElem_toArray,List.getElem_cons_zero,List.getElem_cons_succ,Act.put,List.setIfInBounds_toArray,List.set_cons_zero,List.set_cons_succ]
    refine wpAnyH_take (i:=13) rfl (by kernel_rfl) (by kernel_rfl) (by kernel_rfl) (fun _ _ _ h=>h) (Or.inr ⟨by rfl,rfl⟩) hH ?_
    simp only [List.getElem_toArray,List.getElem_cons_zero,List.getElem_cons_succ,Act.put,List.setIfInBounds_toArray,List.set_cons_zero,List.set_cons_succ]
    refine wpAnyH_take (i:=14) rfl (by kernel_rfl) (by kernel_rfl) (by kernel_rfl) (fun _ _ _ h=>h) (Or.inr ⟨by rfl,rfl⟩) hH ?_
    simp only [List.getElem_toArray,List.getElem_cons_zero,List.getElem_cons_succ,Act.put,List.setIfInBounds_toArray,List.set_cons_zero,List.set_cons_succ]
    refine wpAnyH_take (i:=15) (v:= .bool false) rfl (by kernel_rfl) (by kernel_rfl) (by kernel_rfl) (fun _ _ _ h=>h) (Or.inl ⟨by rfl,fun WW hW=>by (skip;simp only [List.getElem_toArray,List.getElem_cons_zero,List.getElem_cons_succ];go_simp)⟩) hH ?_
    simp only [List.getElem_toArray,List.getElem_cons_zero,List.getElem_cons_succ,Act.put,List.setIfInBounds_toArray,List.set_cons_zero,List.set_cons_succ]
    refine wpAnyH_done (by kernel_rfl) ?_ _
    simp only [List.length_nil] at PG
    have hrow:=HOW.out
    have Gy:=hide (show (Value.slice A1 0 c1).ownBlock≠some w2.heap.size from fun h=>by have:=(hrow.lt _ h).1;omega)
    have Gz:=hide (show (Value.slice A1 0 c1).ownBlock≠some (w2.heap.size+1) from fun h=>by have:=(hrow.lt _ h).1;omega)
    have GA:=hide (show (Value.slice A1 0 c1).ownBlock≠some (w.heap.size+1) from fun h=>by have:=(hrow.lt _ h).1;omega)
    have GD:=hide (VZ hrow HX.out (by decide))
    have uq:=hide (fun X=>(show (W.alloc X).drew.ownsRow (w2.heap.size+5) 32 11 (.slice A1 0 c1) 0 ((([]:List Ev)).flatMap cZ) from (hrow.alloc X).drew))
    have Ch:=(OP (qc (show W.heap[x]?=_ from HX.out)|>fun h=>Ve (cs:=e.cells.toList) (ds:=[.int .i64 (mm:Int)]) h))
    obtain ⟨v0,v1,v2,v3,v4,v5,v6,v7,v8,v9,v10⟩:=Ch
    have n1:x≠w2.heap.size:=by omega
    have n2:x≠w2.heap.size+1:=by omega
    have n3:w.heap.size+1≠w2.heap.size:=by omega
    have n4:w.heap.size+1≠w2.heap.size+1:=by omega
    have n1':¬w2.heap.size=x:=by omega
    have n2':¬w2.heap.size+1=x:=by omega
    have n3':¬w2.heap.size=w.heap.size+1:=by omega
    have n4':¬w2.heap.size=w.heap.size:=by omega
    have PK:=hide (show ∀A2 c2 w1,w1.ownsRow (w2.heap.size+5) 32 11 (.slice A2 (0+1) c2) (0+1) ((([]:List Ev)).flatMap cZ++cZ e)→(W.alloc (.cells #[.int .i64 e.seq,.int .i64 e.time,.int .u8 (e.cpu:Int),.int .u8 (e.kind:Int),.int .i64 e.bD,.int .i64 e.group,.int .i64 e.to,.int .i64 e.weight,.int .i64 e.aL,.int .u64 (e.mask:Int),.int .i64 e.got] 32)).drew.grownBy w1 (Value.slice A1 0 c1).ownBlock→((Value.slice A2 (0+1) c2).ownBlock=(Value.slice A1 0 c1).ownBlock∨(Value.slice A2 (0+1) c2).ownBlock=some (W.alloc (.cells #[.int .i64 e.seq,.int .i64 e.time,.int .u8 (e.cpu:Int),.int .u8 (e.kind:Int),.int .i64 e.bD,.int .i64 e.group,.int .i64 e.to,.int .i64 e.weight,.int .i64 e.aL,.int .u64 (e.mask:Int),.int .i64 e.got] 32)).drew.heap.size)→bE w w2.heap.size m ((([]:List Ev))++[e]) (a+mm) ((w1.setCell ⟨w2.heap.size,0,none⟩ (.slice A2 (0+1) c2)).setCell ⟨w2.heap.size+1,0,none⟩ (.int .i64 ((a:Int)+(mm:Int)))) (.slice A2 (0+1) c2)∧iI (gU w w2.heap.size) W ((w1.setCell ⟨w2.heap.size,0,none⟩ (.slice A2 (0+1) c2)).setCell ⟨w2.heap.size+1,0,none⟩ (.int .i64 ((a:Int)+(mm:Int)))) from fun A2 c2 w1 a1 a2 a3=>by
     have h:=jX.out.push (e:=e) (mm:=mm) (A':=A2) (c':=c2) ((bY.refl [] W).alloc (.cells #[.int .i64 e.seq,.int .i64 e.time,.int .u8 (e.cpu:Int),.int .u8 (e.kind:Int),.int .i64 e.bD,.int .i64 e.group,.int .i64 e.to,.int .i64 e.weight,.int .i64 e.aL,.int .u64 (e.mask:Int),.int .i64 e.got] 32)).drew a2 (a1) (a3)
     unfold fV at h
     rw [Int.natCast_add] at h
     exact h)
    have hpush:=PK.out
    have nz:=hide (show qq cpu m b none l=dX ([]++[e]) (a+mm) (qq cpu (m- (k+1)) e.at (some e) (lk.drop mm)) by rw [kL.out];exact PD LY.out rfl [] a)
    by_cases hend:k+1=m
    ·have PL:((1:Int)==(m:Int))=true:=by rw [beq_iff_eq];omega
     have Ci:=hide hend
     clear hend
     gi_wp2_with (gi_at_builtin;refine FN rfl rfl qN (uq.out _) rfl (Rd.block W (cZ e) _ 11 rfl) rfl (l9 e) (by omega) (by omega) (by show w2.heap.size+5≤(W.alloc _).heap.size;simp;omega) ?_;intro A2 c2 w1 hown1 dw jC;obtain ⟨hc1,hf1⟩:=jX.out.out.later ((bY.refl [] W).alloc (.cells #[.int .i64 e.seq,.int .i64 e.time,.int .u8 (e.cpu:Int),.int .u8 (e.kind:Int),.int .i64 e.bD,.int .i64 e.group,.int .i64 e.to,.int .i64 e.weight,.int .i64 e.aL,.int .u64 (e.mask:Int),.int .i64 e.got] 32)).drew dw Gy.out;have hA1:=sO dw jX.out.at' Gz.out;have hN1:=sO dw jX.out.num GA.out;have hX1:=sO dw HX.out GD.out;have u0:w1.cell? ⟨w2.heap.size+1,0,none⟩=some (.int .i64 (a:Int)):=by {simp [World.cell?,hA1]};have u1:∀i,w1.frozen? ⟨w2.heap.size+1,i,none⟩=false:=fun i=>by {simp [World.frozen?,hA1]};have u2:w1.cell? ⟨w.heap.size+1,0,none⟩=some (.int .i64 (m:Int)):=by {simp [World.cell?,hN1]};have u3:w1.cell? ⟨x,11,none⟩=some (.int .i64 (mm:Int)):=by {simp [World.cell?,hX1,tk]};have HU:=hide (And.intro hA1 (And.intro hN1 hX1));clear hA1 hN1 hX1)
     have hp:=hpush A2 c2 w1 hown1 dw jC
     exact ⟨hp.2,⟨_,_,_,hp.1,by omega,by rw [nz.out,show m- (k+1)=0 by have:=Ci.out;omega];unfold dX;simp [qq]⟩,fun W4 hk4=>hp.1.jR hk4 yn⟩
    ·have PL:((1:Int)==(m:Int))=false:=by rw [beq_eq_false_iff_ne];omega
     gi_wp2_with (gi_at_builtin;refine FN rfl rfl qN (uq.out _) rfl (Rd.block W (cZ e) _ 11 rfl) rfl (l9 e) (by omega) (by omega) (by show w2.heap.size+5≤(W.alloc _).heap.size;simp;omega) ?_;intro A2 c2 w1 hown1 dw jC;obtain ⟨hc1,hf1⟩:=jX.out.out.later ((bY.refl [] W).alloc (.cells #[.int .i64 e.seq,.int .i64 e.time,.int .u8 (e.cpu:Int),.int .u8 (e.kind:Int),.int .i64 e.bD,.int .i64 e.group,.int .i64 e.to,.int .i64 e.weight,.int .i64 e.aL,.int .u64 (e.mask:Int),.int .i64 e.got] 32)).drew dw Gy.out;have hA1:=sO dw jX.out.at' Gz.out;have hN1:=sO dw jX.out.num GA.out;have hX1:=sO dw HX.out GD.out;have u0:w1.cell? ⟨w2.heap.size+1,0,none⟩=some (.int .i64 (a:Int)):=by {simp [World.cell?,hA1]};have u1:∀i,w1.frozen? ⟨w2.heap.size+1,i,none⟩=false:=fun i=>by {simp [World.frozen?,hA1]};have u2:w1.cell? ⟨w.heap.size+1,0,none⟩=some (.int .i64 (m:Int)):=by {simp [World.cell?,hN1]};have u3:w1.cell? ⟨x,11,none⟩=some (.int .i64 (mm:Int)):=by {simp [World.cell?,hX1,tk]};have HU:=hide (And.intro hA1 (And.intro hN1 hX1));clear hA1 hN1 hX1)
     have hp:=hpush A2 c2 w1 hown1 dw jC
     obtain ⟨f',rfl⟩:∃f',f=f'+1:=⟨f-1,by have:=htl.2 trivial;omega⟩
     exact ⟨hp.2,_,_,f',e.at,lk.drop mm,_,by simp;omega,hp.1,by rw [HDR.out];rfl,by rw [List.length_drop];have:=htl.2 trivial;omega,by rw [List.length_drop];have:=htl.2 trivial;omega,by omega,by rw [List.length_drop];omega,by rw [nz.out];simp⟩
   ·have lm:es=es0++[p]:=by simpa using Gx
    have qO:=HOW.out
    obtain ⟨g,cg,hgv,hgb,hgl⟩:=qO.form (by rw [lm];simp)
    have hel:es.length=es0.length+1:=by rw [lm];simp
    have hpc:W.cell? ⟨g,es0.length*11,none⟩=some (.int .i64 p.seq):=by
     rw [hgv] at qO
     rw [qO.cellAt (es0.length*11) (by omega),lm,List.flatMap_append]
     rw [List.getElem?_append_right (by rw [qK cZ 11 nu];omega),qK cZ 11 nu,Nat.sub_self]
     rfl
    have hlast:es.getLast?=some p:=by rw [lm];simp
    injection hgv with hgA hgn hgc
    subst hgA
    subst hgc
    generalize hN:es0.length=N at*
    rw [hel] at o0
    have adt:N+1≤k∧k≤N+1:=by omega
    have adu:=hide lm
    have GG:=hide hel
    have HN:=hide hN
    rw [hlast] at kL
    have hni:(0:Int)<(N:Int)+1:=by omega
    have hwn:IntKind.i64.wrap (N:Int)=(N:Int):=IntWalk.i64_in _ (by omega)
    have hwn2:IntKind.i64.wrap ((N:Int)+1-1)=(N:Int):=by rw [Int.add_sub_cancel];exact hwn
    have hnl:(N:Int)<(N:Int)+1:=by omega
    have p0:=hpc
    clear Gx lm hel hN hlast hpc hgn qO
    by_cases EA:e.seq=p.seq
    ·have hsb:(e.seq==p.seq)=true:=by rw [beq_iff_eq];exact EA
     have PM:=hide EA
     clear EA
     gi_wp2
     refine Pz (S:=fun w'=>w'.cell? ⟨w2.heap.size,0,none⟩=some (.slice (some ⟨g,0,none⟩) (N+1) c1)∧w'.cell? ⟨x,0,none⟩=some (.int .i64 e.seq)∧w'.cell? ⟨g,N*11,none⟩=some (.int .i64 p.seq)) (by kernel_rfl) (by kernel_rfl) (by rintro ⟨_,_,h⟩;exact h) ⟨o0,x0,p0⟩ (fun hH=>?_)
     refine wpAnyH_take (i:=0) (v:= .slice (some ⟨g,0,none⟩) (N+1) c1) rfl (by kernel_rfl) (by kernel_rfl) (by kernel_rfl) (fun _ _ _ h=>h) (Or.inl ⟨by rfl,fun WW hW=>by (obtain ⟨hW1,hW2,hW3⟩:=hW;simp only [List.getElem_toArray,List.getElem_cons_zero];go_simp)⟩) hH ?_
     simp only [List.getElem_toArray,List.getElem_cons_zero,Act.put,List.setIfInBounds_toArray,List.set_cons_zero,List.set_cons_succ]
     refine wpAnyH_take (i:=1) (v:= .int .i64 ((N:Int)+1)) rfl (by kernel_rfl) (by kernel_rfl) (by kernel_rfl) (fun _ _ _ h=>h) (Or.inl ⟨by rfl,fun WW hW=>by (skip;simp only [List.getElem_toArray,List.getElem_cons_zero,List.getElem_cons_succ];go_simp)⟩) hH ?_
     simp only [List.getElem_toArray,List.getElem_cons_zero,List.getElem_cons_succ,Act.put,List.setIfInBounds_toArray,List.set_cons_zero,List.set_cons_succ]
     refine wpAnyH_take (i:=2) (v:= .bool true) rfl (by kernel_rfl) (by kernel_rfl) (by kernel_rfl) (fun _ _ _ h=>h) (Or.inl ⟨by rfl,fun WW hW=>by (skip;simp only [List.getElem_toArray,List.getElem_cons_zero,List.getElem_cons_succ];go_simp)⟩) hH ?_
     simp only [List.getElem_toArray,List.getElem_cons_zero,List.getElem_cons_succ,Act.put,List.setIfInBounds_toArray,List.set_cons_zero,List.set_cons_succ]
     refine wpAnyH_take (i:=3) (v:= .bool true) rfl (by kernel_rfl) (by kernel_rfl) (by kernel_rfl) (fun _ _ _ h=>h) (Or.inl ⟨by rfl,fun WW hW=>by (skip;simp only [List.getElem_toArray,List.getElem_cons_zero,List.getElem_cons_succ];go_simp)⟩) hH ?_
     simp only [List.getElem_toArray,List.getElem_cons_zero,List.getElem_cons_succ,Act.put,List.setIfInBounds_toArray,List.set_cons_zero,List.set_cons_succ]
     refine wpAnyH_take (i:=4) (v:= .pointer (some ⟨x,0,none⟩)) rfl (by kernel_rfl) (by kernel_rfl) (by kernel_rfl) (fun _ _ _ h=>h) (Or.inl ⟨by rfl,fun WW hW=>by (skip;simp only [List.getElem_toArray,List.getElem_cons_zero,List.getElem_cons_succ];go_simp)⟩) hH ?_
     simp only [List.getElem_toArray,List.getElem_cons_zero,List.getElem_cons_succ,Act.put,List.setIfInBounds_toArray,List.set_cons_zero,List.set_cons_succ]
     refine wpAnyH_take (i:=5) (v:= .pointer (some ⟨x,0,none⟩)) rfl (by kernel_rfl) (by kernel_rfl) (by kernel_rfl) (fun _ _ _ h=>h) (Or.inl ⟨by rfl,fun WW hW=>by (skip;simp only [List.getElem_toArray,List.getElem_cons_zero,List.getElem_cons_succ];go_simp)⟩) hH ?_
     simp only [List.getElem_toArray,List.getElem_cons_zero,List.getElem_cons_succ,Act.put,List.setIfInBounds_toArray,List.set_cons_zero,List.set_cons_succ]
     refine wpAnyH_take (i:=6) (v:= .int .i64 e.seq) rfl (by kernel_rfl) (by kernel_rfl) (by kernel_rfl) (fun _ _ _ h=>h) (Or.inl ⟨by rfl,fun WW hW=>by (obtain ⟨hW1,hW2,hW3⟩:=hW;simp only [List.getElem_toArray,List.getElem_cons_zero,List.getElem_cons_succ];go_simp)⟩) hH ?_
     simp only [List.getElem_toArray,List.getElem_cons_zero,List.getElem_cons_succ,Act.put,List.setIfInBounds_toArray,List.set_cons_zero,List.set_cons_succ]
     refine wpAnyH_take (i:=7) (v:= .slice (some ⟨g,0,none⟩) (N+1) c1) rfl (by kernel_rfl) (by kernel_rfl) (by kernel_rfl) (fun _ _ _ h=>h) (Or.inl ⟨by rfl,fun WW hW=>by (obtain ⟨hW1,hW2,hW3⟩:=hW;simp only [List.getElem_toArray,List.getElem_cons_zero,List.getElem_cons_succ];go_simp)⟩) hH ?_
     simp only [List.getElem_toArray,List.getElem_cons_zero,List.getElem_cons_succ,Act.put,List.setIfInBounds_toArray,List.set_cons_zero,List.set_cons_succ]
     refine wpAnyH_take (i:=8) (v:= .slice (some ⟨g,0,none⟩) (N+1) c1) rfl (by kernel_rfl) (by kernel_rfl) (by kernel_rfl) (fun _ _ _ h=>h) (Or.inl ⟨by rfl,fun WW hW=>by (obtain ⟨hW1,hW2,hW3⟩:=hW;simp only [List.getElem_toArray,List.getElem_cons_zero,List.getElem_cons_succ];go_simp)⟩) hH ?_
     simp only [List.getElem_toArray,List.getElem_cons_zero,List.getElem_cons_succ,Act.put,List.setIfInBounds_toArray,List.set_cons_zero,List.set_cons_succ]
     refine wpAnyH_take (i:=9) (v:= .int .i64 ((N:Int)+1)) rfl (by kernel_rfl) (by kernel_rfl) (by kernel_rfl) (fun _ _ _ h=>h) (Or.inl ⟨by rfl,fun WW hW=>by (skip;simp only [List.getElem_toArray,List.getElem_cons_zero,List.getElem_cons_succ];go_simp)⟩) hH ?_
     simp only [List.getElem_toArray,List.getElem_cons_zero,List.getElem_cons_succ,Act.put,List.setIfInBounds_toArray,List.set_cons_zero,List.set_cons_succ]
     refine wpAnyH_take (i:=10) (v:= .int .i64 (N:Int)) rfl (by kernel_rfl) (by kernel_rfl) (by kernel_rfl) (fun _ _ _ h=>h) (Or.inl ⟨by rfl,fun WW hW=>by (skip;simp only [List.getElem_toArray,List.getElem_cons_zero,List.getElem_cons_succ];go_simp)⟩) hH ?_
     simp only [List.getElem_toArray,List.getElem_cons_zero,List.getElem_cons_succ,Act.put,List.setIfInBounds_toArray,List.set_cons_zero,List.set_cons_succ]
     refine wpAnyH_take (i:=11) (v:= .pointer (some ⟨g,N*11,none⟩)) rfl (by kernel_rfl) (by kernel_rfl) (by kernel_rfl) (fun _ _ _ h=>h) (Or.inl ⟨by rfl,fun WW hW=>by (skip;simp only [List.getElem_toArray,List.getElem_cons_zero,List.getElem_cons_succ];go_simp)⟩) hH ?_
     simp only [List.getElem_toArray,List.getElem_cons_zero,List.getElem_cons_succ,Act.put,List.setIfInBounds_toArray,List.set_cons_zero,List.set_cons_succ]
     refine wpAnyH_take (i:=12) (v:= .pointer (some ⟨g,N*11,none⟩)) rfl (by kernel_rfl) (by kernel_rfl) (by kernel_rfl) (fun _ _ _ h=>h) (Or.inl ⟨by rfl,fun WW hW=>by (skip;simp only [List.getElem_toArray,List.getElem_cons_zero,List.getElem_cons_succ];go_simp)⟩) hH ?_
     simp only [List.getElem_toArray,List.getElem_cons_zero,List.getElem_cons_succ,Act.put,List.setIfInBounds_toArray,List.set_cons_zero,List.set_cons_succ]
     refine wpAnyH_take (i:=13) (v:= .int .i64 p.seq) rfl (by kernel_rfl) (by kernel_rfl) (by kernel_rfl) (fun _ _ _ h=>h) (Or.inl ⟨by rfl,fun WW hW=>by (obtain ⟨hW1,hW2,hW3⟩:=hW;simp only [List.getElem_toArray,List.getElem_cons_zero,List.getElem_cons_succ];go_simp)⟩) hH ?_
     simp only [List.getElem_toArray,List.getElem_cons_zero,List.getElem_cons_succ,Act.put,List.setIfInBounds_toArray,List.set_cons_zero,List.set_cons_succ]
     refine wpAnyH_take (i:=14) (v:= .bool true) rfl (by kernel_rfl) (by kernel_rfl) (by kernel_rfl) (fun _ _ _ h=>h) (Or.inl ⟨by rfl,fun WW hW=>by (skip;simp only [List.getElem_toArray,List.getElem_cons_zero,List.getElem_cons_succ];go_simp)⟩) hH ?_
     simp only [List.getElem_toArray,List.getElem_cons_zero,List.getElem_cons_succ,Act.put,List.setIfInBounds_toArray,List.set_cons_zero,List.set_cons_succ]
     refine wpAnyH_take (i:=15) (v:= .bool true) rfl (by kernel_rfl) (by kernel_rfl) (by kernel_rfl) (fun _ _ _ h=>h) (Or.inl ⟨by rfl,fun WW hW=>by (skip;simp only [List.getElem_toArray,List.getElem_cons_zero,List.getElem_cons_succ];go_simp)⟩) hH ?_
     simp only [List.getElem_toArray,List.getElem_cons_zero,List.getElem_cons_succ,Act.put,List.setIfInBounds_toArray,List.set_cons_zero,List.set_cons_succ]
     refine wpAnyH_done (by kernel_rfl) ?_ _
     gi_wp2
     have h:=jX.out.drew.ret (S:=[w2.heap.size+1+1,w2.heap.size+1+1+1+1]) (B:=W3.heap.size) (b:=b) (l:=l) (er:=71) (m:=m) (cpu:=cpu) (by rw [kL.out];exact VX LY.out (by simp [PM.out]) es a)
     exact ⟨⟨h.1.os,h.1.tape,h.1.output,h.1.size,h.1.block,h.1.own⟩,⟨71,h.2.1⟩,fun W4 hk4=>h.2.2 W4 hk4 yn⟩
    ·have hsb:(e.seq==p.seq)=false:=by rw [beq_eq_false_iff_ne];exact EA
     have PM:=hide EA
     clear EA
     gi_wp2
     refine Pz (S:=fun w'=>w'.cell? ⟨w2.heap.size,0,none⟩=some (.slice (some ⟨g,0,none⟩) (N+1) c1)∧w'.cell? ⟨x,0,none⟩=some (.int .i64 e.seq)∧w'.cell? ⟨g,N*11,none⟩=some (.int .i64 p.seq)) (by kernel_rfl) (by kernel_rfl) (by rintro ⟨_,_,h⟩;exact h) ⟨o0,x0,p0⟩ (fun hH=>?_)
     refine wpAnyH_take (i:=0) (v:= .slice (some ⟨g,0,none⟩) (N+1) c1) rfl (by kernel_rfl) (by kernel_rfl) (by kernel_rfl) (fun _ _ _ h=>h) (Or.inl ⟨by rfl,fun WW hW=>by (obtain ⟨hW1,hW2,hW3⟩:=hW;simp only [List.getElem_toArray,List.getElem_cons_zero];go_simp)⟩) hH ?_
     simp only [List.getElem_toArray,List.getElem_cons_zero,Act.put,List.setIfInBounds_toArray,List.set_cons_zero,List.set_cons_succ]
     refine wpAnyH_take (i:=1) (v:= .int .i64 ((N:Int)+1)) rfl (by kernel_rfl) (by kernel_rfl) (by kernel_rfl) (fun _ _ _ h=>h) (Or.inl ⟨by rfl,fun WW hW=>by (skip;simp only [List.getElem_toArray,List.getElem_cons_zero,List.getElem_cons_succ];go_simp)⟩) hH ?_
     simp only [List.getElem_toArray,List.getElem_cons_zero,List.getElem_cons_succ,Act.put,List.setIfInBounds_toArray,List.set_cons_zero,List.set_cons_succ]
     refine wpAnyH_take (i:=2) (v:= .bool true) rfl (by kernel_rfl) (by kernel_rfl) (by kernel_rfl) (fun _ _ _ h=>h) (Or.inl ⟨by rfl,fun WW hW=>by (skip;simp only [List.getElem_toArray,List.getElem_cons_zero,List.getElem_cons_succ];go_simp)⟩) hH ?_
     simp only [List.getElem_toArray,List.getElem_cons_zero,List.getElem_cons_succ,Act.put,List.setIfInBounds_toArray,List.set_cons_zero,List.set_cons_succ]
     refine wpAnyH_take (i:=3) (v:= .bool true) rfl (by kernel_rfl) (by kernel_rfl) (by kernel_rfl) (fun _ _ _ h=>h) (Or.inl ⟨by rfl,fun WW hW=>by (skip;simp only [List.getElem_toArray,List.getElem_cons_zero,List.getElem_cons_succ];go_simp)⟩) hH ?_
     simp only [List.getElem_toArray,List.getElem_cons_zero,List.getElem_cons_succ,Act.put,List.setIfInBounds_toArray,List.set_cons_zero,List.set_cons_succ]
     refine wpAnyH_take (i:=4) (v:= .pointer (some ⟨x,0,none⟩)) rfl (by kernel_rfl) (by kernel_rfl) (by kernel_rfl) (fun _ _ _ h=>h) (Or.inl ⟨by rfl,fun WW hW=>by (skip;simp only [List.getElem_toArray,List.getElem_cons_zero,List.getElem_cons_succ];go_simp)⟩) hH ?_
     simp only [List.getElem_toArray,List.getElem_cons_zero,List.getElem_cons_succ,Act.put,List.setIfInBounds_toArray,List.set_cons_zero,List.set_cons_succ]
     refine wpAnyH_take (i:=5) (v:= .pointer (some ⟨x,0,none⟩)) rfl (by kernel_rfl) (by kernel_rfl) (by kernel_rfl) (fun _ _ _ h=>h) (Or.inl ⟨by rfl,fun WW hW=>by (skip;simp only [List.getElem_toArray,List.getElem_cons_zero,List.getElem_cons_succ];go_simp)⟩) hH ?_
     simp only [List.getElem_toArray,List.getElem_cons_zero,List.getElem_cons_succ,Act.put,List.setIfInBounds_toArray,List.set_cons_zero,List.set_cons_succ]
     refine wpAnyH_take (i:=6) (v:= .int .i64 e.seq) rfl (by kernel_rfl) (by kernel_rfl) (by kernel_rfl) (fun _ _ _ h=>h) (Or.inl ⟨by rfl,fun WW hW=>by (obtain ⟨hW1,hW2,hW3⟩:=hW;simp only [List.getElem_toArray,List.getElem_cons_zero,List.getElem_cons_succ];go_simp)⟩) hH ?_
     simp only [List.getElem_toArray,List.getElem_cons_zero,List.getElem_cons_succ,Act.put,List.setIfInBounds_toArray,List.set_cons_zero,List.set_cons_succ]
     refine wpAnyH_take (i:=7) (v:= .slice (some ⟨g,0,none⟩) (N+1) c1) rfl (by kernel_rfl) (by kernel_rfl) (by kernel_rfl) (fun _ _ _ h=>h) (Or.inl ⟨by rfl,fun WW hW=>by (obtain ⟨hW1,hW2,hW3⟩:=hW;simp only [List.getElem_toArray,List.getElem_cons_zero,List.getElem_cons_succ];go_simp)⟩) hH ?_
     simp only [List.getElem_toArray,List.getElem_cons_zero,List.getElem_cons_succ,Act.put,List.setIfInBounds_toArray,List.set_cons_zero,List.set_cons_succ]
     refine wpAnyH_take (i:=8) (v:= .slice (some ⟨g,0,none⟩) (N+1) c1) rfl (by kernel_rfl) (by kernel_rfl) (by kernel_rfl) (fun _ _ _ h=>h) (Or.inl ⟨by rfl,fun WW hW=>by (obtain ⟨hW1,hW2,hW3⟩:=hW;simp only [List.getElem_toArray,List.getElem_cons_zero,List.getElem_cons_succ];go_simp)⟩) hH ?_
     simp only [List.getElem_toArray,List.getElem_cons_zero,List.getElem_cons_succ,Act.put,List.setIfInBounds_toArray,List.set_cons_zero,List.set_cons_succ]
     refine wpAnyH_take (i:=9) (v:= .int .i64 ((N:Int)+1)) rfl (by kernel_rfl) (by kernel_rfl) (by kernel_rfl) (fun _ _ _ h=>h) (Or.inl ⟨by rfl,fun WW hW=>by (skip;simp only [List.getElem_toArray,List.getElem_cons_zero,List.getElem_cons_succ];go_simp)⟩) hH ?_
     simp only [List.getElem_toArray,List.getElem_cons_zero,List.getElem_cons_succ,Act.put,List.setIfInBounds_toArray,List.set_cons_zero,List.set_cons_succ]
     refine wpAnyH_take (i:=10) (v:= .int .i64 (N:Int)) rfl (by kernel_rfl) (by kernel_rfl) (by kernel_rfl) (fun _ _ _ h=>h) (Or.inl ⟨by rfl,fun WW hW=>by (skip;simp only [List.getElem_toArray,List.getElem_cons_zero,List.getElem_cons_succ];go_simp)⟩) hH ?_
     simp only [List.getElem_toArray,List.getElem_cons_zero,List.getElem_cons_succ,Act.put,List.setIfInBounds_toArray,List.set_cons_zero,List.set_cons_succ]
     refine wpAnyH_take (i:=11) (v:= .pointer (some ⟨g,N*11,none⟩)) rfl (by kernel_rfl) (by kernel_rfl) (by kernel_rfl) (fun _ _ _ h=>h) (Or.inl ⟨by rfl,fun WW hW=>by (skip;simp only [List.getElem_toArray,List.getElem_cons_zero,List.getElem_cons_succ];go_simp)⟩) hH ?_
     simp only [List.getElem_toArray,List.getElem_cons_zero,List.getElem_cons_succ,Act.put,List.setIfInBounds_toArray,List.set_cons_zero,List.set_cons_succ]
     refine wpAnyH_take (i:=12) (v:= .pointer (some ⟨g,N*11,none⟩)) rfl (by kernel_rfl) (by kernel_rfl) (by kernel_rfl) (fun _ _ _ h=>h) (Or.inl ⟨by rfl,fun WW hW=>by (skip;simp only [List.getElem_toArray,List.getElem_cons_zero,List.getElem_cons_succ];go_simp)⟩) hH ?_
     simp only [List.getElem_toArray,List.getElem_cons_zero,List.getElem_cons_succ,Act.put,List.setIfInBounds_toArray,List.set_cons_zero,List.set_cons_succ]
     refine wpAnyH_take (i:=13) (v:= .int .i64 p.seq) rfl (by kernel_rfl) (by kernel_rfl) (by kernel_rfl) (fun _ _ _ h=>h) (Or.inl ⟨by rfl,fun WW hW=>by (obtain ⟨hW1,hW2,hW3⟩:=hW;simp only [List.getElem_toArray,List.getElem_cons_zero,List.getElem_cons_succ];go_simp)⟩) hH ?_
     simp only [List.getElem_toArray,List.getElem_cons_zero,List.getElem_cons_succ,Act.put,List.setIfInBounds_toArray,List.set_cons_zero,List.set_cons_succ]
     refine wpAnyH_take (i:=14) (v:= .bool false) rfl (by kernel_rfl) (by kernel_rfl) (by kernel_rfl) (fun _ _ _ h=>h) (Or.inl ⟨by rfl,fun WW hW=>by (skip;simp only [List.getElem_toArray,List.getElem_cons_zero,List.getElem_cons_succ];go_simp)⟩) hH ?_
     simp only [List.getElem_toArray,List.getElem_cons_zero,List.getElem_cons_succ,Act.put,List.setIfInBounds_toArray,List.set_cons_zero,List.set_cons_succ]
     refine wpAnyH_take (i:=15) (v:= .bool false) rfl (by kernel_rfl) (by kernel_rfl) (by kernel_rfl) (fun _ _ _ h=>h) (Or.inl ⟨by rfl,fun WW hW=>by (skip;simp only [List.getElem_toArray,List.getElem_cons_zero,List.getElem_cons_succ];go_simp)⟩) hH ?_
     simp only [List.getElem_toArray,List.getElem_cons_zero,List.getElem_cons_succ,Act.put,List.setIfInBounds_toArray,List.set_cons_zero,List.set_cons_succ]
     refine wpAnyH_done (by kernel_rfl) ?_ _
     have GH:W.ownsRow (w2.heap.size+5) 32 11 (.slice (some ⟨g,0,none⟩) (N+1) c1) (N+1) (es.flatMap cZ):=by have h:=HOW.out;rw [GG.out] at h;exact h
     have HOW:=hide GH
     have hrow:=HOW.out
     have Gy:=hide (show (Value.slice (some ⟨g,0,none⟩) (N+1) c1).ownBlock≠some w2.heap.size from fun h=>by have:=(hrow.lt _ h).1;omega)
     have Gz:=hide (show (Value.slice (some ⟨g,0,none⟩) (N+1) c1).ownBlock≠some (w2.heap.size+1) from fun h=>by have:=(hrow.lt _ h).1;omega)
     have GA:=hide (show (Value.slice (some ⟨g,0,none⟩) (N+1) c1).ownBlock≠some (w.heap.size+1) from fun h=>by have:=(hrow.lt _ h).1;omega)
     have GD:=hide (VZ hrow HX.out (by decide))
     have uq:=hide (fun X=>(show (W.alloc X).drew.ownsRow (w2.heap.size+5) 32 11 (.slice (some ⟨g,0,none⟩) (N+1) c1) (N+1) ((es).flatMap cZ) from (hrow.alloc X).drew))
     have Ch:=(OP (qc (show W.heap[x]?=_ from HX.out)|>fun h=>Ve (cs:=e.cells.toList) (ds:=[.int .i64 (mm:Int)]) h))
     obtain ⟨v0,v1,v2,v3,v4,v5,v6,v7,v8,v9,v10⟩:=Ch
     have n1:x≠w2.heap.size:=by omega
     have n2:x≠w2.heap.size+1:=by omega
     have n3:w.heap.size+1≠w2.heap.size:=by omega
     have n4:w.heap.size+1≠w2.heap.size+1:=by omega
     have n1':¬w2.heap.size=x:=by omega
     have n2':¬w2.heap.size+1=x:=by omega
     have n3':¬w2.heap.size=w.heap.size+1:=by omega
     have n4':¬w2.heap.size=w.heap.size:=by omega
     have PK:=hide (show ∀A2 c2 w1,w1.ownsRow (w2.heap.size+5) 32 11 (.slice A2 ((N+1)+1) c2) ((N+1)+1) ((es).flatMap cZ++cZ e)→(W.alloc (.cells #[.int .i64 e.seq,.int .i64 e.time,.int .u8 (e.cpu:Int),.int .u8 (e.kind:Int),.int .i64 e.bD,.int .i64 e.group,.int .i64 e.to,.int .i64 e.weight,.int .i64 e.aL,.int .u64 (e.mask:Int),.int .i64 e.got] 32)).drew.grownBy w1 (Value.slice (some ⟨g,0,none⟩) (N+1) c1).ownBlock→((Value.slice A2 ((N+1)+1) c2).ownBlock=(Value.slice (some ⟨g,0,none⟩) (N+1) c1).ownBlock∨(Value.slice A2 ((N+1)+1) c2).ownBlock=some (W.alloc (.cells #[.int .i64 e.seq,.int .i64 e.time,.int .u8 (e.cpu:Int),.int .u8 (e.kind:Int),.int .i64 e.bD,.int .i64 e.group,.int .i64 e.to,.int .i64 e.weight,.int .i64 e.aL,.int .u64 (e.mask:Int),.int .i64 e.got] 32)).drew.heap.size)→bE w w2.heap.size m ((es)++[e]) (a+mm) ((w1.setCell ⟨w2.heap.size,0,none⟩ (.slice A2 ((N+1)+1) c2)).setCell ⟨w2.heap.size+1,0,none⟩ (.int .i64 ((a:Int)+(mm:Int)))) (.slice A2 ((N+1)+1) c2)∧iI (gU w w2.heap.size) W ((w1.setCell ⟨w2.heap.size,0,none⟩ (.slice A2 ((N+1)+1) c2)).setCell ⟨w2.heap.size+1,0,none⟩ (.int .i64 ((a:Int)+(mm:Int)))) from fun A2 c2 w1 a1 a2 a3=>by
      have h:=jX.out.push (e:=e) (mm:=mm) (A':=A2) (c':=c2) ((bY.refl [] W).alloc (.cells #[.int .i64 e.seq,.int .i64 e.time,.int .u8 (e.cpu:Int),.int .u8 (e.kind:Int),.int .i64 e.bD,.int .i64 e.group,.int .i64 e.to,.int .i64 e.weight,.int .i64 e.aL,.int .u64 (e.mask:Int),.int .i64 e.got] 32)).drew a2 (by rw [GG.out];exact a1) (by rw [GG.out];exact a3)
      unfold fV at h
      rw [Int.natCast_add,GG.out] at h
      exact h)
     have hpush:=PK.out
     have nz:=hide (show qq cpu m b none l=dX (es++[e]) (a+mm) (qq cpu (m- (k+1)) e.at (some e) (lk.drop mm)) by rw [kL.out];exact PD LY.out (by simp [PM.out]) es a)
     by_cases hend:k+1=m
     ·have PL:((((N:Int)+1+1):Int)==(m:Int))=true:=by rw [beq_iff_eq];omega
      have Ci:=hide hend
      clear hend
      gi_wp2_with (gi_at_builtin;refine FN rfl rfl qN (uq.out _) rfl (Rd.block W (cZ e) _ 11 rfl) rfl (l9 e) (by omega) (by omega) (by show w2.heap.size+5≤(W.alloc _).heap.size;simp;omega) ?_;intro A2 c2 w1 hown1 dw jC;obtain ⟨hc1,hf1⟩:=jX.out.out.later ((bY.refl [] W).alloc (.cells #[.int .i64 e.seq,.int .i64 e.time,.int .u8 (e.cpu:Int),.int .u8 (e.kind:Int),.int .i64 e.bD,.int .i64 e.group,.int .i64 e.to,.int .i64 e.weight,.int .i64 e.aL,.int .u64 (e.mask:Int),.int .i64 e.got] 32)).drew dw Gy.out;have hA1:=sO dw jX.out.at' Gz.out;have hN1:=sO dw jX.out.num GA.out;have hX1:=sO dw HX.out GD.out;have u0:w1.cell? ⟨w2.heap.size+1,0,none⟩=some (.int .i64 (a:Int)):=by {simp [World.cell?,hA1]};have u1:∀i,w1.frozen? ⟨w2.heap.size+1,i,none⟩=false:=fun i=>by {simp [World.frozen?,hA1]};have u2:w1.cell? ⟨w.heap.size+1,0,none⟩=some (.int .i64 (m:Int)):=by {simp [World.cell?,hN1]};have u3:w1.cell? ⟨x,11,none⟩=some (.int .i64 (mm:Int)):=by {simp [World.cell?,hX1,tk]};have HU:=hide (And.intro hA1 (And.intro hN1 hX1));clear hA1 hN1 hX1)
      have hp:=hpush A2 c2 w1 hown1 dw jC
      exact ⟨hp.2,⟨_,_,_,hp.1,by omega,by rw [nz.out,show m- (k+1)=0 by have:=Ci.out;omega];unfold dX;simp [qq]⟩,fun W4 hk4=>hp.1.jR hk4 yn⟩
     ·have PL:((((N:Int)+1+1):Int)==(m:Int))=false:=by rw [beq_eq_false_iff_ne];omega
      gi_wp2_with (gi_at_builtin;refine FN rfl rfl qN (uq.out _) rfl (Rd.block W (cZ e) _ 11 rfl) rfl (l9 e) (by omega) (by omega) (by show w2.heap.size+5≤(W.alloc _).heap.size;simp;omega) ?_;intro A2 c2 w1 hown1 dw jC;obtain ⟨hc1,hf1⟩:=jX.out.out.later ((bY.refl [] W).alloc (.cells #[.int .i64 e.seq,.int .i64 e.time,.int .u8 (e.cpu:Int),.int .u8 (e.kind:Int),.int .i64 e.bD,.int .i64 e.group,.int .i64 e.to,.int .i64 e.weight,.int .i64 e.aL,.int .u64 (e.mask:Int),.int .i64 e.got] 32)).drew dw Gy.out;have hA1:=sO dw jX.out.at' Gz.out;have hN1:=sO dw jX.out.num GA.out;have hX1:=sO dw HX.out GD.out;have u0:w1.cell? ⟨w2.heap.size+1,0,none⟩=some (.int .i64 (a:Int)):=by {simp [World.cell?,hA1]};have u1:∀i,w1.frozen? ⟨w2.heap.size+1,i,none⟩=false:=fun i=>by {simp [World.frozen?,hA1]};have u2:w1.cell? ⟨w.heap.size+1,0,none⟩=some (.int .i64 (m:Int)):=by {simp [World.cell?,hN1]};have u3:w1.cell? ⟨x,11,none⟩=some (.int .i64 (mm:Int)):=by {simp [World.cell?,hX1,tk]};have HU:=hide (And.intro hA1 (And.intro hN1 hX1));clear hA1 hN1 hX1)
      have hp:=hpush A2 c2 w1 hown1 dw jC
      obtain ⟨f',rfl⟩:∃f',f=f'+1:=⟨f-1,by have:=htl.2 trivial;omega⟩
      exact ⟨hp.2,_,_,f',e.at,lk.drop mm,_,by rw [List.length_append,GG.out];simp;omega,hp.1,by rw [HDR.out];rfl,by rw [List.length_drop];have:=htl.2 trivial;omega,by rw [List.length_drop];have:=htl.2 trivial;omega,by omega,by rw [List.length_drop];omega,by rw [nz.out];simp⟩
  ·have hne:((er:Int) !=0)=true:=by rw [bne_iff_ne];omega
   have Ac:=hide hbad
   clear hbad
   gi_wp2
   have h:=jX.out.ret (S:=[w2.heap.size+1+1,w2.heap.size+1+1+1+1]) (B:=W3.heap.size) (b:=b) (l:=l) (er:=er) (m:=m) (cpu:=cpu) (by rw [kL.out];exact VW LY.out Ac.out es a)
   exact ⟨h.1,⟨er,h.2.1⟩,fun W4 hk4=>h.2.2 W4 hk4 yn⟩
 case hdone=>
  rintro D W hD ⟨es,a,f,bk,lk,v,h1,h2,h3,_⟩ hK
  exfalso
  rw [List.drop_eq_nil_of_le (by simp)] at h3
  rw [LP] at h3
  cases h3
 case hstop=>
  rintro D c' k W hD hk0 hk hj hK
  unfold LV at hj
  split at hj
  ·obtain ⟨es,a,v,jD,hal,hsaid⟩:=hj
   have HOW:=hide jD.out.row
   obtain ⟨A1,c1,rfl⟩:=tN HOW.out
   have hWz:=jD.size
   have o0:=jD.out.cell
   have o1:W.cell? ⟨w2.heap.size+1,0,none⟩=some (.int .i64 (a:Int)):=by simp [World.cell?,jD.at']
   have r8c:W.cell? ⟨w.heap.size+1+1,0,none⟩=some (.slice none 0 0):=by simp [World.cell?,jD.r8]
   have r9c:W.cell? ⟨w.heap.size+1+1+1,0,none⟩=some (.int .i64 0):=by simp [World.cell?,jD.r9]
   have PH:W.cell? ⟨w.heap.size+1+1+1+1,0,none⟩=some (.int .i64 0):=by simp [World.cell?,jD.oK]
   have r8f:∀i,W.frozen? ⟨w.heap.size+1+1,i,none⟩=false:=fun i=>by simp [World.frozen?,jD.r8]
   have r9f:∀i,W.frozen? ⟨w.heap.size+1+1+1,i,none⟩=false:=fun i=>by simp [World.frozen?,jD.r9]
   have PI:∀i,W.frozen? ⟨w.heap.size+1+1+1+1,i,none⟩=false:=fun i=>by simp [World.frozen?,jD.oK]
   have jX:=hide jD
   have HSD:=hide hsaid
   have LZ:=hide hK
   clear jD hsaid hrc hra hK
   have L6:= @uf (w.heap.size+1+1) ⟨w2.heap.size,0,none⟩ (by show w2.heap.size≠w.heap.size+1+1;omega)
   have L8:= @uf (w.heap.size+1+1+1) ⟨w2.heap.size,0,none⟩ (by show w2.heap.size≠w.heap.size+1+1+1;omega)
   have L9:= @uf (w.heap.size+1+1+1+1) ⟨w2.heap.size,0,none⟩ (by show w2.heap.size≠w.heap.size+1+1+1+1;omega)
   have f10:= @uf (w.heap.size+1+1) ⟨w2.heap.size+1,0,none⟩ (by show w2.heap.size+1≠w.heap.size+1+1;omega)
   have f11:= @uf (w.heap.size+1+1+1) ⟨w2.heap.size+1,0,none⟩ (by show w2.heap.size+1≠w.heap.size+1+1+1;omega)
   have f12:= @uf (w.heap.size+1+1+1+1) ⟨w2.heap.size+1,0,none⟩ (by show w2.heap.size+1≠w.heap.size+1+1+1+1;omega)
   have Z:=hide (And.intro L6 (And.intro L8 (And.intro L9 (And.intro f10 (And.intro f11 f12)))))
   clear L6 L8 L9 f10 f11 f12
   gi_wp2
   refine wpIn_wide.2 ?_
   go_region_held3 (fun w'=>w'.cell? ⟨w2.heap.size,0,none⟩=some (.slice A1 es.length c1)∧w'.cell? ⟨w2.heap.size+1,0,none⟩=some (.int .i64 (a:Int)))
    ((obtain ⟨L6,L8,L9,f10,f11,f12⟩:=Z.out;(try simp only [World.cell?_drew,L6,L8,L9,f10,f11,f12]);exact ⟨o0,o1⟩))
    (fail)
   gi_wp2
   obtain ⟨Wf,hWf⟩:∃Wf,Wf=(((W.setCell ⟨w.heap.size+1+1,0,none⟩ (.slice A1 es.length c1)).setCell ⟨w.heap.size+1+1+1,0,none⟩ (.int .i64 (a:Int))).setCell ⟨w.heap.size+1+1+1+1,0,none⟩ (.int .i64 0)).drew:=⟨_,rfl⟩
   rw [←hWf]
   have hDD:W3.heap.size≤D:=hD
   have hKf:Wf.heap[D]?=some (.deferred (some [])):=by
    rw [hWf]
    show (((W.setCell _ _).setCell _ _).setCell _ _).heap[D]?=_
    rw [qe (by omega),qe (by omega),qe (by omega)];exact LZ.out
   have e8:Wf.heap[w.heap.size+1+1]?=some (.cells #[.slice A1 es.length c1] 57 (0,0)):=by
    rw [hWf]
    show (((W.setCell _ _).setCell _ _).setCell _ _).heap[w.heap.size+1+1]?=_
    rw [qe (by omega),qe (by omega)];exact qg jX.out.r8 _
   have e9:Wf.heap[w.heap.size+1+1+1]?=some (.cells #[.int .i64 (a:Int)] 3 (0,0)):=by
    rw [hWf]
    show (((W.setCell _ _).setCell _ _).setCell _ _).heap[w.heap.size+1+1+1]?=_
    rw [qe (by omega)];exact qg (by rw [qe (by omega)];exact jX.out.r9) _
   have e10:Wf.heap[w.heap.size+1+1+1+1]?=some (.cells #[.int .i64 0] 61 (0,0)):=by
    rw [hWf]
    show (((W.setCell _ _).setCell _ _).setCell _ _).heap[w.heap.size+1+1+1+1]?=_
    exact qg (by rw [qe (by omega),qe (by omega)];exact jX.out.oK) _
   have hBf:Below w.heap.size w Wf:=by
    rw [hWf]
    exact (qt (qt (qt jX.out.below (by omega) _) (by omega) _) (by omega) _).drew
   have hOf:Wf.ownsRow (w2.heap.size+5) 32 11 (.slice A1 es.length c1) es.length (es.flatMap cZ):=by
    rw [hWf]
    exact (Ew (Ew (Ew HOW.out (p:=⟨w.heap.size+1+1,0,none⟩) (by show w.heap.size+1+1<_;omega) _) (p:=⟨w.heap.size+1+1+1,0,none⟩) (by show w.heap.size+1+1+1<_;omega) _) (p:=⟨w.heap.size+1+1+1+1,0,none⟩) (by show w.heap.size+1+1+1+1<_;omega) _).drew
   have hkp:aX W3.heap.size [] Wf (Wf.putObj D (.deferred none)):=aX.putObj Wf _ hKf rfl hD
   have h8:=hkp.obj _ _ e8 rfl (by simp)
   have h9:=hkp.obj _ _ e9 rfl (by simp)
   have h10:=hkp.obj _ _ e10 rfl (by simp)
   refine ⟨by simp,.inl ⟨_,_,rfl,run_takeDeferred hKf,?_⟩⟩
   refine ⟨_,Gu (b1:=w.heap.size+1+1) (b2:=w.heap.size+1+1+1) (b3:=w.heap.size+1+1+1+1) (x1:= .slice A1 es.length c1) (x2:= .int .i64 (a:Int)) (x3:= .int .i64 0) rfl rfl rfl rfl (by kernel_rfl) (by kernel_rfl) (by kernel_rfl) (by simp [World.cell?,h8]) (by simp [World.cell?,h9]) (by simp [World.cell?,h10]),?_⟩
   rw [HSD.out]
   exact ⟨⟨_,rfl,FM (hkp.ownsRow hOf (by simp)) (by omega)⟩,hBf.trans (hkp.below (by omega) (by simp))⟩
  ·obtain ⟨er,hre⟩:=hj
   have LZ:=hide hK
   have Ae:=hide hre
   clear hre hrc hra hK
   gi_wp2
   have hkp:aX W3.heap.size [] W (W.putObj D (.deferred none)):=aX.putObj W _ LZ.out rfl hD
   have h8:=hkp.obj _ _ Ae.out.r8 rfl (by simp)
   have h9:=hkp.obj _ _ Ae.out.r9 rfl (by simp)
   have h10:=hkp.obj _ _ Ae.out.oK rfl (by simp)
   refine ⟨by simp,.inl ⟨_,_,rfl,run_takeDeferred LZ.out,?_⟩⟩
   refine ⟨_,Gu (b1:=w.heap.size+1+1) (b2:=w.heap.size+1+1+1) (b3:=w.heap.size+1+1+1+1) (x1:= .slice none 0 0) (x2:= .int .i64 0) (x3:= .int .i64 (er:Int)) rfl rfl rfl rfl (by kernel_rfl) (by kernel_rfl) (by kernel_rfl) (by simp [World.cell?,h8]) (by simp [World.cell?,h9]) (by simp [World.cell?,h10]),?_⟩
   rw [Ae.out.said]
   exact ⟨⟨_,rfl,World.ownsRow_nil _ _ _ _⟩,Ae.out.below.trans (hkp.below (by omega) (by simp))⟩
  ·exact hj.elim
end Go.Proofs.YtieeckeaijdaeaaGreatDoor
