/- A part of the proof. -/
import Derived.Test.YtieeckeaijdaeaaGreatDoorQaCod1
import Derived.StillTailTactics
namespace Go.Proofs.YtieeckeaijdaeaaGreatDoor
open Go.RowKit
def qy8 (w:World) (ba:Nat) (v:Value) (w':World):Prop:=∃w1,Below w.heap.size w w1∧w'=w1.setCell ⟨ba,0,none⟩ v
set_option maxRecDepth 100000 in
set_option maxHeartbeats 400000 in
theorem qul (A:Option Addr) (n c:Nat) (l:List Nat) (k bb ba B:Nat) (w:World) (hr:Rd w B 1 A n (l.map B8)) (hB:B≤w.heap.size) (hc:n≤c) (hk:k≤n)
  (hbb:w.cell? ⟨bb,0,none⟩=some (.slice A n c)) (Vk:w.cell? ⟨ba,0,none⟩=some (.int .i64 (k:Int))) (hbf:w.frozen? ⟨ba,0,none⟩=false) (hl:∀b∈l,b<256) (hn:n≤200000000000000):
  Calls Tryz.prog 251 #[.pointer (some ⟨bb,0,none⟩),.pointer (some ⟨ba,0,none⟩)] w fun r w'=>
   r= .returned (.tuple #[.int .u64 ((ae (l.drop k)).1:Int),.int .i64 ((ae (l.drop k)).2.2:Int)])∧qy8 w ba (.int .i64 (((k+(ae (l.drop k)).2.1:Nat)):Int)) w':=by
 have hb:=World.block_lt_of_cell? w _ Vk
 have hlen:l.length=n:=by simpa using hr.len
 have hvl:=wY (l.drop k)
 rw [List.length_drop] at hvl
 have hl':∀b∈l.drop k,b<256:=fun b h=>hl b (List.mem_of_mem_drop h)
 have hm:(ae (l.drop k)).2.1≤200000000000000:=by omega
 have HR:=hide (fun A' c' (h:Rd w w.heap.size 1 A' (n-k) ((l.drop k).map B8))=>LB A' (n-k) c' (l.drop k) w h hl' (by omega))
 have HRR:=hide hr
 have HL:=hide hlen
 clear hl' hl hlen hr
 generalize ae (l.drop k)=q at*
 obtain ⟨x,m,bad⟩:=q
 simp only at*
 go_enter Tryz.func251,Tryz.ntmps251
 go_wp2_with (first
  |(refine qlf aM (by rfl) rfl rfl rfl HRR.out hc hk ?_;intro A' c' hr' hc';rw [Nat.mul_one,←List.map_drop] at hr')
  |(go_at_call 62;refine (HR.out _ _ (hr'.more hB)).mono ?_;rintro r w1 ⟨rfl,hb1⟩;have acp:=(hb1.cell (p:=⟨ba,0,none⟩) hb).trans Vk;have acr:=(hb1.frozen (p:=⟨ba,0,none⟩) hb).trans hbf))
 go_ret2
 exact ⟨rfl,w1,hb1,by simp⟩
def gT (xs:List Nat) (u:Nat) (q:List Nat×Nat×Nat):List Nat×Nat×Nat:=if q.2.2≠0 then ([],0,q.2.2) else (xs++q.1,u+q.2.1,0)
theorem qso {j:Nat} {l:List Nat} (h:(ae l).2.2=0) (xs:List Nat) (u:Nat):gT xs u (aj (j+1) l)=gT (xs++[(ae l).1]) (u+(ae l).2.1) (aj j (l.drop (ae l).2.1)):=by
 have e:aj (j+1) l=if (aj j (l.drop (ae l).2.1)).2.2≠0 then ([],0,(aj j (l.drop (ae l).2.1)).2.2) else ((ae l).1::(aj j (l.drop (ae l).2.1)).1,(ae l).2.1+(aj j (l.drop (ae l).2.1)).2.1,0):=by
  rw [aj,if_neg (by omega)]
 rw [e]
 by_cases h2:(aj j (l.drop (ae l).2.1)).2.2=0
 ·rw [if_neg (by omega)];unfold gT;simp [h2];omega
 ·rw [if_pos h2];unfold gT;simp [h2]
theorem qum {j:Nat} {l:List Nat} (h:(ae l).2.2≠0) (xs:List Nat) (u:Nat):gT xs u (aj (j+1) l)=([],0,(ae l).2.2):=by
 have e:aj (j+1) l=([],0,(ae l).2.2):=by rw [aj,if_pos h]
 rw [e];unfold gT;simp [h]
theorem qun (q:List Nat×Nat×Nat) (h:q.2.2≠0→q=([],0,q.2.2)):gT [] 0 q=q:=by
 unfold gT
 by_cases h2:q.2.2=0
 ·obtain ⟨a,b,c⟩:=q
  simp only at h2
  simp [h2]
 ·rw [if_pos h2];exact (h h2).symm
theorem qup:∀(j:Nat) (l:List Nat),(aj j l).2.2≠0→aj j l=([],0,(aj j l).2.2)
 |0,_,h=>absurd rfl h
 | j + 1, l, h => by
  rw [aj] at h⊢
  split
  ·rfl
  ·split
   ·rfl
   ·rename_i h1 h2
    rw [if_neg h1,if_neg h2] at h
    exact absurd rfl h
def q3l (w1:World) (ba tot:Nat) (r:List Nat) (v i:Value) (wr:World):Prop:=
 ∃(k u:Nat) (xs:List Nat),k≤tot∧i= .int .i64 (k:Int)∧xs.length=k∧u≤r.length∧wr.ownsRow (ba+1) 30 1 v k (xs.map aK)∧(∀x∈xs,x<18446744073709551616)∧
  wr.heap[ba]?=some (.cells #[.int .i64 ((1+u:Nat):Int)] 3 (0,0))∧Below ba w1 wr∧aj tot r=gT xs u (aj (tot-k) (r.drop u))
theorem qot {P:Program} {fn:Func} {t u v:Tmp} {ty:TypeId} {tmps:Array Value} {w:World} {b:Nat} {e:Ev} (h:fn.results= #[.cell t ty,.tmp u,.tmp v]) (ht:tmps.getD t undef= .pointer (some ⟨b,0,none⟩))
  (hagg:(isAgg ty).run P w= .ok true w) (hsz:(sizeOf ty).run P w= .ok 11 w) (hE:dN w b e):(results fn tmps).run P w= .ok (.tuple #[.agg e.cells,tmps.getD u undef,tmps.getD v undef]) w:=by
 obtain ⟨h0,h1,h2,h3,h4,h5,h6,h7,h8,h9,h10⟩:=hE
 simp at ht
 simp [results,h,ht,hagg,hsz,go_sem,h0,h1,h2,h3,h4,h5,h6,h7,h8,h9,h10,Ev.cells]
theorem uf {b:Nat} {p:Addr} (h:p.block≠b) (w:World) (o:Nat) (v:Value):(w.setCell ⟨b,o,none⟩ v).cell? p=w.cell? p:=World.cell?_setCell_other w _ p v (fun e=>h (by rw [←e]))
structure iJ (w:World) (q:Ev×Nat×Nat) (r:Ending) (w':World):Prop where
 ret:r= .returned (.tuple #[.agg q.1.cells,.int .i64 (q.2.1:Int),.int .i64 (q.2.2:Int)])
 below:Below w.heap.size w w'
theorem xe {w W:World} {b:Nat} {q:Ev×Nat×Nat} {tmps:Array Value} (hE:dN W b q.1) (hB:Below w.heap.size w W) (h6:tmps.getD 6 undef= .pointer (some ⟨b,0,none⟩)) (h7:tmps.getD 7 undef= .int .i64 (q.2.1:Int)) (h8:tmps.getD 8 undef= .int .i64 (q.2.2:Int)):
  bodyPost Tryz.prog Tryz.f238 (iJ w q) .ret {tmps:=tmps,defers:=[]} W:=
 bodyPost_ret (v:= .tuple #[.agg q.1.cells,tmps.getD 7 undef,tmps.getD 8 undef]) (qot (P:=Tryz.prog) (fn:=Tryz.f238) (t:=6) (u:=7) (v:=8) (ty:=32) rfl h6 (by kernel_rfl) (by kernel_rfl) hE) rfl ⟨by rw [h7,h8],hB⟩
theorem zW {w:World} {b:Nat} {C:Array Value} {e:Ev} {t:TypeId} (h:w.heap[b]?=some (.cells C t (0,0))) (hC:C.size=11):dN (w.setCells b 0 e.cells.toList) b e:=by
 have:=Vg h e.cells.toList (by rw [hC];rfl)
 exact OP (qc (by simpa using this))
set_option maxRecDepth 100000 in
set_option maxHeartbeats 2000000 in
theorem quq (b : Bs) (cpu : Nat) (A : Option Addr) (n c : Nat) (kd : Nat) (r : List Nat) (B : Nat) (w : World) (hL : Laid B w) (hB : B ≤ w.heap.size) (hr : Rd w w.heap.size 1 A n ((kd :: r).map B8)) (hc : n ≤ c) (hl : ∀ b ∈ kd :: r, b < 256) (hn : n ≤ 200000000000000)
  (hrt:b.right=true) (hu:(aa kd).length≠0) (eO:cpu<256):
  Calls Tryz.prog 238 #[.agg b.cells,.int .u8 (cpu:Int),.slice A n c] w (iJ w (oV b cpu kd (aj (2+(aa kd).length) r))):=by
 have hlen:r.length+1=n:=by simpa using hr.len
 obtain ⟨ad,rfl,BP,hcell0⟩:=hr.row (by omega)
 have hcl0:w.cell? ad=some (.int .u8 (kd:Int)):=by have:=hcell0 0 _ rfl;simpa [Addr.add,B8] using this
 have hkd:kd<256:=hl kd (by simp)
 have HR:=hide (fun W=>wZ b W)
 rw [hrt] at HR
 have HRT:=hide hrt
 have xg:=hide hlen
 have HHR:=hide hr
 have HB2:=hide (tZ b)
 have F8:=hide (fun W (h1:Laid B W) (h2:B≤W.heap.size)=>UW kd hkd B W h1 h2)
 have Ov:=xP kd
 have acC:(((aa kd).length:Int)==0)=false:=by rw [beq_eq_false_iff_ne];omega
 have OX:((n:Int)==0)=false:=by rw [beq_eq_false_iff_ne];omega
 have hn0:(0:Int)<(n:Int):=by omega
 have HL:=hide hL
 have d0:b.cells[0]?=some (.int .i64 b.seq):=rfl
 have d1:b.cells[1]?=some (.int .i64 b.time):=rfl
 obtain ⟨W0,hW0⟩:∃W0,W0=((w.alloc (.cells b.cells 229)).alloc (.cells #[.slice (some ad) n c] 35)).alloc (.cells #[.int .i64 0,.int .i64 0,.int .u8 0,.int .u8 0,.int .i64 0,.int .i64 0,.int .i64 0,.int .i64 0,.int .i64 0,.int .u64 0,.int .i64 0] 32):=⟨_,rfl⟩
 have hs0:W0.heap.size=w.heap.size+3:=by rw [hW0];simp
 have hb0:Below w.heap.size w W0:=by rw [hW0];exact (((Below.refl _ _).alloc (Nat.le_refl _) _).alloc (by simp) _).alloc (by simp;omega) _
 have hx1:W0.heap[w.heap.size]?=some (.cells b.cells 229):=by
  rw [hW0,Below.heap_alloc _ _ _ (by simp;omega),Below.heap_alloc _ _ _ (by simp)];exact World.alloc_heap_new w _
 have hx2:W0.heap[w.heap.size+1]?=some (.cells #[.slice (some ad) n c] 35):=by
  rw [hW0,Below.heap_alloc _ _ _ (by simp)];have:=World.alloc_heap_new (w.alloc (.cells b.cells 229)) (.cells #[.slice (some ad) n c] 35);rwa [World.size_alloc] at this
 have hx3:W0.heap[w.heap.size+1+1]?=some (.cells Ev.zero.cells 32):=by
  rw [hW0];have:=World.alloc_heap_new ((w.alloc (.cells b.cells 229)).alloc (.cells #[.slice (some ad) n c] 35)) (.cells Ev.zero.cells 32);rwa [World.size_alloc,World.size_alloc] at this
 generalize b.cells=ds at*
 have o5:=hide hx1
 have qL:=hide hx2
 have zX:=hide hx3
 have HD0:=hide (qc hx1)
 have hp0:W0.cell? ⟨w.heap.size+1,0,none⟩=some (.slice (some ad) n c):=by simp [World.cell?,hx2]
 have hc0:W0.cell? ad=some (.int .u8 (kd:Int)):=(hb0.cell BP).trans hcl0
 have LH:Laid B W0:=hL.below hb0 hB
 have hsz0:w.heap.size+3≤W0.heap.size:=by omega
 clear hx1 hx2 hx3 hr hcell0 hrt hlen hs0
 go_enter Tryz.func238,Tryz.ntmps238
 go_wp2_with (first
  |(rw [←hW0];clear hW0)
  |(with_reducible refine zm HD0.out rfl rfl rfl ed HB2.out ?_)
  |(go_at_call 203;refine (HR.out _).mono ?_;rintro r w2 ⟨rfl,hb2⟩;have hp2:=(hb2.cell (p:=⟨w.heap.size+1,0,none⟩) (by show w.heap.size+1<_;omega)).trans hp0;have hc2:=(hb2.cell (p:=ad) (by omega)).trans hc0;have hz2:=hb2.size)
  |(go_at_call 250;refine (F8.out _ (LH.below hb2 (by omega)) (by omega)).mono ?_;rintro r w3 ⟨v,xs,rfl,hown3,hb3⟩;obtain ⟨A3,c3,rfl⟩:=tN hown3;have hz3:=hb3.size)
  )
 have hp3:=(hb3.cell (p:=⟨w.heap.size+1,0,none⟩) (by show w.heap.size+1<_;omega)).trans hp2
 have hB3:Below w.heap.size w w3:=(hb0.trans (hb2.mono (by omega))).trans (hb3.mono (by omega))
 have hR3:=hide (HHR.out.below hB3)
 have acE:0<(aa kd).length:=by omega
 go_loopw [12,36] (q3l w3 w3.heap.size (2+(aa kd).length) r) (fun _ i _=>2+(aa kd).length- (intOf i).toNat)
 case atStart=>exact ⟨0,0,[],by omega,rfl,rfl,by omega,by simpa using World.ownsRow_nil _ _ _ _,by simp,World.alloc_heap_new w3 _,(Below.refl _ _).alloc (Nat.le_refl _) _,by rw [qun _ (qup _ _)];rfl⟩
 case round =>
  obtain ⟨k,u,xs,hk,rfl,hxl,hu,hown,hxs,hat,hbr,hsp⟩:=hrel
  have acF:=hbr.size
  have halt:=zl hat
  by_cases hlt:k<2+(aa kd).length
  ·have hpr:=(hbr.cell (p:=⟨w.heap.size+1,0,none⟩) (by show w.heap.size+1<_;omega)).trans hp3
   have hln:=xg.out
   have HT:=hide (qul (some ad) n c (kd::r) (1+u) (w.heap.size+1) w3.heap.size w.heap.size wr (hR3.out.below (hbr.mono (by omega))) (by omega) hc (by omega) hpr (by simp [World.cell?,hat]) (by simp [World.frozen?,hat]) hl hn)
   have hdr:(kd::r).drop (1+u)=r.drop u:=by rw [Nat.add_comm];rfl
   rw [hdr] at HT
   have hvl:=wY (r.drop u)
   rw [List.length_drop] at hvl
   have hvb:=F4 (r.drop u) (fun b hb=>hl b (List.mem_cons_of_mem _ (List.mem_of_mem_drop hb)))
   have hjj:2+(aa kd).length-k=(2+(aa kd).length- (k+1))+1:=by omega
   rw [hjj] at hsp
   have hq1:=qso (j:=2+(aa kd).length- (k+1)) (l:=r.drop u)
   have hq2:=qum (j:=2+(aa kd).length- (k+1)) (l:=r.drop u)
   rw [List.drop_drop] at hq1
   have kL:=hide hsp
   have OY:=hide hq1
   have OZ:=hide hq2
   have HXL:=hide hxl
   clear hsp hq1 hq2 hdr hjj hln hxl
   generalize ae (r.drop u)=q at HT hvl hvb OY OZ
   obtain ⟨x,m,bad⟩:=q
   simp only at HT hvl hvb OY OZ
   obtain ⟨A1,c1,rfl⟩:=tN hown
   by_cases hbad:bad=0
   ·subst hbad
    go_wp2_with (first
     |(go_at_call 251;refine HT.out.mono ?_;rintro r1 w4 ⟨rfl,w5,hb5,rfl⟩;have hown5:=fun V=>Ew (own_below hown hb5 (Nat.le_refl _)) (p:=⟨w3.heap.size,0,none⟩) (by show w3.heap.size<_;omega) V;have hz5:=hb5.size)
     |(at_builtin;refine Lu rfl rfl zz ((hown5 _).alloc _) rfl (Rd.q8c _ _ _ w5.heap.size (by simp [World.setCell])) rfl (by simp [Value.oneCell']) (by omega) (by omega) (by simp;omega) ?_;intro A6 c6 w6 hown6 oZ F7))
    have hs6:=oZ.size
    simp only [World.size_alloc] at hs6
    have hsc:∀V,(w5.setCell ⟨w3.heap.size,0,none⟩ V).heap.size=w5.heap.size:=fun V=>by simp [World.setCell]
    rw [hsc] at hs6
    refine ⟨⟨k+1,u+m,xs++[x],by omega,by go_num,by simp [HXL.out],by omega,by rw [List.map_append];exact hown6,?_,?_,?_,?_⟩,by simp [intOf];omega⟩
    ·intro y hy
     rcases List.mem_append.1 hy with hy|hy
     ·exact hxs y hy
     ·rw [List.mem_singleton.1 hy];exact hvb
    ·have h1:=qg ((hb5.block w3.heap.size halt).trans hat) (.int .i64 (1+(u:Int)+(m:Int)))
     have h2:=(Below.heap_alloc (w5.setCell ⟨w3.heap.size,0,none⟩ (.int .i64 (1+(u:Int)+(m:Int)))) (.cells #[.int .u64 (x:Int)] 30) w3.heap.size (by rw [hsc];omega)).trans h1
     refine ((oZ.block w3.heap.size (by rw [World.size_alloc,hsc];omega) (fun h=>?_)).trans h2).trans ?_
     ·have:=(hown.lt _ h.symm).1;omega
     ·rw [show 1+(u:Int)+(m:Int)=((1+(u+m):Nat):Int) by omega]
    ·exact (((hbr.trans (hb5.mono (by omega))).setCell (by show w3.heap.size≤w3.heap.size;omega) _).alloc (by rw [hsc];omega) _).grown oZ (by rw [World.size_alloc,hsc];omega) (fun g hg=>by have:=(hown.lt g hg).1;omega)
    ·rw [kL.out];exact OY.out trivial xs u
   ·have hne:((bad:Int) !=0)=true:=by rw [bne_iff_ne];omega
    have BQ:w.heap.size+1+1<w3.heap.size:=by omega
    have zY:=hide (show wr.heap[w.heap.size+1+1]?=some (.cells Ev.zero.cells 32 (0,0)) from (hbr.block _ BQ).trans ((hb3.block _ (by omega)).trans ((hb2.block _ (by omega)).trans zX.out)))
    go_wp2_with (first
     |(go_at_call 251;refine HT.out.mono ?_;rintro r1 w4 ⟨rfl,w5,hb5,rfl⟩;have hz5:=hb5.size;have F9:=hide (fun V=>(Below.heap_setCell w5 ⟨w3.heap.size,0,none⟩ V (w.heap.size+1+1) (by show w.heap.size+1+1≠w3.heap.size;omega)).trans ((hb5.block _ (by omega)).trans zY.out)))
     |(refine xW (cs:=Ev.zero.cells) (qy (F9.out _) 0 11 (Nat.le_refl _)) rfl rfl rfl rfl aU rfl (l9 Ev.zero) ?_))
    rw [kL.out,OZ.out hbad]
    rw [show oV b cpu kd ([],0,bad)=(Ev.zero,0,bad) by unfold oV;rw [if_pos hbad]]
    refine xe (b:=w.heap.size+1+1) (zW (F9.out _) rfl) ?_ rfl rfl rfl
    exact below_setCells (((hB3.trans ((hbr.trans (hb5.mono (by omega))).mono (by omega)))).setCell (by show w.heap.size≤w3.heap.size;omega) _) (by omega) _ _
  ·obtain rfl:k=2+(aa kd).length:=by omega
   have hrd:aj (2+(aa kd).length) r=(xs,u,0):=by
    rw [hsp,Nat.sub_self];unfold gT;simp [aj]
   obtain ⟨x0,x1,vs,rfl⟩:∃x0 x1 vs,xs=x0::x1::vs:=by
    match xs,hxl with
    |x0::x1::vs,_=>exact ⟨x0,x1,vs,rfl⟩
    |[_],h=>simp at h;omega
    |[],h=>simp at h;omega
   have hvl:vs.length=(aa kd).length:=by simp at hxl;omega
   have Vm:=hide hrd
   have HVL:=hide hvl
   obtain ⟨g,cc,rfl,hgb,hgl⟩:=hown.form (by omega)
   have g0:wr.cell? ⟨g,0,none⟩=some (.int .u64 (x0:Int)):=by rw [hown.cellAt 0 (by omega)];rfl
   have g1:wr.cell? ⟨g,1,none⟩=some (.int .u64 (x1:Int)):=by rw [hown.cellAt 1 (by omega)];rfl
   have hx0:=hxs x0 (by simp)
   have hx1:=hxs x1 (by simp)
   have O9:w.heap.size<w3.heap.size:=by omega
   have Pb:=qk (qk (qk HD0.out hb2 (by omega)) hb3 (by omega)) hbr O9
   have j0:=BM Pb d0
   have j1:=BM Pb d1
   have BQ:w.heap.size+1+1<w3.heap.size:=by omega
   have zY:=hide (show wr.heap[w.heap.size+1+1]?=some (.cells Ev.zero.cells 32 (0,0)) from (hbr.block _ BQ).trans ((hb3.block _ (by omega)).trans ((hb2.block _ (by omega)).trans zX.out)))
   have hpr:=(hbr.cell (p:=⟨w.heap.size+1,0,none⟩) (by show w.heap.size+1<_;omega)).trans hp3
   have xc:=HRT.out
   unfold Bs.right at xc
   simp only [decide_eq_true_eq] at xc
   obtain ⟨q3,q4,q5,q6⟩:=xc
   have hbd:(g:Nat)<wr.heap.size:=hgl
   have i1:(0:Int)<2+((aa kd).length:Int):=by omega
   have i2:(1:Int)<2+((aa kd).length:Int):=by omega
   have hout:oV b cpu kd (aj (2+(aa kd).length) r)=oV b cpu kd (x0::x1::vs,u,0):=by rw [hrd]
   have BR:=hide hout
   have hBr:Below w.heap.size w wr:=hB3.trans (hbr.mono (by omega))
   have HH:=hide hown
   clear hrd hvl hsp hxl hout hown
   by_cases c1:281474976710656-b.seq<(x0:Int)
   ·have e1:decide (281474976710656-b.seq<(x0:Int))=true:=by simpa using c1
    go_wp2
    go_quiet (fail)
    go_wp2_with (refine xW (cs:=Ev.zero.cells) (qy (show (wr.drewN nq).heap[w.heap.size+1+1]?=some (.cells Ev.zero.cells 32 (0,0)) from zY.out) 0 11 (Nat.le_refl _)) rfl rfl rfl rfl aU rfl (l9 Ev.zero) ?_)
    rw [BR.out,show oV b cpu kd (x0::x1::vs,u,0)=(Ev.zero,0,61) by unfold oV;rw [if_neg (by simp),if_pos (.inl c1)]]
    refine xe (b:=w.heap.size+1+1) (zW (show (wr.drewN nq).heap[w.heap.size+1+1]?=some (.cells Ev.zero.cells 32 (0,0)) from zY.out) rfl) ?_ rfl rfl rfl
    exact below_setCells (below_drewN hBr nq) (by omega) _ _
   ·have e1:decide (281474976710656-b.seq<(x0:Int))=false:=by simpa using c1
    by_cases c2:281474976710656-b.time<(x1:Int)
    ·have e2:decide (281474976710656-b.time<(x1:Int))=true:=by simpa using c2
     go_wp2
     go_quiet (fail)
     go_wp2_with (refine xW (cs:=Ev.zero.cells) (qy (show (wr.drewN nq).heap[w.heap.size+1+1]?=some (.cells Ev.zero.cells 32 (0,0)) from zY.out) 0 11 (Nat.le_refl _)) rfl rfl rfl rfl aU rfl (l9 Ev.zero) ?_)
     rw [BR.out,show oV b cpu kd (x0::x1::vs,u,0)=(Ev.zero,0,61) by unfold oV;rw [if_neg (by simp),if_pos (.inr c2)]]
     refine xe (b:=w.heap.size+1+1) (zW (show (wr.drewN nq).heap[w.heap.size+1+1]?=some (.cells Ev.zero.cells 32 (0,0)) from zY.out) rfl) ?_ rfl rfl rfl
     exact below_setCells (below_drewN hBr nq) (by omega) _ _
    ·have e2:decide (281474976710656-b.time<(x1:Int))=false:=by simpa using c2
     go_wp2
     go_quiet (fail)
     go_wp2
     obtain ⟨w7,hw7⟩:∃w7,w7=wr.drewN nq:=⟨_,rfl⟩
     rw [←hw7]
     have s0:w7.cell? ⟨w.heap.size,0,none⟩=some (.int .i64 b.seq):=by rw [hw7];exact j0
     have s1:w7.cell? ⟨w.heap.size,1,none⟩=some (.int .i64 b.time):=by rw [hw7];exact j1
     have s2:w7.cell? ⟨g,0,none⟩=some (.int .u64 (x0:Int)):=by rw [hw7];exact g0
     have s3:w7.cell? ⟨g,1,none⟩=some (.int .u64 (x1:Int)):=by rw [hw7];exact g1
     have s4:w7.cell? ⟨w.heap.size+1,0,none⟩=some (.slice (some ad) n c):=by rw [hw7];exact hpr
     have s5:w7.cell? ad=some (.int .u8 (kd:Int)):=by rw [hw7];exact (hbr.cell (by omega)).trans ((hb3.cell (by omega)).trans hc2)
     have Vr:Rd w7 w7.heap.size 1 (some ⟨g,0,none⟩) (2+(aa kd).length) ((x0::x1::vs).map aK):=by rw [hw7];exact (Rd.BG HH.out rfl).drewN nq
     have hcap:2+(aa kd).length≤cc:=by
      rcases HH.out.2 with ⟨h,_⟩|⟨g',cap,cur,h1,_,_,h4,_⟩
      ·cases h
      ·injection h1 with _ _ h3;omega
     have hRv:Rd w7 w7.heap.size 1 (some ⟨g,2,none⟩) (aa kd).length (vs.map aK):=by
      have h:=Vr.from (k:=2) (cap:=cc) (by omega) hcap
      rw [if_neg (by omega)] at h
      simpa [Addr.add] using h
     have hL7:Laid B w7:=by rw [hw7];exact (hL.below hBr hB).drewN nq
     have Vt:Below w.heap.size w w7:=by rw [hw7];exact below_drewN hBr nq
     have hz7:wr.heap.size≤w7.heap.size:=by rw [hw7];exact Nat.le_refl _
     have F9:=hide (show w7.heap[w.heap.size+1+1]?=some (.cells Ev.zero.cells 32 (0,0)) by rw [hw7];exact zY.out)
     have xZ:(b.ev cpu kd x0 x1).Ok:=⟨⟨by show _≤b.seq+(x0:Int);omega,by show b.seq+(x0:Int)≤_;omega⟩,⟨by show _≤b.time+(x1:Int);omega,by show b.time+(x1:Int)≤_;omega⟩,eO,hkd,zo,zo,zo,zo,zo,by show 0<18446744073709551616;omega,zo⟩
     have HW:=hide (fun W (h1:Below w7.heap.size w7 W)=>qy4 (b.ev cpu kd x0 x1) xZ (some ⟨g,2,none⟩) (aa kd).length (cc-2) vs B W (hL7.below h1 (by omega)) (by have:=h1.size;omega) ((hRv.below h1).more h1.size) (fun y hy=>hxs y (by simp [hy])))
     have hgw:g<w7.heap.size:=by omega
     have hww:w.heap.size+1<w7.heap.size:=by omega
     have haw:ad.block<w7.heap.size:=by omega
     have mU:=hide (show ∀W,Below w7.heap.size w7 W→(W.cell? ⟨w.heap.size,0,none⟩=some (.int .i64 b.seq)∧W.cell? ⟨w.heap.size,1,none⟩=some (.int .i64 b.time)∧W.cell? ⟨g,0,none⟩=some (.int .u64 (x0:Int))∧W.cell? ⟨g,1,none⟩=some (.int .u64 (x1:Int))∧W.cell? ⟨w.heap.size+1,0,none⟩=some (.slice (some ad) n c)∧W.cell? ad=some (.int .u8 (kd:Int))∧Below w7.heap.size w7 W) from fun W hB=>
      ⟨(hB.cell (by show w.heap.size<_;omega)).trans s0,(hB.cell (by show w.heap.size<_;omega)).trans s1,(hB.cell hgw).trans s2,(hB.cell hgw).trans s3,(hB.cell hww).trans s4,(hB.cell haw).trans s5,hB⟩)
     have hr0:Below w7.heap.size w7 w7:=Below.refl _ _
     have hm:w7.heap.size≤w7.heap.size:=Nat.le_refl _
     have Pf:¬cc=2:=by omega
     have ug:¬2=cc:=by omega
     have hn1:0<n:=by omega
     have i3:(2:Int)≤2+((aa kd).length:Int):=by omega
     have v1:IntKind.i64.wrap (x0:Int)=(x0:Int):=IntWalk.i64_in _ (by omega)
     have v2:IntKind.i64.wrap (x1:Int)=(x1:Int):=IntWalk.i64_in _ (by omega)
     have v3:IntKind.i64.wrap (b.seq+(x0:Int))=b.seq+(x0:Int):=IntWalk.i64_in _ (by omega)
     have v4:IntKind.i64.wrap (b.time+(x1:Int))=b.time+(x1:Int):=IntWalk.i64_in _ (by omega)
     have hres:oV b cpu kd (aj (2+(aa kd).length) r)=if (b.ev cpu kd x0 x1).qw vs≠0 then (Ev.zero,0,61) else ((b.ev cpu kd x0 x1).zj vs,1+u,0):=by
      rw [BR.out]
      unfold oV
      rw [if_neg (by simp),if_neg (by simp only [List.getD_cons_zero,List.getD_cons_succ];omega)]
      simp only [List.getD_cons_zero,List.getD_cons_succ,List.drop_succ_cons,List.drop_zero]
      by_cases h:(b.ev cpu kd x0 x1).qw vs=0
      ·rw [if_neg (by simp [h]),if_neg (by simp [h])]
       unfold Ev.zj;rw [if_pos h]
      ·rw [if_pos h,if_pos h]
     have yc:=hide hres
     clear hres
     have Ga:w7.heap[w3.heap.size]?=some (.cells #[.int .i64 ((1+u:Nat):Int)] 3 (0,0)):=by rw [hw7];exact hat
     have Gb:w3.heap.size<w7.heap.size:=by omega
     have HAT:=hide Ga
     clear hat Ga
     clear Vr hRv hL7 xZ HH hw7 j0 j1 g0 g1 hpr zY Pb hbr hb3 hb2 hb0 LH F8 HR
     go_region_held3 (fun w'=>w'.cell? ⟨w.heap.size,0,none⟩=some (.int .i64 b.seq)∧w'.cell? ⟨w.heap.size,1,none⟩=some (.int .i64 b.time)∧w'.cell? ⟨g,0,none⟩=some (.int .u64 (x0:Int))∧w'.cell? ⟨g,1,none⟩=some (.int .u64 (x1:Int))∧w'.cell? ⟨w.heap.size+1,0,none⟩=some (.slice (some ad) n c)∧w'.cell? ad=some (.int .u8 (kd:Int))∧Below w7.heap.size w7 w')
      ((refine mU.out _ ?_; first
       |with_reducible exact hr0.drew
       |with_reducible exact (hr0.alloc hm _).drew
       |with_reducible exact xh
       |with_reducible exact xh.alloc xh.size _
       |exact BH xh (Nat.le_refl _) _))
      (first
       |(go_at_call 252;refine (HW.out w7.drew hr0.drew).mono ?_;rintro r1 w8 ⟨rfl,ll⟩;have xh:=hr0.drew.trans ll;have hEV:=hide xh;simp only [Ev.cells])
       |(go_at_call 252;refine (HW.out (w7.alloc (.cells Ev.zero.cells 32)).drew (hr0.alloc hm _).drew).mono ?_;rintro r1 w8 ⟨rfl,ll⟩;have xh:=(hr0.alloc hm _).drew.trans (ll.mono (by show w7.heap.size≤(w7.alloc _).heap.size;simp));have Pg:aO w8 w7.heap.size Ev.zero:=(ll.block _ (by show w7.heap.size<(w7.alloc _).heap.size;simp)).trans (World.alloc_heap_new w7 _);have hf8:=Pg.frozen;obtain ⟨z0,z1,z2,z3,z4,z5,z6,z7,z8,z9,Ow⟩:=Pg.at;simp only [Ev.cells]))
     ·change Exit.then _ _ Exit.normal _ (w8.alloc (.cells ((b.ev cpu kd x0 x1).zj vs).cells 32))
      have Ph:=aO.new w8 ((b.ev cpu kd x0 x1).zj vs)
      have uh:=xh.alloc xh.size (.cells ((b.ev cpu kd x0 x1).zj vs).cells 32)
      have Gc:=xh.size
      generalize w8.alloc (.cells ((b.ev cpu kd x0 x1).zj vs).cells 32)=W9 at*
      generalize w8.heap.size=x9 at*
      generalize (b.ev cpu kd x0 x1).zj vs=E9 at*
      generalize (b.ev cpu kd x0 x1).qw vs=er at*
      have Gd:=uh.size
      have ui:Below w.heap.size w W9:=Vt.trans (uh.mono (by omega))
      have BS:=hide ((uh.block (w.heap.size+1+1) (by omega)).trans F9.out)
      have BU:W9.cell? ⟨w3.heap.size,0,none⟩=some (.int .i64 ((1+u:Nat):Int)):=by simp [World.cell?,(uh.block _ Gb).trans HAT.out]
      obtain ⟨m0,m1,m2,m3,m4,m5,m6,m7,m8,m9,m10⟩:=Ph.at
      by_cases her:er=0
      ·have hne:((er:Int) !=0)=false:=by rw [bne_eq_false_iff_eq];omega
       have BV:=hide her
       clear her
       go_wp2
       have BX:aO W9 (w.heap.size+1+1) Ev.zero:=BS.out
       have hf9:=BX.frozen
       obtain ⟨n0,n1,n2,n3,n4,n5,n6,n7,n8,n9,n10⟩:=BX.at
       have Pj:=hide (show ∀w':World,(∀p:Addr,p.block≠w.heap.size+1+1→w'.cell? p=W9.cell? p)→(w'.cell? ⟨x9,0,none⟩=some (.int .i64 E9.seq)∧w'.cell? ⟨x9,1,none⟩=some (.int .i64 E9.time)∧w'.cell? ⟨x9,2,none⟩=some (.int .u8 (E9.cpu:Int))∧w'.cell? ⟨x9,3,none⟩=some (.int .u8 (E9.kind:Int))∧w'.cell? ⟨x9,4,none⟩=some (.int .i64 E9.bD)∧w'.cell? ⟨x9,5,none⟩=some (.int .i64 E9.group)∧w'.cell? ⟨x9,6,none⟩=some (.int .i64 E9.to)∧w'.cell? ⟨x9,7,none⟩=some (.int .i64 E9.weight)∧w'.cell? ⟨x9,8,none⟩=some (.int .i64 E9.aL)∧w'.cell? ⟨x9,9,none⟩=some (.int .u64 (E9.mask:Int))∧w'.cell? ⟨x9,10,none⟩=some (.int .i64 E9.got)∧w'.cell? ⟨w3.heap.size,0,none⟩=some (.int .i64 ((1+u:Nat):Int))) from fun w' h=>
        ⟨(h _ (by show x9≠_;omega)).trans m0,(h _ (by show x9≠_;omega)).trans m1,(h _ (by show x9≠_;omega)).trans m2,(h _ (by show x9≠_;omega)).trans m3,(h _ (by show x9≠_;omega)).trans m4,(h _ (by show x9≠_;omega)).trans m5,(h _ (by show x9≠_;omega)).trans m6,(h _ (by show x9≠_;omega)).trans m7,(h _ (by show x9≠_;omega)).trans m8,(h _ (by show x9≠_;omega)).trans m9,(h _ (by show x9≠_;omega)).trans m10,(h _ (by show w3.heap.size≠_;omega)).trans BU⟩)
       go_region_held3 (fun w'=>w'.cell? ⟨x9,0,none⟩=some (.int .i64 E9.seq)∧w'.cell? ⟨x9,1,none⟩=some (.int .i64 E9.time)∧w'.cell? ⟨x9,2,none⟩=some (.int .u8 (E9.cpu:Int))∧w'.cell? ⟨x9,3,none⟩=some (.int .u8 (E9.kind:Int))∧w'.cell? ⟨x9,4,none⟩=some (.int .i64 E9.bD)∧w'.cell? ⟨x9,5,none⟩=some (.int .i64 E9.group)∧w'.cell? ⟨x9,6,none⟩=some (.int .i64 E9.to)∧w'.cell? ⟨x9,7,none⟩=some (.int .i64 E9.weight)∧w'.cell? ⟨x9,8,none⟩=some (.int .i64 E9.aL)∧w'.cell? ⟨x9,9,none⟩=some (.int .u64 (E9.mask:Int))∧w'.cell? ⟨x9,10,none⟩=some (.int .i64 E9.got)∧w'.cell? ⟨w3.heap.size,0,none⟩=some (.int .i64 ((1+u:Nat):Int)))
        ((refine Pj.out _ ?_;intro p hp;simp only [World.cell?_drew,uf hp]))
        (fail)
       go_wp2
       rw [yc.out,if_neg (by simp [BV.out])]
       change bodyPost _ _ _ _ _ ((fU W9 (w.heap.size+1+1) E9).drew)
       refine xe (b:=w.heap.size+1+1) (((BX.storeAll E9).at).keep (fun o v h=>by rw [World.cell?_drew];exact h)) (BH ui (by omega) E9).drew rfl ?_ ?_
       ·show Value.int .i64 (1+(u:Int))= .int .i64 ((1+u:Nat):Int)
        rw [Int.natCast_add];rfl
       ·rfl
      ·have hne:((er:Int) !=0)=true:=by rw [bne_iff_ne];omega
       have BV:=hide her
       clear her
       go_wp2_with (refine xW (cs:=Ev.zero.cells) (qy BS.out 0 11 (Nat.le_refl _)) rfl rfl rfl rfl aU rfl (l9 Ev.zero) ?_)
       rw [yc.out,if_pos BV.out]
       refine xe (b:=w.heap.size+1+1) (zW BS.out rfl) ?_ rfl rfl rfl
       exact below_setCells ui (by omega) _ _
     ·change Exit.then _ _ Exit.normal _ (fU w8 w7.heap.size ((b.ev cpu kd x0 x1).zj vs))
      have Ph:=Pg.storeAll ((b.ev cpu kd x0 x1).zj vs)
      have uh:=BH xh (Nat.le_refl _) ((b.ev cpu kd x0 x1).zj vs)
      generalize fU w8 w7.heap.size ((b.ev cpu kd x0 x1).zj vs)=W9 at*
      have Gc:w7.heap.size≤w7.heap.size:=Nat.le_refl _
      generalize (b.ev cpu kd x0 x1).zj vs=E9 at*
      generalize (b.ev cpu kd x0 x1).qw vs=er at*
      have Gd:=uh.size
      have ui:Below w.heap.size w W9:=Vt.trans (uh.mono (by omega))
      have BS:=hide ((uh.block (w.heap.size+1+1) (by omega)).trans F9.out)
      have BU:W9.cell? ⟨w3.heap.size,0,none⟩=some (.int .i64 ((1+u:Nat):Int)):=by simp [World.cell?,(uh.block _ Gb).trans HAT.out]
      obtain ⟨m0,m1,m2,m3,m4,m5,m6,m7,m8,m9,m10⟩:=Ph.at
      by_cases her:er=0
      ·have hne:((er:Int) !=0)=false:=by rw [bne_eq_false_iff_eq];omega
       have BV:=hide her
       clear her
       go_wp2
       have BX:aO W9 (w.heap.size+1+1) Ev.zero:=BS.out
       have hf9:=BX.frozen
       obtain ⟨n0,n1,n2,n3,n4,n5,n6,n7,n8,n9,n10⟩:=BX.at
       have Pj:=hide (show ∀w':World,(∀p:Addr,p.block≠w.heap.size+1+1→w'.cell? p=W9.cell? p)→(w'.cell? ⟨w7.heap.size,0,none⟩=some (.int .i64 E9.seq)∧w'.cell? ⟨w7.heap.size,1,none⟩=some (.int .i64 E9.time)∧w'.cell? ⟨w7.heap.size,2,none⟩=some (.int .u8 (E9.cpu:Int))∧w'.cell? ⟨w7.heap.size,3,none⟩=some (.int .u8 (E9.kind:Int))∧w'.cell? ⟨w7.heap.size,4,none⟩=some (.int .i64 E9.bD)∧w'.cell? ⟨w7.heap.size,5,none⟩=some (.int .i64 E9.group)∧w'.cell? ⟨w7.heap.size,6,none⟩=some (.int .i64 E9.to)∧w'.cell? ⟨w7.heap.size,7,none⟩=some (.int .i64 E9.weight)∧w'.cell? ⟨w7.heap.size,8,none⟩=some (.int .i64 E9.aL)∧w'.cell? ⟨w7.heap.size,9,none⟩=some (.int .u64 (E9.mask:Int))∧w'.cell? ⟨w7.heap.size,10,none⟩=some (.int .i64 E9.got)∧w'.cell? ⟨w3.heap.size,0,none⟩=some (.int .i64 ((1+u:Nat):Int))) from fun w' h=>
        ⟨(h _ (by show w7.heap.size≠_;omega)).trans m0,(h _ (by show w7.heap.size≠_;omega)).trans m1,(h _ (by show w7.heap.size≠_;omega)).trans m2,(h _ (by show w7.heap.size≠_;omega)).trans m3,(h _ (by show w7.heap.size≠_;omega)).trans m4,(h _ (by show w7.heap.size≠_;omega)).trans m5,(h _ (by show w7.heap.size≠_;omega)).trans m6,(h _ (by show w7.heap.size≠_;omega)).trans m7,(h _ (by show w7.heap.size≠_;omega)).trans m8,(h _ (by show w7.heap.size≠_;omega)).trans m9,(h _ (by show w7.heap.size≠_;omega)).trans m10,(h _ (by show w3.heap.size≠_;omega)).trans BU⟩)
       go_region_held3 (fun w'=>w'.cell? ⟨w7.heap.size,0,none⟩=some (.int .i64 E9.seq)∧w'.cell? ⟨w7.heap.size,1,none⟩=some (.int .i64 E9.time)∧w'.cell? ⟨w7.heap.size,2,none⟩=some (.int .u8 (E9.cpu:Int))∧w'.cell? ⟨w7.heap.size,3,none⟩=some (.int .u8 (E9.kind:Int))∧w'.cell? ⟨w7.heap.size,4,none⟩=some (.int .i64 E9.bD)∧w'.cell? ⟨w7.heap.size,5,none⟩=some (.int .i64 E9.group)∧w'.cell? ⟨w7.heap.size,6,none⟩=some (.int .i64 E9.to)∧w'.cell? ⟨w7.heap.size,7,none⟩=some (.int .i64 E9.weight)∧w'.cell? ⟨w7.heap.size,8,none⟩=some (.int .i64 E9.aL)∧w'.cell? ⟨w7.heap.size,9,none⟩=some (.int .u64 (E9.mask:Int))∧w'.cell? ⟨w7.heap.size,10,none⟩=some (.int .i64 E9.got)∧w'.cell? ⟨w3.heap.size,0,none⟩=some (.int .i64 ((1+u:Nat):Int)))
        ((refine Pj.out _ ?_;intro p hp;simp only [World.cell?_drew,uf hp]))
        (fail)
       go_wp2
       rw [yc.out,if_neg (by simp [BV.out])]
       change bodyPost _ _ _ _ _ ((fU W9 (w.heap.size+1+1) E9).drew)
       refine xe (b:=w.heap.size+1+1) (((BX.storeAll E9).at).keep (fun o v h=>by rw [World.cell?_drew];exact h)) (BH ui (by omega) E9).drew rfl ?_ ?_
       ·show Value.int .i64 (1+(u:Int))= .int .i64 ((1+u:Nat):Int)
        rw [Int.natCast_add];rfl
       ·rfl
      ·have hne:((er:Int) !=0)=true:=by rw [bne_iff_ne];omega
       have BV:=hide her
       clear her
       go_wp2_with (refine xW (cs:=Ev.zero.cells) (qy BS.out 0 11 (Nat.le_refl _)) rfl rfl rfl rfl aU rfl (l9 Ev.zero) ?_)
       rw [yc.out,if_pos BV.out]
       refine xe (b:=w.heap.size+1+1) (zW BS.out rfl) ?_ rfl rfl rfl
       exact below_setCells ui (by omega) _ _
end Go.Proofs.YtieeckeaijdaeaaGreatDoor
