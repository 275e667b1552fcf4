/- A part of the proof. -/
import Derived.Test.YtieeckeaijdaeaaGreatDoorQaCod4
namespace Go.Proofs.YtieeckeaijdaeaaGreatDoor
open Go.RowKit
theorem Vv {w:World} {g o:Nat} {e:Ev} (h:w.rangeAt g o e.cells.toList):w.cell? ⟨g,o,none⟩=some (.int .i64 e.seq)∧w.cell? ⟨g,o+1,none⟩=some (.int .i64 e.time)∧w.cell? ⟨g,o+2,none⟩=some (.int .u8 (e.cpu:Int))∧w.cell? ⟨g,o+3,none⟩=some (.int .u8 (e.kind:Int))∧w.cell? ⟨g,o+4,none⟩=some (.int .i64 e.bD)∧w.cell? ⟨g,o+5,none⟩=some (.int .i64 e.group)∧w.cell? ⟨g,o+6,none⟩=some (.int .i64 e.to)∧w.cell? ⟨g,o+7,none⟩=some (.int .i64 e.weight)∧w.cell? ⟨g,o+8,none⟩=some (.int .i64 e.aL)∧w.cell? ⟨g,o+9,none⟩=some (.int .u64 (e.mask:Int))∧w.cell? ⟨g,o+10,none⟩=some (.int .i64 e.got):=
 ⟨h 0 _ rfl,h 1 _ rfl,h 2 _ rfl,h 3 _ rfl,h 4 _ rfl,h 5 _ rfl,h 6 _ rfl,h 7 _ rfl,h 8 _ rfl,h 9 _ rfl,h 10 _ rfl⟩
def uk (b:Bs) (l:List Ev):Nat→Bs
 |0=>b
 |k+1=>match l[k]? with|some e=>e.at|none=>b
theorem Pn:∀(l:List Ev) (p:Option Ev) (i:Nat),(di p i l).2=0→(∀e∈l,e.check=0)∧(∀e,l.head?=some e→p.all (fun q=>e.after q)=true)∧(∀k (h:k+1<l.length),l[k+1].after l[k]=true)
 |[],_,_,_=>⟨by simp,by simp,by simp⟩
 | e :: r, p, i, h => by
  rw [di] at h
  split at h
  ·rename_i h1;exact absurd h h1
  ·rename_i h1
   split at h
   ·simp at h
   ·rename_i h2
    obtain ⟨g1,g2,g3⟩:=Pn r (some e) (i+1) h
    refine ⟨?_,?_,?_⟩
    ·intro x hx
     rcases List.mem_cons.1 hx with rfl|hx
     ·simpa using h1
     ·exact g1 x hx
    ·intro x hx
     simp at hx;subst hx;simpa using h2
    ·intro k hk
     cases k with
     |zero=>
      cases r with
      |nil=>simp at hk
      |cons y r=>exact by simpa using g2 y rfl
     |succ k=>exact g3 k (by simpa using hk)
theorem qou {e:Ev} (h:e.check=0):e.at.right=true:=by
 have ⟨_,_,_,h1,h2,h3,h4⟩:=xQ h
 unfold Ev.at Bs.right
 simp only [decide_eq_true_eq]
 exact ⟨h1,h2,h3,h4⟩
theorem qm1 {e q:Ev} (h:e.after q=true):q.at.behind e=true:=by
 unfold Ev.after at h
 unfold Ev.at Bs.behind
 simp only [decide_eq_true_eq] at h⊢
 omega
theorem Vz {b:Bs} {l:List Ev} (hr:(bH l).2=0) (hb:b.right=true) (hh:l.head?.all b.behind=true) (k:Nat) (hk:k<l.length):l8 (uk b l k) l[k]=0:=by
 obtain ⟨g1,_,g3⟩:=Pn l none 0 hr
 unfold l8
 rw [if_neg (by simp [g1 l[k] (List.getElem_mem _)]),if_pos]
 cases k with
 |zero=>
  refine ⟨hb,?_⟩
  cases l with
  |nil=>simp at hk
  |cons y r=>show b.behind y=true;simpa using hh
 |succ k=>
  have e:uk b l (k+1)=l[k].at:=by show (match l[k]? with|some e=>e.at|none=>b)=_;rw [List.getElem?_eq_getElem (by omega)]
  rw [e]
  exact ⟨qou (g1 l[k] (List.getElem_mem _)),qm1 (g3 k hk)⟩
theorem q3m (b:Bs) (e:Ev):(qI b e).length≤61:=by
 unfold qI
 rw [List.length_cons]
 have h1:=zu (zw b e)
 have h2:(zw b e).length≤6:=by have:=OO e;unfold zw;simp;omega
 omega
def Gh (w:World) (b:Bs) (l:List Ev) (n:Nat) (v i:Value) (wr:World):Prop:=
 ∃(k:Nat) (pre:List Nat),k≤n∧i= .int .i64 (k:Int)∧pre.length≤61*k∧wr.ownsRow (w.heap.size+1) 5 1 v pre.length (pre.map B8)∧recs b l=pre++recs (uk b l k) (l.drop k)∧
  wr.heap[w.heap.size]?=some (.cells (uk b l k).cells 229 (0,0))∧Below w.heap.size w wr
set_option maxRecDepth 100000 in
set_option maxHeartbeats 2000000 in
theorem qsp (b:Bs) (A:Option Addr) (n c:Nat) (l:List Ev) (hok:∀e∈l,e.Ok) (B:Nat) (w:World) (hL:Laid B w) (hB:B≤w.heap.size) (hr:Rd w w.heap.size 11 A n (l.flatMap cZ)) (hn:n≤1000000000000)
  (hrow:(bH l).2=0) (hrt:b.right=true) (hn0:0<n) (o6:l.head?.all b.behind=true):
  Calls Tryz.prog 164 #[.agg b.cells,.slice A n c] w (cO w 0 (recs b l)):=by
 have hlen:l.length=n:=by have:=hr.len;rw [qK cZ 11 nu] at this;omega
 obtain ⟨g,o,rfl,hgb,_,hcells⟩:=hr.struct nu (by omega) hn0
 have Po:=hide (fun k hk=>Vz hrow hrt o6 k hk)
 have rO:=hide (fun W (h:Below w.heap.size w W)=>Ex (some ⟨g,o,none⟩) n c l hok B W (hL.below h hB) (by have:=h.size;omega) ((hr.below h).more h.size) (by omega))
 have HRW:=hide hrow
 have hq:bH l=((bH l).1,0):=by rw [←hrow]
 generalize (bH l).1=x at hq
 rw [hq] at rO
 obtain ⟨e0,he0⟩:∃e0,Hid (l[0]'(by omega)=e0):=⟨_,hide rfl⟩
 have ul:b.behind e0=true:=by
  cases l with
  |nil=>simp at hlen;omega
  |cons y r=>have h1:=he0.out;simp at h1;subst h1;simpa using o6
 have HR:=hide (fun W=>wZ b W)
 rw [hrt] at HR
 have HH:=hide (fun W=>OM b e0 W)
 rw [ul] at HH
 have hc0:=hcells 0 (by omega)
 rw [Nat.zero_mul,Nat.add_zero,he0.out] at hc0
 have hc0':=hide (show w.rangeAt g o e0.cells.toList from hc0)
 have xg:=hide hlen
 have HCE:=hide hcells
 have HL:=hide hL
 have HB2:=hide (tZ b)
 have hbx:Below w.heap.size w (w.alloc (.cells b.cells 229)):=(Below.refl _ _).alloc (Nat.le_refl _) _
 have HX:=hide (World.alloc_heap_new w (.cells b.cells 229))
 have hni:(0:Int)<(n:Int):=by omega
 clear he0
 clear hq hlen hcells hr hrow hrt o6 ul hc0 hL
 go_enter Tryz.func164,Tryz.ntmps164
 go_wp2_with (first
  |(go_at_call 123;refine (rO.out _ hbx).mono ?_;rintro r w1 ⟨rfl,hb1⟩))
 have hb2:=hbx.trans (hb1.mono (by simp))
 have hz2:=hb2.size
 have hz1:w.heap.size+1≤w1.heap.size:=by have:=hb1.size;simpa using this
 have o5:=hide ((hb1.block w.heap.size (by simp)).trans HX.out)
 have d0:w1.cell? ⟨w.heap.size,0,none⟩=some (.int .i64 b.seq):=by simp [World.cell?,o5.out,Bs.cells]
 have d1:w1.cell? ⟨w.heap.size,1,none⟩=some (.int .i64 b.time):=by simp [World.cell?,o5.out,Bs.cells]
 obtain ⟨m0,m1,m2,m3,m4,m5,m6,m7,m8,m9,m10⟩:=Vv (qk hc0'.out hb2 hgb)
 have mU:=hide (show ∀w':World,Below w1.heap.size w1 w'→(w'.cell? ⟨w.heap.size,0,none⟩=some (.int .i64 b.seq)∧w'.cell? ⟨w.heap.size,1,none⟩=some (.int .i64 b.time)∧w'.cell? ⟨g,o,none⟩=some (.int .i64 e0.seq)∧w'.cell? ⟨g,o+1,none⟩=some (.int .i64 e0.time)∧w'.cell? ⟨g,o+2,none⟩=some (.int .u8 (e0.cpu:Int))∧w'.cell? ⟨g,o+3,none⟩=some (.int .u8 (e0.kind:Int))∧w'.cell? ⟨g,o+4,none⟩=some (.int .i64 e0.bD)∧w'.cell? ⟨g,o+5,none⟩=some (.int .i64 e0.group)∧w'.cell? ⟨g,o+6,none⟩=some (.int .i64 e0.to)∧w'.cell? ⟨g,o+7,none⟩=some (.int .i64 e0.weight)∧w'.cell? ⟨g,o+8,none⟩=some (.int .i64 e0.aL)∧w'.cell? ⟨g,o+9,none⟩=some (.int .u64 (e0.mask:Int))∧w'.cell? ⟨g,o+10,none⟩=some (.int .i64 e0.got)∧Below w1.heap.size w1 w') from fun w' h=>
  ⟨(h.cell (by show w.heap.size<_;omega)).trans d0,(h.cell (by show w.heap.size<_;omega)).trans d1,(h.cell (by show g<_;omega)).trans m0,(h.cell (by show g<_;omega)).trans m1,(h.cell (by show g<_;omega)).trans m2,(h.cell (by show g<_;omega)).trans m3,(h.cell (by show g<_;omega)).trans m4,(h.cell (by show g<_;omega)).trans m5,(h.cell (by show g<_;omega)).trans m6,(h.cell (by show g<_;omega)).trans m7,(h.cell (by show g<_;omega)).trans m8,(h.cell (by show g<_;omega)).trans m9,(h.cell (by show g<_;omega)).trans m10,h⟩)
 have hr0:Below w1.heap.size w1 w1:=Below.refl _ _
 go_region_held3 (fun w'=>w'.cell? ⟨w.heap.size,0,none⟩=some (.int .i64 b.seq)∧w'.cell? ⟨w.heap.size,1,none⟩=some (.int .i64 b.time)∧w'.cell? ⟨g,o,none⟩=some (.int .i64 e0.seq)∧w'.cell? ⟨g,o+1,none⟩=some (.int .i64 e0.time)∧w'.cell? ⟨g,o+2,none⟩=some (.int .u8 (e0.cpu:Int))∧w'.cell? ⟨g,o+3,none⟩=some (.int .u8 (e0.kind:Int))∧w'.cell? ⟨g,o+4,none⟩=some (.int .i64 e0.bD)∧w'.cell? ⟨g,o+5,none⟩=some (.int .i64 e0.group)∧w'.cell? ⟨g,o+6,none⟩=some (.int .i64 e0.to)∧w'.cell? ⟨g,o+7,none⟩=some (.int .i64 e0.weight)∧w'.cell? ⟨g,o+8,none⟩=some (.int .i64 e0.aL)∧w'.cell? ⟨g,o+9,none⟩=some (.int .u64 (e0.mask:Int))∧w'.cell? ⟨g,o+10,none⟩=some (.int .i64 e0.got)∧Below w1.heap.size w1 w')
  ((refine mU.out _ ?_; first
   |with_reducible exact hr0.drew
   |with_reducible exact Ca
   |with_reducible exact qM))
  (first
   |(go_at_call 203;refine (HR.out _).mono ?_;rintro r w3 ⟨rfl,hb3⟩;have qM:=hr0.drew.trans hb3)
   |(go_at_call 204;refine (HH.out _).mono ?_;rintro r w4 ⟨rfl,hb4⟩;have Ca:=qM.trans (hb4.mono qM.size)))
 have hz3:=qM.size
 have hz4:=Ca.size
 have Pp:=hide ((Ca.block w.heap.size (by omega)).trans o5.out)
 have hB4:=hb2.trans (Ca.mono (by omega))
 clear mU hr0 m0 m1 m2 m3 m4 m5 m6 m7 m8 m9 m10 d0 d1
 go_wp2
 go_loopw [8,39] (Gh w b l n) (fun _ i _=>n- (intOf i).toNat)
 case atStart=>exact ⟨0,[],by omega,rfl,by simp,World.ownsRow_nil _ _ _ _,rfl,Pp.out,hB4⟩
 case round=>
  obtain ⟨k,pre,hk,rfl,hpl,hown,hsp,l6,hb⟩:=hrel
  have hz:=hb.size
  have Pq:=zl l6
  have kL:=hide hsp
  clear hsp
  obtain ⟨A1,c1,rfl⟩:=tN hown
  by_cases hlt:k<n
  ·have hkl:k<l.length:=by rw [xg.out];exact hlt
   have hE0:=qk (HCE.out k hkl) hb hgb
   have uj:=hok l[k] (List.getElem_mem _)
   have hpk:=Po.out k hkl
   have Ps:uk b l (k+1)=l[k].at:=by show (match l[k]? with|some e=>e.at|none=>b)=_;rw [List.getElem?_eq_getElem hkl]
   have hrc:recs (uk b l k) (l.drop k)=qI (uk b l k) l[k]++recs l[k].at (l.drop (k+1)):=by rw [List.drop_eq_getElem_cons hkl,recs]
   obtain ⟨e,he⟩:∃e,l[k]=e:=⟨_,rfl⟩
   rw [he] at hE0 uj hpk Ps hrc
   have hE:=hide (show wr.rangeAt g (o+k*11) e.cells.toList from hE0)
   obtain ⟨bk,hbk⟩:∃bk,uk b l k=bk:=⟨_,rfl⟩
   rw [hbk] at hpk hrc l6
   have HBK:=hide hbk
   have VB:=hide Ps
   obtain ⟨R,hR⟩:∃R,qI bk e=R:=⟨_,rfl⟩
   rw [hR] at hrc
   have VC:=hide hrc
   have hRl:R.length≤61:=by rw [←hR];exact q3m _ _
   have hpo:tY bk e=R:=by unfold tY;rw [if_pos hpk,hR]
   have HP:=hide (fun W (h:Below w.heap.size w W)=>qy7 bk e uj B W (HL.out.below h hB) (by have:=h.size;omega))
   rw [hpk,hpo] at HP
   have hbW:=hb.alloc hz (.cells e.cells 32)
   have um:=(Below.heap_alloc wr (.cells e.cells 32) w.heap.size Pq).trans l6
   have VD:=hide (qc um)
   have VE:=dN.new wr e 32
   have hbx0:wr.heap.size≠w.heap.size:=by omega
   have LK:=hide (fun W=>(show Calls Tryz.prog 211 #[.agg e.cells] W (fun r w'=>r= .returned (.agg #[.int .i64 e.seq,.int .i64 e.time])∧Below W.heap.size W w') from Vj e W))
   clear he hpk Ps hrc hbk hR hpo hE0
   go_wp2_with (first
    |(with_reducible refine zm hE.out rfl rfl rfl aU (qo e) ?_)
    |(refine BN rfl rfl rfl rfl aU rfl (qo e) (l9 e) ?_)
    |(with_reducible refine zm (qc (World.alloc_heap_new wr (.cells e.cells 32))) rfl rfl rfl aU (qo e) ?_)
    |(with_reducible refine zm VD.out rfl rfl rfl ed (tZ bk) ?_)
    |(go_at_call 156;refine (HP.out _ hbW).mono ?_;rintro r w6 ⟨⟨vR,rfl,hown6⟩,hb6⟩;obtain ⟨A6,c6,rfl⟩:=tN hown6))
   have hz6:=hb6.size
   simp only [World.size_alloc] at hz6
   have Gi:=own_below (hown.alloc (.cells e.cells 32)) hb6 (Nat.le_refl _)
   obtain ⟨q0,q1,q2,q3,q4,q5,q6,q7,q8,q9,LF⟩:=VE.below hb6 (by simp)
   have zZ:=(hb6.block w.heap.size (by simp;omega)).trans um
   have hB6:=hbW.trans (hb6.mono (by simp;omega))
   have hrow:∀g',(Value.slice A1 pre.length c1).ownBlock=some g'→w.heap.size<g'∧g'<wr.heap.size:=fun g' h=>by have:=hown.lt g' h;omega
   have Cb:=hide hrow
   have hR6:=Rd.BG hown6 rfl
   have hx6:wr.heap.size<w6.heap.size:=by omega
   have HK:=hide (show ∀w':World,(∀o,w'.cell? ⟨wr.heap.size,o,none⟩=w6.cell? ⟨wr.heap.size,o,none⟩)→(w'.cell? ⟨wr.heap.size,0,none⟩=some (.int .i64 e.seq)∧w'.cell? ⟨wr.heap.size,1,none⟩=some (.int .i64 e.time)∧w'.cell? ⟨wr.heap.size,2,none⟩=some (.int .u8 (e.cpu:Int))∧w'.cell? ⟨wr.heap.size,3,none⟩=some (.int .u8 (e.kind:Int))∧w'.cell? ⟨wr.heap.size,4,none⟩=some (.int .i64 e.bD)∧w'.cell? ⟨wr.heap.size,5,none⟩=some (.int .i64 e.group)∧w'.cell? ⟨wr.heap.size,6,none⟩=some (.int .i64 e.to)∧w'.cell? ⟨wr.heap.size,7,none⟩=some (.int .i64 e.weight)∧w'.cell? ⟨wr.heap.size,8,none⟩=some (.int .i64 e.aL)∧w'.cell? ⟨wr.heap.size,9,none⟩=some (.int .u64 (e.mask:Int))∧w'.cell? ⟨wr.heap.size,10,none⟩=some (.int .i64 e.got)) from fun w' h=>⟨(h _).trans q0,(h _).trans q1,(h _).trans q2,(h _).trans q3,(h _).trans q4,(h _).trans q5,(h _).trans q6,(h _).trans q7,(h _).trans q8,(h _).trans q9,(h _).trans LF⟩)
   have Pt:=hide zZ
   clear hrow zZ HP hE VD VE um l6
   go_region_held3 (fun w'=>w'.cell? ⟨wr.heap.size,0,none⟩=some (.int .i64 e.seq)∧w'.cell? ⟨wr.heap.size,1,none⟩=some (.int .i64 e.time)∧w'.cell? ⟨wr.heap.size,2,none⟩=some (.int .u8 (e.cpu:Int))∧w'.cell? ⟨wr.heap.size,3,none⟩=some (.int .u8 (e.kind:Int))∧w'.cell? ⟨wr.heap.size,4,none⟩=some (.int .i64 e.bD)∧w'.cell? ⟨wr.heap.size,5,none⟩=some (.int .i64 e.group)∧w'.cell? ⟨wr.heap.size,6,none⟩=some (.int .i64 e.to)∧w'.cell? ⟨wr.heap.size,7,none⟩=some (.int .i64 e.weight)∧w'.cell? ⟨wr.heap.size,8,none⟩=some (.int .i64 e.aL)∧w'.cell? ⟨wr.heap.size,9,none⟩=some (.int .u64 (e.mask:Int))∧w'.cell? ⟨wr.heap.size,10,none⟩=some (.int .i64 e.got))
    ((refine HK.out _ ?_; intro oo; first
     |(with_reducible exact World.cell?_drew _ _)
     |exact LM oo
     |exact (dO.cell (p:=⟨wr.heap.size,oo,none⟩) (by show wr.heap.size<w8.heap.size;omega)).trans (LM oo)
     |(simp only [uf (p:=⟨wr.heap.size,oo,none⟩) hbx0];exact (dO.cell (p:=⟨wr.heap.size,oo,none⟩) (by show wr.heap.size<w8.heap.size;omega)).trans (LM oo))))
    (first
     |(refine Od rfl rfl aM Gi.drew rfl hR6.drew rfl (by simp [Value.oneCell',B8]) (by omega) (by omega) (by show w.heap.size+1≤w6.heap.size;omega) ?_;intro A8 c8 w8 Gj yh acX;have hz8:w6.heap.size≤w8.heap.size:=yh.size;have LM:∀oo,w8.cell? ⟨wr.heap.size,oo,none⟩=w6.cell? ⟨wr.heap.size,oo,none⟩:=fun oo=>World.cell?_of_block (yh.block wr.heap.size (by show wr.heap.size<w6.heap.size;omega) (fun h=>by have:=(Cb.out _ h.symm).2;omega));have Aa:=(yh.block w.heap.size (by show w.heap.size<w6.heap.size;omega) (fun h=>by have:=(Cb.out _ h.symm).1;omega)).trans Pt.out)
     |(go_at_call 211;refine (LK.out _).mono ?_;rintro r w9 ⟨rfl,dO⟩;have Gd:=dO.size;have ny:=(dO.block w.heap.size (by omega)).trans Aa;have t0:w9.cell? ⟨w.heap.size,0,none⟩=some (.int .i64 bk.seq):=by {simp [World.cell?,ny,Bs.cells]};have t1:w9.cell? ⟨w.heap.size,1,none⟩=some (.int .i64 bk.time):=by {simp [World.cell?,ny,Bs.cells]};have t2:∀oo,w9.frozen? ⟨w.heap.size,oo,none⟩=false:=fun oo=>by {simp [World.frozen?,ny]}))
   have hB8:Below w.heap.size w w8:=hB6.drew.grown yh (by show w.heap.size≤w6.heap.size;omega) (fun g' h=>by have:=(Cb.out g' h).1;omega)
   have uh:=hB8.trans (dO.mono (by omega))
   have Gl:=Ew (Ew (own_below Gj dO (Nat.le_refl _)) (p:=⟨w.heap.size,0,none⟩) (by show w.heap.size<w.heap.size+1;omega) (.int .i64 e.seq)) (p:=⟨w.heap.size,1,none⟩) (by show w.heap.size<w.heap.size+1;omega) (.int .i64 e.time)
   have iK:((w9.setCell ⟨w.heap.size,0,none⟩ (.int .i64 e.seq)).setCell ⟨w.heap.size,1,none⟩ (.int .i64 e.time)).heap[w.heap.size]?=some (.cells (uk b l (k+1)).cells 229 (0,0)):=by
    rw [VB.out]
    simp [World.setCell,Array.getElem?_modify,ny,Bs.cells,Ev.at]
   have Cc:=hide iK
   clear iK Aa ny LM t0 t1 t2 q0 q1 q2 q3 q4 q5 q6 q7 q8 q9 LF
   go_wp2
   refine ⟨⟨k+1,pre++R,by omega,by go_num,by rw [List.length_append];omega,?_,?_,Cc.out,?_⟩,by simp [intOf];omega⟩
   ·rw [List.length_append,List.map_append];exact Gl
   ·rw [kL.out,HBK.out,VC.out,VB.out,List.append_assoc]
   ·exact (uh.setCell (by show w.heap.size≤w.heap.size;omega) _).setCell (by show w.heap.size≤w.heap.size;omega) _
  ·have h1:=xg.out
   have h2:recs b l=pre:=by rw [kL.out,List.drop_eq_nil_of_le (by omega)];simp [recs]
   have H2:=hide h2
   clear h1 h2
   go_wp2
   go_ret2
   exact ⟨⟨_,rfl,by rw [H2.out];exact FM hown (by omega)⟩,hb⟩
end Go.Proofs.YtieeckeaijdaeaaGreatDoor
