/- A part of the proof. -/
import Derived.Test.YtcajpeiobkcliaaGreatDoorRows
import Derived.Test.YtcajpeiobkcliaaGreatDoorQiBase
import Derived.WalkSpells
import Derived.WalkLawsBesides
import Derived.RangeFuncBound
import Derived.Shelf.Abstract
import Derived.Shelf.RegionOpen
import Derived.OwnWalkIn
import Derived.TacticsInMore
import Derived.LoopNIn
import Derived.LoopIn
namespace Go.Proofs.YtcajpeiobkcliaaGreatDoor
open Go.RowKit Go.Shelf
attribute [local go_sem] Oper.semAt_some
def grp:Nat→Nat→List (Nat×Bool)
 |0,_=>[]
 |f+1,x=>if x<128 then [(x,false)] else (x%128,true)::grp f (x/128)
def encG (p:Nat×Bool):Array Value:= #[.int .u8 (p.1:Int),.bool p.2]
theorem qgc (f y:Nat) (h:y<128):grp (f+1) y=[(y,false)]:=by rw [grp,if_pos h]
theorem qd9 (f y:Nat) (h:128≤y):grp (f+1) y=(y%128,true)::grp f (y/128):=by rw [grp,if_neg (by omega)]
theorem q15 (y:Nat) (h:y<18446744073709551616):bits .and .u64 (y:Int) 127=((y%128:Nat):Int):=by
 have:bits .and .u64 (y:Int) 127=_:=u64_and_nat y 127 h (by omega)
 rw [this,nat_mask7]
theorem q16 (y:Nat) (h:y<256):((y:Nat):Int)%256=(y:Int):=by omega
set_option maxRecDepth 100000 in
set_option maxHeartbeats 400000 in
theorem qkj (b x:Nat) (w0:World) (hx:x<18446744073709551616) (hc0:w0.cell? ⟨b,0,none⟩=some (.int .u64 (x:Int))) (hf0:w0.frozen? ⟨b,0,none⟩=false):
  Iter Tryz.prog 148 #[.pointer (some ⟨b,0,none⟩)] ((grp 10 x).map encG) [b] (fun k=>k=b) w0:=by
 intro l J Jx T w1 hb1 hJ hJx hTlt hN hY h0
 have hlt:b<w0.heap.size:=World.block_lt_of_cell? w0 _ hc0
 refine callsIn_of_wp Tryz.func148 rfl trivial ?_ rfl
 simp only [Tryz.ntmps148,List.size_toArray,List.length_cons,List.length_nil,Nat.reduceAdd,Nat.reduceSub,Array.replicate_succ,Array.replicate_zero,List.push_toArray,List.append_toArray,List.nil_append,List.cons_append]
 gi_wp2
 gi_loopw [3] (fun _ wr=>∃k f y:Nat,(grp 10 x).drop k=grp f y∧y<128^f∧0<f∧y<18446744073709551616∧wr.cell? ⟨b,0,none⟩=some (.int .u64 (y:Int))∧wr.frozen? ⟨b,0,none⟩=false∧J k wr∧¬T wr b)
  (fun _ wr=>match wr.cell? ⟨b,0,none⟩ with|some (.int .u64 y)=>y.toNat|_=>0)
 case atStart=>
  refine ⟨0,10,x,rfl,by omega,by omega,hx,?_,?_,h0,hN b rfl⟩
  ·exact ((hb1.keep (B:=0) (by omega)).cell hc0 (by simp))
  ·exact ((hb1.keep (B:=0) (by omega)).frozen hc0 hf0 (by simp))
 case round=>
  obtain ⟨k,f,y,hd,hy,hf,hy64,hcy,hfy,hj,hnt⟩:=hrel
  obtain ⟨f,rfl⟩:∃g,f=g+1:=⟨f-1,by omega⟩
  have e1:=q15 y hy64
  have e2:=q16 (y%128) (by omega)
  by_cases hs:y<128
  ·have hs':(y:Int)<128:=by omega
   have e3:y%128=y:=by omega
   rw [qgc f y hs] at hd
   obtain ⟨hk,hg,hr⟩:=qki hd
   obtain ⟨fn,tmps,assign,body,hy1,hR⟩:=hY k (by simpa using hk) wr hj
   simp only [List.getElem_map,hg,encG] at hy1
   have Hr:=hide hr
   clear hr hd hg
   have hd1:decide ((127:Int)<(y:Int))=false:=by simp;omega
   gi_wp2
   refine ⟨rfl,hR.mono ?_⟩
   rintro e W3 ⟨hkp,(⟨rfl,hj3⟩|⟨rfl,hx3⟩)⟩
   ·have hc3:=hkp.cell hcy hnt
    gi_wp2
    go_end0
    refine ⟨⟨_,rfl⟩,.inl ?_⟩
    have h1:(grp 10 x).length=k+1:=by have:=List.drop_eq_nil_iff.1 Hr.out;omega
    simp only [List.length_map,h1];exact hj3
   ·gi_wp2
    go_end0
    exact ⟨⟨_,rfl⟩,.inr ⟨k+1,by omega,by simp;omega,hx3⟩⟩
  ·have hs':(128:Int)≤(y:Int):=by omega
   rw [qd9 f y (by omega)] at hd
   obtain ⟨hk,hg,hr⟩:=qki hd
   obtain ⟨fn,tmps,assign,body,hy1,hR⟩:=hY k (by simpa using hk) wr hj
   simp only [List.getElem_map,hg,encG] at hy1
   push_cast at hy1
   have Hr:=hide hr
   clear hr hd hg
   have hd1:decide ((127:Int)<(y:Int))=true:=by simp;omega
   gi_wp2
   refine ⟨rfl,hR.mono ?_⟩
   rintro e W3 ⟨hkp,(⟨rfl,hj3⟩|⟨rfl,hx3⟩)⟩
   ·have hc3:=hkp.cell hcy hnt
    have hf3:=hkp.frozen hcy hfy hnt
    gi_wp2
    have hcs:(W3.setCell ⟨b,0,none⟩ (.int .u64 ((y:Int)/128))).cell? ⟨b,0,none⟩=some (.int .u64 ((y/128:Nat):Int)):=by
     rw [World.cell?_setCell_same _ _ _ hc3];simp
    have hpow:y/128<128^f:=by rw [Nat.pow_succ] at hy;omega
    have hfp:0<f:=by
     rcases Nat.eq_zero_or_pos f with h|h
     ·subst h;simp at hy;omega
     ·exact h
    refine ⟨⟨k+1,f,y/128,Hr.out,hpow,hfp,by omega,hcs,?_,(hJ _ _ _ hj3 ((Chg.refl [b] W3).setCell (.inl (by simp)) _)).1,fun ht=>hkp.not (World.block_lt_of_cell? wr _ hcy) hnt ((hJ _ _ _ hj3 ((Chg.refl [b] W3).setCell (.inl (by simp)) _)).2 _ ht)⟩,?_⟩
    ·rw [World.frozen?_setCell];exact hf3
    ·rw [hcs,hcy];simp;omega
   ·gi_wp2
    go_end0
    exact ⟨⟨_,rfl⟩,.inr ⟨k+1,by omega,by simp;omega,hx3⟩⟩
def vbyte (p:Nat×Bool):Nat:=if p.2 then p.1+128 else p.1
def vbytes (x:Nat):List Nat:=(grp 10 x).map vbyte
theorem qsa:∀(f x:Nat),∀p∈grp f x,p.1<128
 |0,_,p,h=>by simp [grp] at h
 | f + 1, x, p, h => by
  by_cases hx:x<128
  ·rw [qgc f x hx] at h;simp at h;subst h;exact hx
  ·rw [qd9 f x (by omega)] at h
   simp at h
   rcases h with rfl|h
   ·show x%128<128;omega
   ·exact qsa f _ p h
theorem qe3:∀(f x:Nat),(grp f x).length≤f
 |0,_=>by simp [grp]
 |f+1,x=>by
  by_cases hx:x<128
  ·rw [qgc f x hx];simp
  ·rw [qd9 f x (by omega)];simp;exact qe3 f _
theorem or128 (y:Nat) (h:y<128):bits .or .u8 (y:Int) 128=((y+128:Nat):Int):=by
 have:bits .or .u8 (y:Int) 128=_:=u8_or_nat y 128 (by omega) (by omega)
 rw [this,Nat.or_comm,nat_join 7 128 y (by decide) (by omega)];omega
theorem qp0 (x:Nat) (w:World):Calls Tryz.prog 120 #[.int .u64 (x:Int)] w fun e w'=>e= .returned (.func (.func 148) #[] #[.pointer (some ⟨w.heap.size,0,none⟩)])∧w'=w.alloc (.cells #[.int .u64 (x:Int)] 30):=by
 go_enter Tryz.func120,Tryz.ntmps120
 go_wp2
 go_ret
 exact ⟨rfl,rfl⟩
def PutG (w:World) (row:Option Nat) (g:Nat):Prop:=g≠w.heap.size∧g≠w.heap.size+1∧(row=some g∨w.heap.size≤g)
def PutJ (w:World) (row:Option Nat) (base n:Nat) (xs:List Value) (x k:Nat) (W:World):Prop:=
 ∃v',OutBox w.heap.size 43 base 5 1 (PutG w row) (n+k) (xs++((vbytes x).take k).map B8) W v'∧w.grownBy W row∧w.heap.size+2≤W.heap.size
def PutA (A:Option Addr) (w:World) (n c x k:Nat) (a':Act) (_:World):Prop:=
 ∃p,(grp 10 x)[k]?=some p∧a'={tmps:= #[.slice A n c,.int .u64 (x:Int),.pointer (some ⟨w.heap.size,0,none⟩),undef,.slice none 0 0,.int .u8 (p.1:Int),.bool p.2,.int .u64 (x:Int),.func (.func 148) #[] #[.pointer (some ⟨w.heap.size+1,0,none⟩)],.int .u8 (p.1:Int),.bool p.2,undef,undef,undef,undef,undef,undef,undef,undef],defers:=[]}
set_option maxRecDepth 100000 in
set_option maxHeartbeats 400000 in
theorem qzp (x:Nat) (w:World) (base:Nat) (v:Value) (n:Nat) (xs:List Value) (hx:x<18446744073709551616)
  (hown:w.ownsRow base 5 1 v n xs) (hbase:base≤w.heap.size) (hn:n+10≤140737488355328):
  Calls Tryz.prog 73 #[v,.int .u64 (x:Int)] w fun e w'=>∃v',e= .returned v'∧w'.ownsRow base 5 1 v' (n+(vbytes x).length) (xs++(vbytes x).map B8)∧w.grownBy w' v.ownBlock∧(v'.ownBlock=v.ownBlock∨∀g,v'.ownBlock=some g→w.heap.size≤g):=by
 obtain ⟨A,c,rfl⟩:=qn6 hown
 refine callsIn_wide.1 (callsIn_of_wp_marks (n:=0) Tryz.func73 rfl trivial ?_ rfl)
 simp only [Tryz.ntmps73,List.size_toArray,List.length_cons,List.length_nil,Nat.reduceAdd,Nat.reduceSub,Array.replicate_succ,Array.replicate_zero,List.push_toArray,List.append_toArray,List.nil_append,List.cons_append]
 gi_wp2_with (refine ⟨trivial,rfl,?_⟩;refine (callsIn_wide.2 (qp0 x _)).mono ?_;rintro e w' ⟨rfl,rfl⟩)
 obtain ⟨W0,hW0⟩:∃W0,W0=(w.alloc (.cells #[.slice A n c] 43)).alloc (.cells #[.int .u64 (x:Int)] 30):=⟨_,rfl⟩
 have hsz:W0.heap.size=w.heap.size+2:=by rw [hW0];simp
 have hlen:=qe3 10 x
 have hrl:∀g,(Value.slice A n c).ownBlock=some g→g<w.heap.size:=fun g hg=>(hown.lt g hg).2
 have hbx:OutBox w.heap.size 43 base 5 1 (PutG w (Value.slice A n c).ownBlock) n xs W0 (.slice A n c):=by
  subst hW0
  exact ⟨(Below.heap_alloc _ _ _ (by simp)).trans (World.alloc_heap_new w _),(hown.alloc _).alloc _,fun g hg=>⟨by have:=hrl g hg;omega,by have:=hrl g hg;omega,.inl hg⟩⟩
 have hgr:w.grownBy W0 (Value.slice A n c).ownBlock:=by subst hW0;exact (World.grownBy_alloc w _ _).trans (World.grownBy_alloc _ _ _)
 have hxc:W0.cell? ⟨w.heap.size+1,0,none⟩=some (.int .u64 (x:Int)):=by subst hW0;have:=World.cell?_alloc_new (w.alloc (.cells #[.slice A n c] 43)) #[.int .u64 (x:Int)] 30 0;rw [World.size_alloc] at this;exact this
 have hxf:W0.frozen? ⟨w.heap.size+1,0,none⟩=false:=by subst hW0;have:=World.frozen?_alloc_new (w.alloc (.cells #[.slice A n c] 43)) #[.int .u64 (x:Int)] 30 0;rw [World.size_alloc] at this;exact this
 rw [←hW0]
 clear hW0
 refine qv5 rfl (enters_of Tryz.func148 (by kernel_rfl) rfl) (qkj (w.heap.size+1) x W0 hx hxc hxf) (by intro y hy;obtain ⟨p,_,rfl⟩:=List.mem_map.1 hy;rfl) (by simp [hsz])
  (OutT w.heap.size 43) (PutJ w (Value.slice A n c).ownBlock base n xs x) (fun _ _ _=>False) ?hJ ?hJx ?hJ0 ?hJx0 ?hTd ?hN ?h0 (PutA A w n c x) ?hA ?hassign ?hbody ?hdone ?hstop
 case hJ=>
  rintro k W W' ⟨v',hb,hg,hs⟩ hk
  have h1:w.heap.size∉ [w.heap.size+1]:=by simp
  exact ⟨⟨v',hb.keep hk h1 (fun g h=>by simpa using h.2.1),Keep.grown hg hk (by omega) (by simp),Nat.le_trans hs hk.size⟩,hb.tkeep hk h1⟩
 case hJx=>exact fun _ _ _ _ h _=>h.elim
 case hJ0=>rintro k W ⟨v',_,_,hs⟩;omega
 case hJx0=>exact fun _ _ _ h=>h.elim
 case hTd=>rintro k W b ⟨v',hb,_⟩ ht;exact hb.tdatum b ht
 case hN=>
  rintro b rfl ht
  rcases (hbx.tlist _).1 ht with h|h
  ·omega
  ·have:=hrl _ h;omega
 case h0=>exact ⟨_,by simpa using hbx,hgr,by omega⟩
 case hA=>exact fun _ _ _ _ h _=>h
 case hassign=>
  rintro l k hk W _
  simp only [List.getElem_map,encG]
  have hp:(grp 10 x)[k]?=some ((grp 10 x)[k]'(by simpa using hk)):=List.getElem?_eq_getElem _
  generalize (grp 10 x)[k]'(by simpa using hk)=p at hp
  gi_wp2
  exact ⟨Chg.refl _ _,p,hp,rfl⟩
 case hbody=>
  rintro l k a' W hk hl hr ⟨p,hp,rfl⟩ ⟨v',hb,hg,hs⟩
  obtain ⟨A1,c1,rfl⟩:=qn6 hb.row
  have hc:=hb.cell
  have hf:=hb.frozen
  have hkl:k<(grp 10 x).length:=by simpa using hk
  have hvl:k<(vbytes x).length:=by simpa [vbytes] using hkl
  have hv:(vbytes x)[k]?=some (vbyte p):=by simp [vbytes,hp]
  have hpl:p.1<128:=qsa 10 x p (List.mem_of_getElem? hp)
  have hW:=hb.lt
  have hne:(Value.slice A1 (n+k) c1).ownBlock≠some w.heap.size:=fun e=>(hb.good _ e).1 rfl
  obtain ⟨q,m⟩:=p
  have ho:=or128 q hpl
  have HX:=hide (qi3 B8 hv)
  clear hp hr hv
  cases m
  all_goals
   gi_wp2_with (gi_at_builtin;refine qr9 rfl rfl ei_u8 (hb.row.alloc _) rfl (Rd.one W _ _) rfl (by simp [Value.oneCell']) (by omega) (by omega) (by simp;omega) ?_;intro A2 c2 w1 hown1 hgr1 hbl1;obtain ⟨hc1,hf1⟩:=hb.later ((Chg.refl [] W).alloc _) hgr1 hne)
   have hst:=hb.store ((Chg.refl [] W).alloc _) hgr1 hne hown1 hbl1 (fun g hg=>⟨by omega,by omega,.inr (by omega)⟩)
   refine ⟨hst.2,.slice A2 (n+k+1) c2,?_,?_,?_⟩
   ·rw [←HX.out,←Nat.add_assoc,←List.append_assoc]
    exact hst.1
   ·refine hst.2.grown hg (fun b hb1 hb2=>?_)
    rcases (hb.tlist b).1 hb1 with h|h
    ·omega
    ·rcases (hb.good _ h).2.2 with h3|h3
     ·exact .inl h3
     ·omega
   ·have:=hst.2.size;omega
 case hdone=>
  rintro D W hD ⟨v',hb,hg,hs⟩ hK
  have hc:=hb.cell
  have hkp:Keep W0.heap.size [] W (W.putObj D (.deferred none)):=Keep.putObj W _ hK rfl hD
  gi_wp2
  refine ⟨by simp,.inl ⟨_,_,rfl,run_takeDeferred hK,?_⟩⟩
  refine ⟨_,results_tmp rfl _ _ _,v',rfl,?_,Keep.grown hg hkp (by omega) (by simp),?_⟩
  ·have h1:=hkp.ownsRow hb.row (by simp)
   rw [List.take_of_length_le (by simp [vbytes])] at h1
   simpa [vbytes] using h1
  ·rcases h:v'.ownBlock with _|g
   ·exact .inr (fun g h=>by cases h)
   ·rcases (hb.good g h).2.2 with h1|h1
    ·exact .inl h1.symm
    ·exact .inr (fun g' h'=>by cases h';exact h1)
 case hstop=>exact fun _ _ _ _ _ _ _ h _=>h.elim
theorem qi4 (x:Nat):(vbytes x).length≤10:=by unfold vbytes;rw [List.length_map];exact qe3 10 x
theorem qcp (ls:List Nat):(ls.flatMap vbytes).length≤10*ls.length:=by
 induction ls with
 |nil=>simp
 |cons x r ih=>have:=qi4 x;simp only [List.flatMap_cons,List.length_append,List.length_cons];omega
def q17 (w:World) (ls:List Nat) (n:Nat) (v i:Value) (wr:World):Prop:=
 ∃k,k≤n∧i= .int .i64 (k:Int)∧wr.ownsRow w.heap.size 5 1 v ((ls.take k).flatMap vbytes).length (((ls.take k).flatMap vbytes).map B8)∧Below w.heap.size w wr
set_option maxHeartbeats 400000 in
theorem qkk (A:Option Addr) (n c:Nat) (ls:List Nat) (w:World) (hr:Rd w w.heap.size 1 A n (ls.map U64)) (hls:∀x∈ls,x<18446744073709551616) (hn:10*n≤140737488355000):
  Calls Tryz.prog 39 #[.slice A n c] w fun e w'=>∃v,e= .returned v∧w'.ownsRow w.heap.size 5 1 v (ls.flatMap vbytes).length ((ls.flatMap vbytes).map B8)∧Below w.heap.size w w':=by
 have hlen:ls.length=n:=by simpa using hr.len
 go_enter Tryz.func39,Tryz.ntmps39
 go_wp2
 go_loopw [3,8] (q17 w ls n) (fun _ i _=>n- (intOf i).toNat)
 case atStart=>exact ⟨0,by omega,rfl,by simpa using World.ownsRow_nil _ _ _ _,Below.refl _ _⟩
 case round=>
  obtain ⟨k,hk,rfl,hown,hb⟩:=hrel
  by_cases hlt:k<n
  ·obtain ⟨ad,rfl,hbl,hl,hcell⟩:=(hr.below hb).at hlt
   have hx:=hls _ (List.getElem_mem (by omega:k<ls.length))
   simp only [List.getElem_map] at hcell
   have Z:=hide (qh0 vbytes (by omega:k<ls.length))
   have hfl:=qcp (ls.take k)
   rw [List.length_take] at hfl
   generalize ls[k]=x at hcell hx Z
   unfold U64 at hcell
   go_wp2_with (go_at_call 73;refine (qzp x _ w.heap.size _ _ _ hx hown hb.size (by omega)).mono ?_;rintro e w1 ⟨v1,rfl,hown1,hg1,hbl1⟩)
   refine ⟨⟨k+1,by omega,by go_num,?_,hb.grown hg1 hb.size (fun g hg=>(hown.lt g hg).1)⟩,by simp [intOf];omega⟩
   rw [←Z.out,List.map_append,List.length_append]
   exact hown1
  ·obtain rfl:k=n:=by omega
   go_wp2
   go_ret
   refine ⟨_,rfl,?_,hb⟩
   rw [List.take_of_length_le (by omega)] at hown
   exact hown
end Go.Proofs.YtcajpeiobkcliaaGreatDoor
